/- Valid rules, of both; copies. -/
import Derived.Test.YtdefefeifcdogaaGreatLB
namespace Go.Proofs.YtdefefeifcdogaaGreat
open Go.RowKit
set_option linter.unusedSimpArgs false
set_option linter.unusedVariables false

structure Rls where
  hand : Hand
  meas : Int
  conc : Bool
def Rls.val (r : Rls) : V := .agg [tIs r.hand.low, tIs r.hand.high, tBs r.hand.barre, vint r.hand.top, vint r.hand.jump, vint r.hand.shift, vint r.hand.lift, vint r.hand.bar, vint r.hand.stretch, vint r.hand.slide, vint r.meas, vbool r.conc]
attribute [go_sem] Rls.val Hand.val
theorem pure_rls (r : Rls) : r.val.pure = true := by
  rw [Rls.val, V.pure]
  simp only [V.pures, pure_tIs, pure_tBs, vint, vbool, V.pure, Bool.and_self]
noncomputable def rchk (r : Rls) : Int := if chkE r.hand ≠ 0 then chkE r.hand else if 0 ≤ r.meas ∧ r.meas ≤ 4608 then 0 else 1
theorem crules_fn (r : Rls) : Fn Tryz.prog Gd 29 [r.val] (vint (rchk r)) := by
  refine Fn.of_vx0 k_leaf_CheckRules (by simp) (by rw [V.pures, pure_rls]; rfl) ?_
  have H := hcheck_fn r.hand
  have W := lwithin_fn r.meas 0 4608
  unfold c_leaf_CheckRules
  by_cases h0 : chkE r.hand = 0
  case neg =>
    have c1 : (chkE r.hand == 0) = false := by rw [beq_eq_false_iff_ne]; exact h0
    have hq : rchk r = chkE r.hand := by rw [rchk, if_pos h0]
    replace hq := Hid.mk hq
    clear h0 W
    repeat' (with_reducible first | refine x_ops ?_ | refine wk ?_ | (with_reducible refine xc (H) ?_) | ((first | refine gd1 ?_ ?_ | refine gd2 ?_ ?_ | refine gd3 ?_ ?_) <;> (first | exact @False.elim _ | intro hc)))
    exact finV_lit vv (by rw [hq.out])
  have c1 : (chkE r.hand == 0) = true := by rw [h0]; rfl
  by_cases h1 : 0 ≤ r.meas ∧ r.meas ≤ 4608
  · have hw : (decide (0 ≤ r.meas) && decide (r.meas ≤ 4608)) = true := by simp; omega
    have hq : rchk r = 0 := by rw [rchk, if_neg (by omega), if_pos h1]
    rw [hw] at W
    replace hq := Hid.mk hq
    clear h0 h1 hw
    repeat' (with_reducible first | refine x_ops ?_ | refine wk ?_ | (with_reducible refine xc (H) ?_) | (with_reducible refine xc (W) ?_) | ((first | refine gd1 ?_ ?_ | refine gd2 ?_ ?_ | refine gd3 ?_ ?_) <;> (first | exact @False.elim _ | intro hc)))
    exact finV_lit vv (by rw [hq.out])
  · have hw : (decide (0 ≤ r.meas) && decide (r.meas ≤ 4608)) = false := by simp; omega
    have hq : rchk r = 1 := by rw [rchk, if_neg (by omega), if_neg h1]
    rw [hw] at W
    replace hq := Hid.mk hq
    clear h0 h1 hw
    repeat' (with_reducible first | refine x_ops ?_ | refine wk ?_ | (with_reducible refine xc (H) ?_) | (with_reducible refine xc (W) ?_) | ((first | refine gd1 ?_ ?_ | refine gd2 ?_ ?_ | refine gd3 ?_ ?_) <;> (first | exact @False.elim _ | intro hc)))
    exact finV_lit vv (by rw [hq.out])
theorem rcrules_fn (r : Rls) : Fn Tryz.prog Gd 30 [r.val] (vint (rchk r)) := by
  refine Fn.of_vx0 k_theorboref10_CheckRules (by simp) (by rw [V.pures, pure_rls]; rfl) ?_
  have H := rhcheck_fn r.hand
  unfold c_theorboref10_CheckRules
  by_cases h0 : chkE r.hand = 0
  case neg =>
    have c1 : (chkE r.hand == 0) = false := by rw [beq_eq_false_iff_ne]; exact h0
    have hq : rchk r = chkE r.hand := by rw [rchk, if_pos h0]
    replace hq := Hid.mk hq
    clear h0
    repeat' (with_reducible first | refine x_ops ?_ | refine wk ?_ | (with_reducible refine xc (H) ?_) | ((first | refine gd1 ?_ ?_ | refine gd2 ?_ ?_ | refine gd3 ?_ ?_) <;> (first | exact @False.elim _ | intro hc)))
    exact finV_lit vv (by rw [hq.out])
  have c1 : (chkE r.hand == 0) = true := by rw [h0]; rfl
  have hq : rchk r = if 0 ≤ r.meas ∧ r.meas ≤ 4608 then 0 else 1 := by rw [rchk, if_neg (by omega)]
  replace hq := Hid.mk hq
  clear h0
  repeat' (with_reducible first | refine x_ops ?_ | refine wk ?_ | (with_reducible refine xc (H) ?_) | ((first | refine gd1 ?_ ?_ | refine gd2 ?_ ?_ | refine gd3 ?_ ?_) <;> (first | exact @False.elim _ | intro hc)))
  all_goals refine finV_lit vv ?_
  all_goals rw [hq.out]
  all_goals first
    | (rw [if_pos (by omega)]; done)
    | (rw [if_neg (by omega)]; done)
theorem clone_fn (l : List Int) (hl : l.length ≤ 1099511627776) : Fn Tryz.prog Gd 135 [tIs l] (tIs l) := by
  refine Fn.of_vx0 k_slices_Clone_int_int (by simp) (by rw [V.pures, pure_tIs]; rfl) ?_
  unfold c_slices_Clone_int_int tIs
  repeat' (with_reducible first | refine x_ops ?_ | refine wk ?_ | ((first | refine gd1 ?_ ?_ | refine gd2 ?_ ?_ | refine gd3 ?_ ?_) <;> (first | exact @False.elim _ | intro hc)))
  refine x_eqN (by exact vw) ?_
  intro b hb
  cases b
  · repeat' (with_reducible first | refine x_ops ?_ | refine wk ?_ | ((first | refine gd1 ?_ ?_ | refine gd2 ?_ ?_ | refine gd3 ?_ ?_) <;> (first | exact @False.elim _ | intro hc)))
    refine x_appE (xs := []) (n := 0) vw vw rfl (by simp) (by omega) (by unfold Go.maxLen; omega) ?_
    repeat' (with_reducible first | refine x_ops ?_ | refine wk ?_ | ((first | refine gd1 ?_ ?_ | refine gd2 ?_ ?_ | refine gd3 ?_ ?_) <;> (first | exact @False.elim _ | intro hc)))
    exact finV_ret vv (.sl _ _ _)
  · have hl0 : l = [] := by cases l with
      | nil => rfl
      | cons a l => exact absurd (hb (by simp)) (by simp)
    subst hl0
    repeat' (with_reducible first | refine x_ops ?_ | refine wk ?_ | ((first | refine gd1 ?_ ?_ | refine gd2 ?_ ?_ | refine gd3 ?_ ?_) <;> (first | exact @False.elim _ | intro hc)))
    exact finV_ret vv (.sl _ _ _)
theorem clonec_fn (l : List Crs) (hl : l.length ≤ 1099511627776) : Fn Tryz.prog Gd 134 [tL Crs.cells l] (tL Crs.cells l) := by
  refine Fn.of_vx0 k_slices_Clone_api_Course_api_Course (by simp) (by rw [V.pures, pure_tL]; rfl) ?_
  unfold c_slices_Clone_api_Course_api_Course tL
  repeat' (with_reducible first | refine x_ops ?_ | refine wk ?_ | ((first | refine gd1 ?_ ?_ | refine gd2 ?_ ?_ | refine gd3 ?_ ?_) <;> (first | exact @False.elim _ | intro hc)))
  refine x_eqN (by exact vw) ?_
  intro b hb
  cases b
  · repeat' (with_reducible first | refine x_ops ?_ | refine wk ?_ | ((first | refine gd1 ?_ ?_ | refine gd2 ?_ ?_ | refine gd3 ?_ ?_) <;> (first | exact @False.elim _ | intro hc)))
    refine x_appE (xs := []) (n := 0) vw vw rfl (crss_len l) (by omega) (by unfold Go.maxLen; omega) ?_
    repeat' (with_reducible first | refine x_ops ?_ | refine wk ?_ | ((first | refine gd1 ?_ ?_ | refine gd2 ?_ ?_ | refine gd3 ?_ ?_) <;> (first | exact @False.elim _ | intro hc)))
    exact finV_ret vv (.sl _ _ _)
  · have hl0 : l = [] := by cases l with
      | nil => rfl
      | cons a l => exact absurd (hb (by simp [Crs.cells])) (by simp)
    subst hl0
    repeat' (with_reducible first | refine x_ops ?_ | refine wk ?_ | ((first | refine gd1 ?_ ?_ | refine gd2 ?_ ?_ | refine gd3 ?_ ?_) <;> (first | exact @False.elim _ | intro hc)))
    exact finV_ret vv (.sl _ _ _)
theorem copied_fn (x : Ins) (h1 : x.cs.length ≤ 1099511627776) (h2 : x.st.length ≤ 1099511627776) : Fn Tryz.prog Gd 63 [x.val] x.val := by
  refine Fn.of_vx0 k_leaf_copied (by simp) (by rw [V.pures, pure_ins]; rfl) ?_
  have A := clonec_fn x.cs h1
  have B := clone_fn x.st h2
  unfold c_leaf_copied
  repeat' (with_reducible first | refine x_ops ?_ | refine wk ?_ | (with_reducible refine xc (A) ?_) | (with_reducible refine xc (B) ?_) | ((first | refine gd1 ?_ ?_ | refine gd2 ?_ ?_ | refine gd3 ?_ ?_) <;> (first | exact @False.elim _ | intro hc)))
  exact finV_ret vv (.agg (.cons (.sl _ _ _) (.cons (.sl _ _ _) .nil)))
theorem rcopy_fn (x : Ins) (h1 : x.cs.length ≤ 1099511627776) (h2 : x.st.length ≤ 1099511627776) : Fn Tryz.prog Gd 139 [x.val] x.val := by
  refine Fn.of_vx0 k_theorboref01_Copy (by simp) (by rw [V.pures, pure_ins]; rfl) ?_
  unfold c_theorboref01_Copy
  repeat' (with_reducible first | refine x_ops ?_ | refine wk ?_ | ((first | refine gd1 ?_ ?_ | refine gd2 ?_ ?_ | refine gd3 ?_ ?_) <;> (first | exact @False.elim _ | intro hc)))
  refine x_appE (xs := []) (n := 0) vw vw rfl (crss_len x.cs) (by omega) (by unfold Go.maxLen; omega) ?_
  repeat' (with_reducible first | refine x_ops ?_ | refine wk ?_ | ((first | refine gd1 ?_ ?_ | refine gd2 ?_ ?_ | refine gd3 ?_ ?_) <;> (first | exact @False.elim _ | intro hc)))
  refine x_appE (xs := []) (n := 0) vw vw rfl (by simp) (by omega) (by unfold Go.maxLen; omega) ?_
  repeat' (with_reducible first | refine x_ops ?_ | refine wk ?_ | ((first | refine gd1 ?_ ?_ | refine gd2 ?_ ?_ | refine gd3 ?_ ?_) <;> (first | exact @False.elim _ | intro hc)))
  exact finV_ret vv (.agg (.cons (.sl _ _ _) (.cons (.sl _ _ _) .nil)))
end Go.Proofs.YtdefefeifcdogaaGreat
