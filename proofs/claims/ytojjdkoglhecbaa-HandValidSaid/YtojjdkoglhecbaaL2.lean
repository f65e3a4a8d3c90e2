/- The error of a hand and a sequence, program and reference, on values. -/
import Derived.Test.YtojjdkoglhecbaaL1
import Derived.Test.YtojjdkoglhecbaaH8
namespace Go.Proofs.Ytojjdkoglhecbaa
open Go.RowKit
set_option linter.unusedSimpArgs false
set_option linter.unusedVariables false

/-- The error of a hand and a sequence. -/
noncomputable def bothE (h : Hand) (l : List Chord) : Int := if chkE h = 0 then seqE l else 60
theorem bothck_fn (h : Hand) (l : List Chord) (hl : Fits l) : Fn Try.prog Gd 102 [h.val, tCs l] (vint (bothE h l)) := by
  refine Fn.of_vx0 k_hand_check (by simp) (by rw [V.pures, pure_hand, V.pures, pure_tCs]; rfl) ?_
  have C1 := check_fn h
  have C2 := checkchords_fn l hl
  unfold bothE
  generalize seqE l = se at C2
  unfold tCs at C2
  unfold Hand.val at C1
  unfold c_hand_check Hand.val tCs
  by_cases he : chkE h = 0
  · rw [if_pos he]
    rw [he] at C1
    clear he
    repeat' (with_reducible first | refine x_ops ?_ | refine wk ?_ | (with_reducible refine xc (C1) ?_) | (with_reducible refine xc (C2) ?_) | ((first | refine gd1 ?_ ?_ | refine gd2 ?_ ?_ | refine gd3 ?_ ?_) <;> (first | exact @False.elim _ | intro hc)))
    all_goals exact finV_lit vv rfl
  · rw [if_neg he]
    rw [chk_bad he] at C1
    clear he
    repeat' (with_reducible first | refine x_ops ?_ | refine wk ?_ | (with_reducible refine xc (C1) ?_) | (with_reducible refine xc (C2) ?_) | ((first | refine gd1 ?_ ?_ | refine gd2 ?_ ?_ | refine gd3 ?_ ?_) <;> (first | exact @False.elim _ | intro hc)))
    all_goals exact finV_lit vv rfl
theorem rbothck_fn (h : Hand) (l : List Chord) (hl : Fits l) : Fn Try.prog Gd 113 [h.val, tCs l] (vint (bothE h l)) := by
  refine Fn.of_vx0 k_theorboref06_both (by simp) (by rw [V.pures, pure_hand, V.pures, pure_tCs]; rfl) ?_
  have C1 := rcheck_fn h
  have C2 := rcheckchords_fn l hl
  unfold bothE
  generalize seqE l = se at C2
  unfold tCs at C2
  unfold Hand.val at C1
  unfold c_theorboref06_both Hand.val tCs
  by_cases he : chkE h = 0
  · rw [if_pos he]
    rw [he] at C1
    clear he
    repeat' (with_reducible first | refine x_ops ?_ | refine wk ?_ | (with_reducible refine xc (C1) ?_) | (with_reducible refine xc (C2) ?_) | ((first | refine gd1 ?_ ?_ | refine gd2 ?_ ?_ | refine gd3 ?_ ?_) <;> (first | exact @False.elim _ | intro hc)))
    all_goals exact finV_lit vv rfl
  · rw [if_neg he]
    rw [chk_bad he] at C1
    clear he
    repeat' (with_reducible first | refine x_ops ?_ | refine wk ?_ | (with_reducible refine xc (C1) ?_) | (with_reducible refine xc (C2) ?_) | ((first | refine gd1 ?_ ?_ | refine gd2 ?_ ?_ | refine gd3 ?_ ?_) <;> (first | exact @False.elim _ | intro hc)))
    all_goals exact finV_lit vv rfl
end Go.Proofs.Ytojjdkoglhecbaa
