/- The look at the chapter's example: it says true. -/
import Derived.Test.YtdefefeifcdogaaGreatXw1
import Derived.Test.YtdefefeifcdogaaGreatPw
import Derived.Test.YtdefefeifcdogaaGreatP2
namespace Go.Proofs.YtdefefeifcdogaaGreat
open Go.RowKit
set_option linter.unusedSimpArgs false
set_option linter.unusedVariables false

def hdV : V := .agg [.sl 4 [vint 0, vint 1, vint 2, vint 3] .no, .sl 4 [vint 0, vint 2, vint 3, vint 4] .no, .sl 4 [vbool true, vbool false, vbool false, vbool false] .no, vint 12, vint 7, vint 2, vint 3, vint 4, vint 2, vint 1]
def rlV (b : Bool) : V := .agg [.sl 4 [vint 0, vint 1, vint 2, vint 3] .no, .sl 4 [vint 0, vint 2, vint 3, vint 4] .no, .sl 4 [vbool true, vbool false, vbool false, vbool false] .no, vint 12, vint 7, vint 2, vint 3, vint 4, vint 2, vint 1, vint 0, vbool b]
def exNV : V := .agg [.sl 2 [vint 67, vint 5, vbool false, vint 62, vint 5, vbool false] .no, .sl 5 [vint 1, vint 2, vint 3, vint 4, vint 5] .no, .sl 2 [vbool false, vbool false, .sl 1 [vint 3, vbool false, vbool false] .no, .sl 2 [.sl 1 [vint 0] .no, .sl 1 [vint (-1)] .no] .no, vbool true, vbool false, .sl 1 [vint 4, vbool false, vbool false] .no, .sl 2 [.sl 2 [vint 1, vint 2] .no, .sl 1 [vint (-1)] .no] .no] .no]
attribute [go_sem] hdV rlV exNV
theorem ex_fn : Fn Tryz.prog Gd 60 [] exF.val := Fn.of_evV tabW_ok 400 rfl (by kernel_rfl)
theorem std_fn : Fn Tryz.prog Gd 59 [] hdV := Fn.of_evV tabW_ok 400 rfl (by kernel_rfl)
theorem si_fn : Fn Tryz.prog Gd 61 [.sl 1 [vint (-1)] .no, .sl 1 [vint (-1)] .no] (vbool true) := Fn.of_evX tabW_ok 400 rfl rfl (by kernel_rfl)
theorem works_fn : Fn Tryz.prog Gd 19 [] (vbool true) := by
  refine Fn.of_vx0 k_theorbolaw10_works (by simp) rfl ?_
  have E := ex_fn
  have S := std_fn
  have C1 : Fn Tryz.prog Gd 23 [exF.val, rlV false] (.tup [vint 4, vint 0]) := wc1
  have C2 : Fn Tryz.prog Gd 23 [exF.val, rlV true] (.tup [vint 2, vint 0]) := wc2
  have N1 : Fn Tryz.prog Gd 20 [exF.val, rlV true] (.tup [exNV, vint 0]) := wn1
  have I := si_fn
  have hn : V.norm exF.val = exF.val := rfl
  generalize exF.val = e at *
  unfold c_theorbolaw10_works
  repeat' (with_reducible first | refine x_ops ?_ | refine wk ?_ | (with_reducible refine xc (E) ?_) | (with_reducible refine xc (S) ?_) | (with_reducible refine xc (C1) ?_) | (with_reducible refine xc (C2) ?_) | (with_reducible refine xc (I) ?_) | ((first | refine gd1 ?_ ?_ | refine gd2 ?_ ?_ | refine gd3 ?_ ?_) <;> (first | exact @False.elim _ | intro hc)))
  refine x_callLF N1 vw ?_
  have a1 : (0 : Int) ≤ 1 := by decide
  have a2 : Int.toNat 1 = 1 := rfl
  have a3 : (1 : Int) < ((2 : Nat) : Int) := by decide
  have a4 : (0 : Int) < ((2 : Nat) : Int) := by decide
  have a5 : (1 : Int) < 2 := by decide
  have a6 : (0 : Int) < 2 := by decide
  repeat' (with_reducible first | refine x_ops ?_ | refine wk ?_ | (with_reducible refine xc (E) ?_) | (with_reducible refine xc (I) ?_) | ((first | refine gd1 ?_ ?_ | refine gd2 ?_ ?_ | refine gd3 ?_ ?_) <;> (first | exact @False.elim _ | intro hc)))
  exact finV_lit vv rfl
end Go.Proofs.YtdefefeifcdogaaGreat
