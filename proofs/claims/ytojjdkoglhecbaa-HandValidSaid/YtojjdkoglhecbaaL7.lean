/- The law HandValid, on values. -/
import Derived.Test.YtojjdkoglhecbaaL6
import Derived.Test.YtojjdkoglhecbaaXw
namespace Go.Proofs.Ytojjdkoglhecbaa
open Go.RowKit
set_option linter.unusedSimpArgs false
set_option linter.unusedVariables false

/-- A search: a hand and a sequence. -/
def srV (h : Hand) (l : List Chord) : V := .agg [tIs h.low, tIs h.high, tBs h.barre, vint h.top, vint h.jump, vint h.shift, vint h.lift, vint h.bar, vint h.stretch, vint h.slide, tCs l]
theorem pure_sr (h : Hand) (l : List Chord) : (srV h l).pure = true := by
  rw [srV, V.pure]
  simp only [V.pures, pure_tIs, pure_tBs, pure_tCs, vint, V.pure, Bool.and_self]
theorem handvalid_fn (h : Hand) (l : List Chord) (hl : Fits l) (g : List Grip) (hg : FitsG g) : Fn Try.prog Gd 17 [srV h l, tGs g] (vbool true) := by
  refine Fn.of_vx0 k_theorbolaw06_HandValid (by simp) (by rw [V.pures, pure_sr, V.pures, pure_tGs]; rfl) ?_
  have C1 := valid_fn h l hl g hg
  have C2 := rvalid_fn h l hl g hg
  have C3 := hardest_fn h l hl g hg
  have C4 := rhardest_fn h l hl g hg
  have C5 := works_fn
  clear hl hg
  generalize valR h l g = v at C1 C2
  generalize hrdR h l g = w at C3 C4
  unfold Hand.val at C1 C2 C3 C4
  unfold tCs tGs at C1 C2 C3 C4
  unfold c_theorbolaw06_HandValid srV tCs tGs
  repeat' (with_reducible first | refine x_ops ?_ | refine wk ?_ | (with_reducible refine xc (C1) ?_) | (with_reducible refine xc (C2) ?_) | (with_reducible refine xc (C3) ?_) | (with_reducible refine xc (C4) ?_) | (with_reducible refine xc (C5) ?_) | ((first | refine gd1 ?_ ?_ | refine gd2 ?_ ?_ | refine gd3 ?_ ?_) <;> (first | exact @False.elim _ | intro hc)))
  exact finV_dry rfl vv
end Go.Proofs.Ytojjdkoglhecbaa
