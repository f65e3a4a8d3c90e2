/- The law HandCosts, on values. -/
import Derived.Test.YtojjdkoglhecbaaK6
import Derived.Test.YtojjdkoglhecbaaXw
namespace Go.Proofs.Ytojjdkoglhecbaa
open Go.RowKit
set_option linter.unusedSimpArgs false
set_option linter.unusedVariables false

/-- Two chords and two grips. -/
def twoV (a b : Chord) (g k : Grip) : V := .agg [tPs a.down, tIs a.held, tIs a.opn, tPs b.down, tIs b.held, tIs b.opn, vint g.pos, tIs g.fingers, vint k.pos, tIs k.fingers]
theorem pure_two (a b : Chord) (g k : Grip) : (twoV a b g k).pure = true := by
  simp [twoV, tPs, tIs, V.pure, V.pures, vint]
set_option maxHeartbeats 4000000 in
theorem handcosts_fn (h : Hand) (a b : Chord) (fa : FitC a) (fb : FitC b) (g k : Grip) (hg : g.fingers.length ≤ 17592186044416) (hkk : k.fingers.length ≤ 17592186044416) :
    Fn Try.prog Gd 10 [h.val, twoV a b g k] (vbool true) := by
  refine Fn.of_vx0 k_theorbolaw06_HandCosts (by simp) (by rw [V.pures, pure_hand, V.pures, pure_two]; rfl) ?_
  have C1 := Own_fn h a fa g hg
  have C2 := rOwn_fn h a fa g hg
  have C3 := Step_fn h a b fa fb g k hg hkk
  have C4 := rStep_fn h a b fa fb g k hg hkk
  generalize ownR h a g = r1 at C1 C2
  generalize stepA h a g b k = r2 at C3 C4
  obtain ⟨x1, e1⟩ := r1
  obtain ⟨x2, e2⟩ := r2
  unfold Hand.val at C1 C2 C3 C4
  unfold Chord.val Chord.cells Grip.val Grip.cells at C1 C2 C3 C4
  unfold c_theorbolaw06_HandCosts Hand.val twoV
  repeat' (with_reducible first | refine x_ops ?_ | refine wk ?_ | (with_reducible refine xc (C1) ?_) | (with_reducible refine xc (C2) ?_) | (with_reducible refine xc (C3) ?_) | (with_reducible refine xc (C4) ?_) | (with_reducible refine xc (works_fn) ?_) | ((first | refine gd1 ?_ ?_ | refine gd2 ?_ ?_ | refine gd3 ?_ ?_) <;> (first | exact @False.elim _ | intro hc)))
  all_goals exact finV_lit vv rfl
end Go.Proofs.Ytojjdkoglhecbaa
