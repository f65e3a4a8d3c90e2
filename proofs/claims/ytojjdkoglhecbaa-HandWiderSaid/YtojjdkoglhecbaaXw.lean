/- The look at the chapter's example, run outright: it says true. -/
import Derived.Test.YtojjdkoglhecbaaG0
import Derived.Test.YtojjdkoglhecbaaVe
namespace Go.Proofs.Ytojjdkoglhecbaa
open Go.RowKit

/-- Which slots are boxes: all, but for these. -/
def bxw (f n : Nat) : Bool :=
  if f = 28 ∨ f = 103 then false
  else if f = 75 then !(Nat.beq n 1000064) else if f = 83 then !(Nat.beq n 1000091 || Nat.beq n 1000095) else if f = 104 then !(Nat.beq n 1000025) else true
theorem works_fn : Fn Try.prog Gd 28 [] (vbool true) := Fn.of_ev (TabOk.of_prog (bx := bxw)) 400 rfl rfl (by kernel_rfl)
end Go.Proofs.Ytojjdkoglhecbaa
