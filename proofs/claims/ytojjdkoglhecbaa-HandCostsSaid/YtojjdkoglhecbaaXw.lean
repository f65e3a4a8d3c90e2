/- The look at the chapter's example, run outright: it says true. -/
import Derived.Test.YtojjdkoglhecbaaTb
namespace Go.Proofs.Ytojjdkoglhecbaa
open Go.RowKit

theorem works_fn : Fn Try.prog Gd 28 [] (vbool true) := Fn.of_ev tb_ok 400 rfl rfl (by kernel_rfl)
end Go.Proofs.Ytojjdkoglhecbaa
