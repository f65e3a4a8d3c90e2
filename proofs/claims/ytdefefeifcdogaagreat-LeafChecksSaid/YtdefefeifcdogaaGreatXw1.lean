/- The look at the chapter's example: two counts, and what is narrowed, run outright. -/
import Derived.Test.YtdefefeifcdogaaGreatXw0
namespace Go.Proofs.YtdefefeifcdogaaGreat
open Go.RowKit
/-- The example, narrowed. -/
def exN : Lf := ⟨⟨[⟨67, 5, false⟩, ⟨62, 5, false⟩], [1, 2, 3, 4, 5]⟩, [⟨false, false, [⟨3, false, false⟩], [[0], [-1]]⟩, ⟨true, false, [⟨4, false, false⟩], [[1, 2], [-1]]⟩]⟩
set_option maxRecDepth 100000 in
theorem wc1 : Fn Tryz.prog Gd 23 [exF.val, (exR false).val] (.tup [vint 4, vint 0]) := Fn.of_evX tabW_ok 400 rfl rfl (by kernel_rfl)
set_option maxRecDepth 100000 in
theorem wc2 : Fn Tryz.prog Gd 23 [exF.val, (exR true).val] (.tup [vint 2, vint 0]) := Fn.of_evX tabW_ok 400 rfl rfl (by kernel_rfl)
set_option maxRecDepth 100000 in
theorem wn1 : Fn Tryz.prog Gd 20 [exF.val, (exR true).val] (.tup [exN.val, vint 0]) := Fn.of_evV tabW_ok 400 rfl (by kernel_rfl)
end Go.Proofs.YtdefefeifcdogaaGreat
