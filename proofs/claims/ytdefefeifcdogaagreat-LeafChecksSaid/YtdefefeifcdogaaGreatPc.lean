/- Functions of the program, as code on values by numbers: printed by a program from the program that was given, and held against it here. -/
import Derived.Test.YtdefefeifcdogaaGreatG0
namespace Go.Proofs.YtdefefeifcdogaaGreat
open Go.RowKit
set_option maxRecDepth 100000

abbrev c_slices_Clone_int_int_b_p1 : VC := (.seq (.ops 0 [oo 2 .mv [(.c (.sl 0 [] .exact))]]) .ret)
abbrev c_slices_Clone_int_int_b_p2 : VC := (.seq (.ops 4 [oo 5 (.mksl 0 1 [] []) [], oo 6 .mv [.t 0], oo 7 (.appB 3 1 8) [.t 5, .t 6], oo 2 .mv [.t 7]]) .ret)
abbrev c_slices_Clone_int_int_b_p3 : VC := (.seq (.seq (.ops 0 [oo 3 .mv [.t 0], oo 4 (.eqN false) [.t 3]]) (.cond (.t 4) c_slices_Clone_int_int_b_p1 .skip)) c_slices_Clone_int_int_b_p2)
def c_slices_Clone_int_int_b : VC := (.seq (.ops 0 [oo 2 .mv [(.c (.sl 0 [] .exact))]]) c_slices_Clone_int_int_b_p3)
theorem k_slices_Clone_int_int_b : Comp Tryz.prog (fun n => [7].contains n) gtab 135 8 c_slices_Clone_int_int_b [.t 2] := ⟨⟨Tryz.f135, _, Tryz.func135, rfl, rfl, kr, kr⟩⟩
end Go.Proofs.YtdefefeifcdogaaGreat
