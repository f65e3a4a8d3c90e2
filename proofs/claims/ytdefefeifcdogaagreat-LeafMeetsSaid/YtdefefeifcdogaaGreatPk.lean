/- Closed facts of the program alone, once for all rows of this seat. -/
import Derived.Test.YtdefefeifcdogaaGreatRows
import Derived.KernelRfl
import Derived.JoinedOf
namespace Go.Proofs.YtdefefeifcdogaaGreat
theorem andT {a b : Bool} (ha : a = true) (hb : b = true) : (a && b) = true := by rw [ha, hb]; rfl
theorem k_laidOut : laidOutB Tryz.prog = true := by kernel_rfl
theorem k_mapsRowed : mapsRowed Tryz.prog = true := by kernel_rfl
theorem k_stopsHeard : Tryz.prog.stopsHeard = true := by kernel_rfl
theorem k_plainKeys : Tryz.prog.plainKeys = Rows.leafChecksRow.plainKeys := by kernel_rfl
theorem k_mayEnter : Tryz.prog.mayEnter = true := by kernel_rfl
theorem k_lifts : Tryz.prog.liftsFinal = Rows.leafChecksRow.lifted := by kernel_rfl
theorem k_make : Tryz.prog.make = some Rows.leafChecksRow.make := by kernel_rfl
end Go.Proofs.YtdefefeifcdogaaGreat
