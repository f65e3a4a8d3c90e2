/- Closed facts of the program alone, once for all rows of this seat. -/
import Derived.Test.YtojjdkoglhecbaaRows
import Derived.KernelRfl
import Derived.JoinedOf
namespace Go.Proofs.Ytojjdkoglhecbaa
theorem andT {a b : Bool} (ha : a = true) (hb : b = true) : (a && b) = true := by rw [ha, hb]; rfl
theorem k_laidOut : laidOutB Try.prog = true := by kernel_rfl
theorem k_mapsRowed : mapsRowed Try.prog = true := by kernel_rfl
theorem k_stopsHeard : Try.prog.stopsHeard = true := by kernel_rfl
theorem k_plainKeys : Try.prog.plainKeys = Rows.handChecksRow.plainKeys := by kernel_rfl
theorem k_mayEnter : Try.prog.mayEnter = true := by kernel_rfl
theorem k_lifts : Try.prog.liftsFinal = Rows.handChecksRow.lifted := by kernel_rfl
theorem k_make : Try.prog.make = some Rows.handChecksRow.make := by kernel_rfl
end Go.Proofs.Ytojjdkoglhecbaa
