/- Closed facts of the program alone, once for all cards of this seat. -/
import Derived.Test.YtgabmmdllcbkoaaGreatDoorCards
import Derived.Test.YtgabmmdllcbkoaaGreatDoorTie
import Derived.KernelRfl
import Derived.JoinedOf
namespace Go.Proofs.YtgabmmdllcbkoaaGreatDoor
theorem andT {a b : Bool} (ha : a = true) (hb : b = true) : (a && b) = true := by rw [ha, hb]; rfl
theorem k_laidOut : laidOutB Tryz.prog = true := by kernel_rfl
theorem k_mapsRowed : mapsRowed Tryz.prog = true := by kernel_rfl
theorem k_stopsHeard : Tryz.prog.stopsHeard = true := by kernel_rfl
theorem k_plainKeys : Tryz.prog.plainKeys = Rows.handTextsRow.plainKeys := by kernel_rfl
theorem k_mayEnter : Tryz.prog.mayEnter = true := by kernel_rfl
theorem k_lifts : Tryz.prog.liftsFinal = Rows.handTextsRow.lifted := by kernel_rfl
theorem k_make : Tryz.prog.make = some Rows.handTextsRow.make := by kernel_rfl
theorem k_main : Tryz.prog.mainIs = some (Rows.handTextsCard.stood.harness.1, Rows.handTextsCard.stood.harness.2.toList) := by kernel_rfl
theorem k_looks : true = Tryz.prog.looks [] := by kernel_rfl
end Go.Proofs.YtgabmmdllcbkoaaGreatDoor
