/- Closed facts of the program alone, once for all cards of this seat. -/
import Derived.Test.YtbdhjpdjbogggaaDoorCards
import Derived.Test.YtbdhjpdjbogggaaDoorTie
import Derived.KernelRfl
import Derived.JoinedOf
namespace Go.Proofs.YtbdhjpdjbogggaaDoor
theorem andT {a b : Bool} (ha : a = true) (hb : b = true) : (a && b) = true := by rw [ha, hb]; rfl
theorem k_laidOut : laidOutB Tryd.prog = true := by kernel_rfl
theorem k_mapsRowed : mapsRowed Tryd.prog = true := by kernel_rfl
theorem k_stopsHeard : Tryd.prog.stopsHeard = true := by kernel_rfl
theorem k_plainKeys : Tryd.prog.plainKeys = Rows.instrumentSpellsRow.plainKeys := by kernel_rfl
theorem k_mayEnter : Tryd.prog.mayEnter = true := by kernel_rfl
theorem k_lifts : Tryd.prog.liftsFinal = Rows.instrumentSpellsRow.lifted := by kernel_rfl
theorem k_make : Tryd.prog.make = some Rows.instrumentSpellsRow.make := by kernel_rfl
theorem k_main : Tryd.prog.mainIs = some (Rows.instrumentSpellsCard.stood.harness.1, Rows.instrumentSpellsCard.stood.harness.2.toList) := by kernel_rfl
theorem k_looks : false = Tryd.prog.looks [] := by kernel_rfl
end Go.Proofs.YtbdhjpdjbogggaaDoor
