/- Standard at lute6. -/
import Derived.Test.YtbdhjpdjbogggaaDoorW10
namespace Go.Proofs.YtbdhjpdjbogggaaDoor
open Go.RowKit

def luteC : List Crs := [⟨67, 8, false⟩, ⟨62, 8, false⟩, ⟨57, 8, false⟩, ⟨53, 8, true⟩, ⟨48, 8, true⟩, ⟨43, 8, true⟩]
def luteS : List Int := [1, 2, 3, 4, 5, 6, 7, 8]
def luteT : List UInt8 := [108, 117, 116, 101, 54]
theorem lute_e : stE luteT = 0 := by decide +kernel
theorem lute_c : stC luteT = luteC := by decide +kernel
theorem lute_s : stS luteT = luteS := by decide +kernel

theorem std_lute (w : World) (hg : Gnd w) : Calls Tryd.prog 37 #[.string ⟨#[108, 117, 116, 101, 54]⟩] w (InsRet w luteC luteS 0) := by
  have h := standard_any ⟨luteT.toArray⟩ w hg
  rw [show (⟨luteT.toArray⟩ : ByteArray).data.toList = luteT from rfl, lute_e, lute_c, lute_s] at h
  exact h
end Go.Proofs.YtbdhjpdjbogggaaDoor
