/- What stands in memory throughout: nothing. Nothing is proved of the program here. -/
import Derived.Test.YtojjdkoglhecbaaVt
import Derived.Test.YtojjdkoglhecbaaProg
namespace Go.Proofs.Ytojjdkoglhecbaa
open Go.RowKit

def nobx : Nat → Bool := fun _ => false
def allbx : Nat → Bool := fun _ => true
def gtab : Nat → List V := fun _ => []
/-- This program's ground. -/
def Gd : Ground := ⟨fun _ _ => True, fun _ _ _ _ _ _ _ _ _ _ => trivial, gtab, fun _ => rfl, fun E _ _ g => by unfold gtab; rw [At]; trivial⟩
end Go.Proofs.Ytojjdkoglhecbaa
