/- The look at the chapter's example, run outright: it says true. -/
import Derived.Test.YtojjdkoglhecbaaG0
import Derived.Test.YtojjdkoglhecbaaVe
namespace Go.Proofs.Ytojjdkoglhecbaa
open Go.RowKit

/-- The slots of values that are put in boxes: function and slot. -/
def bxL : List Nat := [24001, 31002, 32002, 32003, 37003, 41004, 41007, 43003, 43004, 43005, 45005, 45006, 45007, 45008, 45009, 47002, 51004, 53002, 56003, 58003, 60002, 65001, 66002, 66003, 69023, 69002, 71002, 71003, 74010, 74012, 78003, 78004, 78005, 79005, 81003, 81004, 81005, 83005, 83006, 83007, 83008, 83009, 90003, 100002, 100003, 102002, 103001, 105003, 105004, 107004, 108004, 108005, 110002, 110003, 111003, 117003, 117004, 121002, 122003, 130002, 133002, 134021, 134003, 134004, 134005, 136003]
/-- Which slots are boxes: all, but for these. -/
def bxw (f n : Nat) : Bool :=
  if (Nat.ble 1000000 n && bxL.any fun p => Nat.beq p (f * 1000 + (n - 1000000))) = true then false
  else if f = 28 ∨ f = 103 then false
  else if f = 75 then !(Nat.beq n 1000064) else if f = 83 then !(Nat.beq n 1000091 || Nat.beq n 1000095) else if f = 104 then !(Nat.beq n 1000025) else true
theorem works_fn : Fn Try.prog Gd 28 [] (vbool true) := Fn.of_ev (TabOk.of_prog (bx := bxw)) 400 rfl rfl (by kernel_rfl)
end Go.Proofs.Ytojjdkoglhecbaa
