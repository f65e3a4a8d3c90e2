/- The look at the chapter's example, run outright: it says true. -/
import Derived.Test.YtgabmmdllcbkoaaGreatDoorG0
import Derived.Test.YtgabmmdllcbkoaaGreatDoorVe
namespace Go.Proofs.YtgabmmdllcbkoaaGreatDoor
open Go.RowKit

/-- The slots of values that are put in boxes: function and slot. -/
def bxL : List Nat := [45001, 10002, 71001, 72002, 72003, 21023, 21002, 30002, 30003, 33010, 33012, 31003, 31004, 31005, 98005, 98006, 98007, 98008, 98009, 95002, 95003, 29002, 32001, 48003, 48004, 50004, 51004, 51005, 56002, 56003, 57003, 52003, 52004, 106002, 107003, 105002, 77002, 79021, 79003, 79004, 79005, 108003]
/-- Which slots are boxes: all, but for these. -/
def bxw (f n : Nat) : Bool :=
  if (Nat.ble 1000000 n && bxL.any fun p => Nat.beq p (f * 1000 + (n - 1000000))) = true then false
  else if f = 4 ∨ f = 32 then false
  else if f = 34 then !(Nat.beq n 1000064) else if f = 98 then !(Nat.beq n 1000091 || Nat.beq n 1000095) else if f = 47 then !(Nat.beq n 1000025) else true
theorem works_fn : Fn Tryz.prog Gd 4 [] (vbool true) := Fn.of_ev (TabOk.of_prog (bx := bxw)) 400 rfl rfl (by kernel_rfl)
end Go.Proofs.YtgabmmdllcbkoaaGreatDoor
