/- What stands in memory throughout: nothing. Nothing is proved of the program here. -/
import Derived.Test.YtdefefeifcdogaaGreatVt
import Derived.Test.YtdefefeifcdogaaGreatProg
import Derived.KernelRfl
namespace Go.Proofs.YtdefefeifcdogaaGreat
open Go.RowKit

def nobx : Nat → Bool := fun _ => false
def allbx : Nat → Bool := fun _ => true
def gtab : Nat → List V := fun _ => []
/-- Operations in short. -/
abbrev oo (d : Nat) (op : VO) (l : List Opd) : VI := ⟨some d, none, op, l, none⟩
abbrev od (d : Nat) (op : VO) (l : List Opd) (a : List Nat) : VI := ⟨some d, none, op, l, some a⟩
abbrev og (d g : Nat) (w : Bool) (op : VO) (l : List Opd) : VI := ⟨some d, some (g, w), op, l, none⟩
abbrev kk (n : Int) : Opd := .c (.lit (.int .i64 n))
abbrev li (n : Int) : V := .lit (.int .i64 n)
/-- The kernel finds it so. -/
theorem kr {p : Prop} (h : p := by kernel_rfl) : p := h
/-- This program's ground. -/
def Gd : Ground := ⟨fun _ _ => True, fun _ _ _ _ _ _ _ _ _ _ => trivial, gtab, fun _ => rfl, fun E _ _ g => by unfold gtab; rw [At]; trivial⟩
end Go.Proofs.YtdefefeifcdogaaGreat
