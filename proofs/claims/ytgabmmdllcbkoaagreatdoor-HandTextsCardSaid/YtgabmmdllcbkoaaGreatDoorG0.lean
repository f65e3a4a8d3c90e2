/- What stands in memory throughout: two errors of the library, and a number. Nothing is proved of the program here. -/
import Derived.Test.YtgabmmdllcbkoaaGreatDoorVt
import Derived.Test.YtgabmmdllcbkoaaGreatDoorProg
import Derived.KernelRfl
namespace Go.Proofs.YtgabmmdllcbkoaaGreatDoor
open Go.RowKit

def nobx : Nat → Bool := fun _ => false
def allbx : Nat → Bool := fun _ => true
def gtab : Nat → List V := fun _ => []
/-- Operations in short. -/
abbrev oo (d : Nat) (op : VO) (l : List Opd) : VI := ⟨some d, none, op, l, none⟩
abbrev od (d : Nat) (op : VO) (l : List Opd) (a : List Nat) : VI := ⟨some d, none, op, l, some a⟩
abbrev og (d g : Nat) (w : Bool) (op : VO) (l : List Opd) : VI := ⟨some d, some (g, w), op, l, none⟩
abbrev kk (n : Int) : Opd := .c (.lit (.int .i64 n))
abbrev li (n : Int) : V := .lit (.int .i64 n)
/-- The kernel finds it so. -/
theorem kr {p : Prop} (h : p := by kernel_rfl) : p := h
/-- The cells of the library that are read. -/
structure GOk (M : Nat → Nat → Option Value) : Prop where
  sy : ∃ te pe, M 0 0 = some (.iface te pe)
  ra : ∃ te pe, M 1 0 = some (.iface te pe)
  ml : ∃ m, M 3 0 = some (.int .i64 m)
theorem GOk.mono {M M' : Nat → Nat → Option Value} (h : ∀ b o v, M b o = some v → M' b o = some v) (hM : GOk M) : GOk M' :=
  ⟨hM.sy.elim fun a x => x.elim fun b x => ⟨a, b, h _ _ _ x⟩, hM.ra.elim fun a x => x.elim fun b x => ⟨a, b, h _ _ _ x⟩, hM.ml.elim fun m hm => ⟨m, h _ _ _ hm⟩⟩
/-- This program's ground. -/
def Gd : Ground := ⟨fun M _ => GOk M, fun _ _ _ _ _ _ _ _ hs h => GOk.mono hs.le.M h, gtab, fun _ => rfl, fun E _ _ g => by unfold gtab; rw [At]; trivial⟩
end Go.Proofs.YtgabmmdllcbkoaaGreatDoor
