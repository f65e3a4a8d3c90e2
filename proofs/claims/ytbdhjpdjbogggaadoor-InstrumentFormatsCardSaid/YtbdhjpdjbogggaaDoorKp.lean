/- Keeping a world over a region that draws its order. -/
import Derived.Test.YtbdhjpdjbogggaaDoorBase
import Derived.Deep.RegionHeld3
namespace Go.Proofs.YtbdhjpdjbogggaaDoor
open Go.RowKit

/-- W came out of wx by calls that only make memory. -/
def Kp (wx W : World) : Prop := Below wx.heap.size wx W
theorem Kp.refl (wx : World) : Kp wx wx := Below.refl _ _
theorem Kp.next {wx W W' : World} (h : Kp wx W) (hb : Below W.heap.size W W') : Kp wx W' := Below.trans (B := wx.heap.size) h (hb.mono (Below.size h))
theorem Kp.alloc {wx W : World} (h : Kp wx W) (o : Obj) : Kp wx (W.alloc o) := Below.alloc (B := wx.heap.size) h (Below.size h) o
@[simp] theorem Kp_drew (wx W : World) : Kp wx W.drew = Kp wx W := propext ⟨fun h => ⟨h.os, h.tape, h.output, h.size, h.block⟩, fun h => ⟨h.os, h.tape, h.output, h.size, h.block⟩⟩
@[simp] theorem Kp_drewN (wx W : World) (n : Nat) : Kp wx (W.drewN n) = Kp wx W := propext ⟨fun h => ⟨h.os, h.tape, h.output, h.size, h.block⟩, fun h => ⟨h.os, h.tape, h.output, h.size, h.block⟩⟩
theorem Kp.cell {wx W : World} (h : Kp wx W) {b o : Nat} {v : Value} (hc : wx.cell? ⟨b, o, none⟩ = some v) : W.cell? ⟨b, o, none⟩ = some v :=
  (Below.cell (B := wx.heap.size) h (p := ⟨b, o, none⟩) (World.block_lt_of_cell? wx _ hc)).trans hc
theorem Kp.below {w wx W : World} (h : Kp wx W) (hb : Below w.heap.size w wx) : Below w.heap.size w W := hb.trans (Below.mono (B := wx.heap.size) h hb.size)
end Go.Proofs.YtbdhjpdjbogggaaDoor
