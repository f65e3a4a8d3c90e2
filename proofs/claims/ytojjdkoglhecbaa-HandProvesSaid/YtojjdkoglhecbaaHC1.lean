/- More arguments read: grips and two chords with two grips. -/
import Derived.Test.YtojjdkoglhecbaaHC0
import Derived.Test.YtojjdkoglhecbaaK7
namespace Go.Proofs.Ytojjdkoglhecbaa
open Go.ChangeShapes Go.WideShapes Go.ChangeAt Go.RowKit
set_option maxRecDepth 100000

def tyGrip : Ty := .st [.int, .sl .int 8]
def tyTwo : Ty := .st [tyChord, tyChord, tyGrip, tyGrip]
theorem dt_grip {d : Dt} (h : d.ok tyGrip) : ∃ g : Grip, d.cells = g.cells ∧ g.fingers.length ≤ 17592186044416 := by
  obtain ⟨l, _, h1, hc, _⟩ := ok_st h
  obtain ⟨d1, r1, rfl, k1, h2, e1⟩ := oks_cons h1
  obtain ⟨d2, r2, rfl, k2, h3, e2⟩ := oks_cons h2
  obtain ⟨a, ea, _⟩ := dt_int k1
  obtain ⟨b, eb, rb, _⟩ := dt_ints k2
  exact ⟨⟨a, b⟩, by rw [hc, e1, e2, oks_nil h3, ea, eb]; rfl, by show b.length ≤ _; omega⟩
theorem dt_gripV {d : Dt} (h : d.ok tyGrip) : ∃ g : Grip, d.val = g.val ∧ g.fingers.length ≤ 17592186044416 := by
  obtain ⟨c, h1, h2⟩ := dt_grip h
  obtain ⟨l, _, _, hc, hv⟩ := ok_st h
  exact ⟨c, by rw [hv, ← hc, h1]; rfl, h2⟩
theorem dt_two {d : Dt} (h : d.ok tyTwo) : ∃ (a b : Chord) (g k : Grip), d.val = twoV a b g k ∧ FitC a ∧ FitC b ∧ g.fingers.length ≤ 17592186044416 ∧ k.fingers.length ≤ 17592186044416 := by
  obtain ⟨l, _, h1, _, hv⟩ := ok_st h
  obtain ⟨d1, r1, rfl, k1, h2, e1⟩ := oks_cons h1
  obtain ⟨d2, r2, rfl, k2, h3, e2⟩ := oks_cons h2
  obtain ⟨d3, r3, rfl, k3, h4, e3⟩ := oks_cons h3
  obtain ⟨d4, r4, rfl, k4, h5, e4⟩ := oks_cons h4
  obtain ⟨a, ea, fa⟩ := dt_chord k1
  obtain ⟨b, eb, fb⟩ := dt_chord k2
  obtain ⟨g, eg, fg⟩ := dt_grip k3
  obtain ⟨k, ek, fk⟩ := dt_grip k4
  exact ⟨a, b, g, k, by rw [hv, e1, e2, e3, e4, oks_nil h5, ea, eb, eg, ek]; rfl, fa, fb, fg, fk⟩
theorem ty_grip : tyOf Try.prog 10 53 = some tyGrip := by kernel_rfl
theorem ty_two : tyOf Try.prog 10 63 = some tyTwo := by kernel_rfl
end Go.Proofs.Ytojjdkoglhecbaa
