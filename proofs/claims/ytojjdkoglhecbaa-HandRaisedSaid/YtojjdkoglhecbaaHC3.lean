/- More arguments read: choices. -/
import Derived.Test.YtojjdkoglhecbaaHC2
import Derived.Test.YtojjdkoglhecbaaOA
namespace Go.Proofs.Ytojjdkoglhecbaa
open Go.ChangeShapes Go.WideShapes Go.ChangeAt Go.RowKit
set_option maxRecDepth 100000

def tyChoice : Ty := .st [.sl .int 8, .sl tyGrip 32]
theorem dt_choiceV {d : Dt} (h : d.ok tyChoice) : ∃ x : List Int × List Grip, d.val = choV x.1 x.2 ∧ x.1.length ≤ 17592186044416 ∧ FitsG x.2 := by
  obtain ⟨l, _, h1, _, hv⟩ := ok_st h
  obtain ⟨d1, r1, rfl, k1, h2, e1⟩ := oks_cons h1
  obtain ⟨d2, r2, rfl, k2, h3, e2⟩ := oks_cons h2
  obtain ⟨a, ea, fa, _⟩ := dt_ints k1
  obtain ⟨b, eb, fb⟩ := dt_gripsC (by decide) k2
  exact ⟨(a, b), by rw [hv, e1, e2, oks_nil h3, ea, eb]; rfl, by show a.length ≤ _; omega, fb⟩
theorem ty_choice : tyOf Try.prog 10 90 = some tyChoice := by kernel_rfl
end Go.Proofs.Ytojjdkoglhecbaa
