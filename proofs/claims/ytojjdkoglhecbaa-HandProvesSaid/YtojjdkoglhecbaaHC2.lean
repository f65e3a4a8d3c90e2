/- More arguments read: searches, grips, lists of numbers. -/
import Derived.Test.YtojjdkoglhecbaaHC1
import Derived.Test.YtojjdkoglhecbaaLA
namespace Go.Proofs.Ytojjdkoglhecbaa
open Go.ChangeShapes Go.WideShapes Go.ChangeAt Go.RowKit
set_option maxRecDepth 100000

def tySearch : Ty := .st [tyHand, .sl tyChord 72]
theorem dt_handC {d : Dt} (h : d.ok tyHand) : ∃ x : Hand, d.cells = [tIs x.low, tIs x.high, tBs x.barre, vint x.top, vint x.jump, vint x.shift, vint x.lift, vint x.bar, vint x.stretch, vint x.slide] := by
  obtain ⟨x, hx⟩ := dt_hand h
  obtain ⟨l, _, _, hc, hv⟩ := ok_st h
  rw [hv, Hand.val] at hx
  injection hx with hx
  exact ⟨x, by rw [hc, hx]⟩
theorem dt_chordsC {b : Nat} {d : Dt} (hb : 8 ≤ b) (h : d.ok (.sl tyChord b)) : ∃ l : List Chord, d.cells = [tCs l] ∧ Fits l := by
  obtain ⟨l, h1, h2⟩ := dt_chords hb h
  exact ⟨l, by rw [dt_one h, h1], h2⟩
theorem dt_searchV {d : Dt} (h : d.ok tySearch) : ∃ x : Hand × List Chord, d.val = srV x.1 x.2 ∧ Fits x.2 := by
  obtain ⟨l, _, h1, _, hv⟩ := ok_st h
  obtain ⟨d1, r1, rfl, k1, h2, e1⟩ := oks_cons h1
  obtain ⟨d2, r2, rfl, k2, h3, e2⟩ := oks_cons h2
  obtain ⟨a, ea⟩ := dt_handC k1
  obtain ⟨b, eb, fb⟩ := dt_chordsC (by decide) k2
  exact ⟨(a, b), by rw [hv, e1, e2, oks_nil h3, ea, eb]; rfl, fb⟩
theorem dt_gripsC {b : Nat} {d : Dt} (hb : 8 ≤ b) (h : d.ok (.sl tyGrip b)) : ∃ l : List Grip, d.cells = [tGs l] ∧ FitsG l := by
  obtain ⟨l, h1, h2, h3⟩ := dt_list (enc := Grip.cells) h fun _ hd => dt_grip hd
  exact ⟨l, h1, by have := Nat.mul_le_mul_left l.length hb; omega, h3⟩
theorem dt_gripsV {d : Dt} (h : d.ok (.sl tyGrip 32)) : ∃ l : List Grip, d.val = tGs l ∧ FitsG l := by
  obtain ⟨l, h1, h2⟩ := dt_gripsC (by decide) h
  rw [dt_one h] at h1
  exact ⟨l, List.cons.inj h1 |>.1, h2⟩
theorem dt_intV {d : Dt} (h : d.ok .int) : ∃ n : Int, d.val = vint n ∧ -9223372036854775808 ≤ n ∧ n ≤ 9223372036854775807 := by
  cases d <;> first | (rw [Dt.ok] at h; exact ⟨_, by rw [Dt.val], h⟩) | (simp [Dt.ok] at h)
theorem dt_intsV {d : Dt} (h : d.ok (.sl .int 8)) : ∃ l : List Int, d.val = tIs l ∧ l.length ≤ 17592186044416 ∧ ∀ a ∈ l, -9223372036854775808 ≤ a ∧ a ≤ 9223372036854775807 := by
  obtain ⟨l, h1, h2, h3⟩ := dt_ints h
  rw [dt_one h] at h1
  exact ⟨l, List.cons.inj h1 |>.1, by omega, h3⟩
theorem ty_int : tyOf Try.prog 10 3 = some .int := by kernel_rfl
theorem ty_ints : tyOf Try.prog 10 22 = some (.sl .int 8) := by kernel_rfl
theorem ty_search : tyOf Try.prog 10 35 = some tySearch := by kernel_rfl
theorem ty_grips : tyOf Try.prog 10 38 = some (.sl tyGrip 32) := by kernel_rfl
end Go.Proofs.Ytojjdkoglhecbaa
