/- What each chord of a fingering costs: the reference, on values. -/
import Derived.Test.YtojjdkoglhecbaaL2
namespace Go.Proofs.Ytojjdkoglhecbaa
open Go.RowKit
set_option linter.unusedSimpArgs false
set_option linter.unusedVariables false

theorem stepC_bound {h : Hand} (hk : HandOk h) {a b : Chord} {g k : Grip} (pg : 1 ≤ g.pos ∧ g.pos ≤ 18) (pk : 1 ≤ k.pos ∧ k.pos ≤ 18) : 0 ≤ stepC h a g b k ∧ stepC h a g b k ≤ 105000 := by
  have n4 := hk.n4
  have hm := mul_bound hk.shift (b := dist g.pos k.pos) ⟨dist_le, dist_bound (by omega) (by omega)⟩
  have hl := hk.lift
  have hu := slU_bound hk (a := a) (b := b) (g := g) (k := k) (f := h.low.length)
  rw [stepC]
  split <;> split <;> omega
theorem prC_bound {h : Hand} (hk : HandOk h) {l : List Chord} {g : List Grip} {k : Nat} (hs : ChordOk (l.getD k noC)) (h1 : PrOk h l g k) (h2 : 0 < k → PrOk h l g (k - 1)) :
    (0 ≤ ownC h (l.getD k noC) (g.getD k noG) ∧ ownC h (l.getD k noC) (g.getD k noG) ≤ 404000) ∧ 0 ≤ prC h l g k ∧ prC h l g k ≤ 509000 := by
  have n4 := hk.n4
  have ht := hk.top
  have hp := h1.1.pos
  have ho := ownU_bound hk hs (g := g.getD k noG) ⟨hp.1, by omega⟩ (k := h.low.length) (Nat.le_refl _)
  have ho' : 0 ≤ ownC h (l.getD k noC) (g.getD k noG) ∧ ownC h (l.getD k noC) (g.getD k noG) ≤ 404000 := by rw [ownC]; omega
  refine ⟨ho', ?_⟩
  rw [prC]
  split
  · rename_i hk0
    have hq := (h2 hk0).1.pos
    have := stepC_bound hk (a := l.getD (k - 1) noC) (b := l.getD k noC) (g := g.getD (k - 1) noG) (k := g.getD k noG) ⟨hq.1, by omega⟩ ⟨hp.1, by omega⟩
    omega
  · omega
/-- What costs answers. -/
noncomputable def cosR (h : Hand) (l : List Chord) (g : List Grip) : List Int × Int × Int :=
  if bothE h l = 0 then (if g.length = l.length then (if prN h l g l.length = l.length then (prL h l g l.length, 0, 0) else ([], (prN h l g l.length : Int), 61)) else ([], 0, 1)) else ([], 0, bothE h l)
theorem both_ok {h : Hand} {l : List Chord} (hb : bothE h l = 0) : HandOk h ∧ l.length ≤ 400 ∧ SeqOk l := by
  rw [bothE] at hb
  split at hb
  · rename_i he
    refine ⟨chk_ok he, ?_⟩
    rw [seqE] at hb
    split at hb
    · cases hb
    · split at hb
      · rename_i h1 h2
        exact ⟨by omega, by simpa using h2⟩
      · cases hb
  · cases hb
end Go.Proofs.Ytojjdkoglhecbaa
