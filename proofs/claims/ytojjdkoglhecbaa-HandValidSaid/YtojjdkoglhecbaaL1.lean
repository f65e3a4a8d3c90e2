/- What each chord of a fingering costs: definitions, on values. -/
import Derived.Test.YtojjdkoglhecbaaK6
import Derived.Test.YtojjdkoglhecbaaP5
namespace Go.Proofs.Ytojjdkoglhecbaa
open Go.RowKit
set_option linter.unusedSimpArgs false
set_option linter.unusedVariables false

/-- No grip. -/
def noG : Grip := ⟨0, []⟩
/-- A list of grips. -/
def tGs (l : List Grip) : V := .sl l.length (l.flatMap Grip.cells) .no
theorem pure_tGs (l : List Grip) : (tGs l).pure = true := by rw [tGs, V.pure]; intro t h; cases h
theorem gs_l (x : Grip) : x.cells.length = 2 := rfl
theorem gs_len (l : List Grip) : (l.flatMap Grip.cells).length = l.length * 2 := flat_len gs_l l
theorem gs_take {l : List Grip} {k : Nat} (h : k < l.length) : ((l.flatMap Grip.cells).drop (k * 2)).take 2 = [vint (l.getD k noG).pos, tIs (l.getD k noG).fingers] := flat_take gs_l noG h
/-- The lengths fit. -/
def FitsG (l : List Grip) : Prop := l.length ≤ 17592186044416 ∧ ∀ g ∈ l, g.fingers.length ≤ 17592186044416
theorem FitsG.at {l : List Grip} (h : FitsG l) (k : Nat) : (l.getD k noG).fingers.length ≤ 17592186044416 := by
  rw [List.getD_eq_getElem?_getD]
  rcases Nat.lt_or_ge k l.length with hk | hk
  · rw [List.getElem?_eq_getElem hk]; exact h.2 _ (List.getElem_mem hk)
  · rw [List.getElem?_eq_none hk]; decide
/-- The chord k is fingered right. -/
def PrOk (h : Hand) (l : List Chord) (g : List Grip) (k : Nat) : Prop :=
  FitG h (l.getD k noC) (g.getD k noG) ∧ (0 < k → StepOk h (l.getD (k - 1) noC) (g.getD (k - 1) noG) (l.getD k noC) (g.getD k noG))
/-- What it costs. -/
def prC (h : Hand) (l : List Chord) (g : List Grip) (k : Nat) : Int :=
  if 0 < k then ownC h (l.getD k noC) (g.getD k noG) + stepC h (l.getD (k - 1) noC) (g.getD (k - 1) noG) (l.getD k noC) (g.getD k noG) else ownC h (l.getD k noC) (g.getD k noG)
/-- What the first ones cost. -/
def prL (h : Hand) (l : List Chord) (g : List Grip) (k : Nat) : List Int := (List.range k).map (prC h l g)
theorem prL_len (h : Hand) (l : List Chord) (g : List Grip) (k : Nat) : (prL h l g k).length = k := by simp [prL]
theorem prL_succ (h : Hand) (l : List Chord) (g : List Grip) (k : Nat) : prL h l g (k + 1) = prL h l g k ++ [prC h l g k] := by simp [prL, List.range_succ]
open Classical in
/-- How many are right ahead of the first wrong one, among the first ones. -/
noncomputable def prN (h : Hand) (l : List Chord) (g : List Grip) : Nat → Nat
  | 0 => 0
  | k + 1 => if prN h l g k = k ∧ PrOk h l g k then k + 1 else prN h l g k
theorem prN_all {h : Hand} {l : List Chord} {g : List Grip} : ∀ {k : Nat}, (∀ i, i < k → PrOk h l g i) → prN h l g k = k
  | 0, _ => rfl
  | k + 1, ha => by rw [prN, if_pos ⟨prN_all fun i hi => ha i (by omega), ha k (by omega)⟩]
theorem prN_bad {h : Hand} {l : List Chord} {g : List Grip} {k : Nat} (ha : ∀ i, i < k → PrOk h l g i) (hb : ¬ PrOk h l g k) : ∀ {n : Nat}, k < n → prN h l g n = k
  | 0, hn => by omega
  | n + 1, hn => by
    rcases Nat.lt_or_ge k n with h1 | h1
    · rw [prN, prN_bad ha hb h1, if_neg (fun hh => by omega)]
    · have : n = k := by omega
      subst this
      rw [prN, prN_all ha, if_neg (fun hh => hb hh.2)]
/-- What prices answers. -/
noncomputable def prR (h : Hand) (l : List Chord) (g : List Grip) : List Int × Int :=
  if chkE h = 0 then (if seqE l = 0 then (if g.length = l.length then (prL h l g (prN h l g l.length), if prN h l g l.length = l.length then 0 else 61) else ([], 1)) else ([], seqE l)) else ([], 60)
end Go.Proofs.Ytojjdkoglhecbaa
