/- Chords of the program: where a course lies, and what a right chord is, on values. -/
import Derived.Test.YtojjdkoglhecbaaH2
import Derived.Test.YtojjdkoglhecbaaP2
namespace Go.Proofs.Ytojjdkoglhecbaa
open Go.RowKit
set_option linter.unusedSimpArgs false
set_option linter.unusedVariables false

/-- The first place on a course; how many there are, if there is none. -/
def fI : List (Int × Int) → Int → Nat
  | [], _ => 0
  | p :: l, c => if p.1 = c then 0 else fI l c + 1
theorem fI_le (l : List (Int × Int)) (c : Int) : fI l c ≤ l.length := by
  induction l with
  | nil => exact Nat.le_refl _
  | cons p l ih => rw [fI]; split <;> simp <;> omega
theorem fI_at {l : List (Int × Int)} {c : Int} (h : fI l c < l.length) : (l.getD (fI l c) (0, 0)).1 = c := by
  induction l with
  | nil => simp at h
  | cons p l ih =>
    rw [fI] at h ⊢
    split
    · rename_i hp; simpa using hp
    · rename_i hp
      rw [if_neg hp] at h
      simpa using ih (by simpa using h)
theorem fI_before {l : List (Int × Int)} {c : Int} {j : Nat} (h : j < fI l c) : (l.getD j (0, 0)).1 ≠ c := by
  induction l generalizing j with
  | nil => simp [fI] at h
  | cons p l ih =>
    rw [fI] at h
    split at h
    · omega
    · rename_i hp
      cases j with
      | zero => simpa using hp
      | succ j => simpa using ih (by omega)
theorem fI_eq {l : List (Int × Int)} {c : Int} {k : Nat} (h : ∀ j, j < k → (l.getD j (0, 0)).1 ≠ c) (hk : k < l.length) (hc : (l.getD k (0, 0)).1 = c) : fI l c = k := by
  rcases Nat.lt_trichotomy (fI l c) k with h1 | h1 | h1
  · exact absurd (fI_at (by omega)) (h _ h1)
  · exact h1
  · exact absurd hc (fI_before h1)
theorem fI_none {l : List (Int × Int)} {c : Int} (h : ∀ j, j < l.length → (l.getD j (0, 0)).1 ≠ c) : fI l c = l.length := by
  rcases Nat.lt_or_ge (fI l c) l.length with h1 | h1
  · exact absurd (fI_at h1) (h _ h1)
  · exact Nat.le_antisymm (fI_le l c) h1
theorem fI_lt {l : List (Int × Int)} {c : Int} : fI l c < l.length ↔ ∃ j, j < l.length ∧ (l.getD j (0, 0)).1 = c := by
  constructor
  · exact fun h => ⟨_, h, fI_at h⟩
  · rintro ⟨j, hj, hc⟩
    rcases Nat.lt_or_ge (fI l c) l.length with h1 | h1
    · exact h1
    · exact absurd hc (fI_before (by omega))
/-- The index as the program has it. -/
def dnI (l : List (Int × Int)) (c : Int) : Int := if fI l c < l.length then (fI l c : Int) else -1

theorem down1_fn (a b c : Int) : Fn Try.prog Gd 130 [.agg [vint a, vint b], .ept [vint c] 0] (vbool (a == c)) := by
  refine Fn.of_vx0 k_hand_down_1 (by simp) rfl ?_
  unfold c_hand_down_1
  repeat' (with_reducible first | refine x_ops ?_ | refine wk ?_ | ((first | refine gd1 ?_ ?_ | refine gd2 ?_ ?_ | refine gd3 ?_ ?_) <;> (first | exact @False.elim _ | intro hc)))
  exact finV_lit vv rfl
theorem call_down1 : callable Try.prog 130 = true := by kernel_rfl
theorem indexfunc_fn (l : List (Int × Int)) (c : Int) (hl : l.length ≤ 4611686018427387904) : Fn Try.prog Gd 129 [tPs l, .fn 130 [.ept [vint c] 0]] (vint (dnI l c)) := by
  refine Fn.of_vx0 k_slices_IndexFunc_api_Place_api_Place (by simp) (by rw [V.pures, pure_tPs]; rfl) ?_
  unfold c_slices_IndexFunc_api_Place_api_Place
  repeat' (with_reducible first | refine x_ops ?_ | refine wk ?_ | ((first | refine gd1 ?_ ?_ | refine gd2 ?_ ?_ | refine gd3 ?_ ?_) <;> (first | exact @False.elim _ | intro hc)))
  refine x_loopF w_slices_IndexFunc_api_Place_api_Place_p7 (by kernel_rfl) l.length (fun k t => t 8 = vint (k : Int) ∧ ∀ i, i < k → (l.getD i (0, 0)).1 ≠ c) ?_ ?_
  · exact ⟨vv, fun i h => by omega⟩
  rintro k t hk ⟨h8, hI⟩
  by_cases hlt : k < l.length
  · have g1 := pls_take hlt
    have g2 := pls_len l
    have c2 : (k : Int) < (l.length : Int) := by omega
    have c3 : k * 2 + 2 ≤ l.length * 2 := by omega
    have w2 := w_add1 (k := k) (by omega)
    repeat' (with_reducible first | refine x_ops ?_ | refine wk ?_ | (with_reducible refine x_callvF (by (simp only [go_sem, Nat.reduceAdd, Nat.reduceEqDiff, Nat.reduceLT, Nat.reduceLeDiff, Nat.reduceMul, Nat.reduceSub, Nat.reducePow, Nat.reduceDiv, Nat.reduceMod, Nat.reduceBEq, Int.reduceBEq, Int.reduceLT, reduceIte, V.norms, V.norm, tIs, tBs, tPs, *]); first | done | rfl) call_down1 (down1_fn _ _ _) (by (simp only [go_sem, Nat.reduceAdd, Nat.reduceEqDiff, Nat.reduceLT, Nat.reduceLeDiff, Nat.reduceMul, Nat.reduceSub, Nat.reducePow, Nat.reduceDiv, Nat.reduceMod, Nat.reduceBEq, Int.reduceBEq, Int.reduceLT, reduceIte, V.norms, V.norm, tIs, tBs, tPs, *]); first | done | rfl) ?_) | ((first | refine gd1 ?_ ?_ | refine gd2 ?_ ?_ | refine gd3 ?_ ?_) <;> (first | exact @False.elim _ | intro hc)))
    · refine finV_lit vv ?_
      have := fI_eq hI hlt (by simpa using hc)
      rw [dnI, this, if_pos hlt]
    · refine nf (by omega) ⟨vv, fun i h => ?_⟩ rfl
      by_cases hi : i = k
      · subst hi; simpa using hc
      · exact hI i (by omega)
  · have c1 : ¬ ((k : Int) < (l.length : Int)) := by omega
    repeat' (with_reducible first | refine x_ops ?_ | refine wk ?_ | ((first | refine gd1 ?_ ?_ | refine gd2 ?_ ?_ | refine gd3 ?_ ?_) <;> (first | exact @False.elim _ | intro hc)))
    refine finV_lit vv ?_
    have hI := fun i (h : i < l.length) => hI i (by omega)
    rw [dnI, fI_none hI, if_neg (by omega)]

structure Chord where
  down : List (Int × Int)
  held : List Int
  opn : List Int
def Chord.cells (c : Chord) : List V := [tPs c.down, tIs c.held, tIs c.opn]
def Chord.val (c : Chord) : V := .agg c.cells
theorem pure_chord (c : Chord) : c.val.pure = true := by
  rw [Chord.val, V.pure, Chord.cells]
  simp only [V.pures, pure_tIs, pure_tPs, Bool.and_self]

theorem down_fn (c : Chord) (co : Int) (hl : c.down.length ≤ 4611686018427387904) : Fn Try.prog Gd 100 [c.val, vint co] (vint (dnI c.down co)) := by
  refine Fn.of_vx0 k_hand_down (by simp) (by rw [V.pures, pure_chord]; rfl) ?_
  unfold c_hand_down Chord.val Chord.cells
  have h1 := indexfunc_fn c.down co hl
  repeat' (with_reducible first | refine x_ops ?_ | refine wk ?_ | ((first | refine gd1 ?_ ?_ | refine gd2 ?_ ?_ | refine gd3 ?_ ?_) <;> (first | exact @False.elim _ | intro hc)))
  refine x_lend allS h1 rfl ?_ ?_
  · (simp only [go_sem, Nat.reduceAdd, Nat.reduceEqDiff, Nat.reduceLT, Nat.reduceLeDiff, Nat.reduceMul, Nat.reduceSub, Nat.reducePow, Nat.reduceDiv, Nat.reduceMod, Nat.reduceBEq, Int.reduceBEq, Int.reduceLT, reduceIte, V.norms, V.norm, tIs, tBs, tPs, *])
    exact .cons (.sl _ _ _) (.cons (.fn (.cons (.ptr rfl vw (.cons (.lit _) .nil) rfl) .nil)) .nil)
  repeat' (with_reducible first | refine x_ops ?_ | refine wk ?_ | ((first | refine gd1 ?_ ?_ | refine gd2 ?_ ?_ | refine gd3 ?_ ?_) <;> (first | exact @False.elim _ | intro hc)))
  exact finV_lit vv rfl
end Go.Proofs.Ytojjdkoglhecbaa
