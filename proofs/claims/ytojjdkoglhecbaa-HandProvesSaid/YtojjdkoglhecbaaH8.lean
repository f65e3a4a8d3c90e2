/- Sequences of chords: the reference, on values. -/
import Derived.Test.YtojjdkoglhecbaaH7
namespace Go.Proofs.Ytojjdkoglhecbaa
open Go.RowKit
set_option linter.unusedSimpArgs false
set_option linter.unusedVariables false

theorem ints_at' {l : List Int} {k : Nat} (h : k < l.length) : (List.map vint l)[k]? = some (V.lit (.int .i64 (l.getD k 0))) := ints_at h
theorem chs_at1 {l : List Chord} {k : Nat} (h : k < l.length) : (l.flatMap Chord.cells)[k * 3 + 1]? = some (tIs (l.getD k noC).held) := by
  rw [flat_at (j := 1) chs_l noC h (by decide)]; rfl
set_option maxHeartbeats 1000000 in
theorem rcheckchords_fn (l : List Chord) (hl : Fits l) : Fn Try.prog Gd 27 [tCs l] (vint (seqE l)) := by
  refine Fn.of_vx0 k_theorboref06_CheckChords (by simp) (by rw [V.pures, pure_tCs]; rfl) ?_
  have hl0 := hl.1
  unfold c_theorboref06_CheckChords tCs
  by_cases hm : 400 < l.length
  · have c1 : (400 : Int) < (l.length : Int) := by omega
    repeat' (with_reducible first | refine x_ops ?_ | refine wk ?_ | ((first | refine gd1 ?_ ?_ | refine gd2 ?_ ?_ | refine gd3 ?_ ?_) <;> (first | exact @False.elim _ | intro hc)))
    exact finV_lit vv (seq_many hm)
  have c1 : ¬ (400 : Int) < (l.length : Int) := by omega
  repeat' (with_reducible first | refine x_ops ?_ | refine wk ?_ | ((first | refine gd1 ?_ ?_ | refine gd2 ?_ ?_ | refine gd3 ?_ ?_) <;> (first | exact @False.elim _ | intro hc)))
  refine x_loopF w_theorboref06_CheckChords_p11 (by kernel_rfl) l.length (fun k t => t 3 = vint (k : Int) ∧ ∀ i, i < k → ChordOk (l.getD i noC) ∧ (0 < i → Fol (l.getD (i - 1) noC) (l.getD i noC))) ?_ ?_
  · exact ⟨vv, fun i h => by omega⟩
  rintro k t hk ⟨h3, hI⟩
  by_cases hlt : k < l.length
  · have g1 := chs_take hlt
    have g2 := chs_len l
    have g3 := chs_at1 hlt
    have c2 : (k : Int) < (l.length : Int) := by omega
    have c3 : k * 3 + 3 ≤ l.length * 3 := by omega
    have w2 := w_add1 (k := k) (by omega)
    have R := good_fn (l.getD k noC) (hl.at k)
    cases hr : rgtB (l.getD k noC)
    · rw [hr] at R
      unfold Chord.val Chord.cells at R
      repeat' (with_reducible first | refine x_ops ?_ | refine wk ?_ | (with_reducible refine xc (R) ?_) | ((first | refine gd1 ?_ ?_ | refine gd2 ?_ ?_ | refine gd3 ?_ ?_) <;> (first | exact @False.elim _ | intro hc)))
      refine finV_lit vv (seq_bad hm fun hs => ?_)
      rw [rgt_true.2 (hs k hlt).1] at hr
      cases hr
    rw [hr] at R
    have hok := rgt_true.1 hr
    unfold Chord.val Chord.cells at R
    repeat' (with_reducible first | refine x_ops ?_ | refine wk ?_ | (with_reducible refine xc (R) ?_) | ((first | refine gd1 ?_ ?_ | refine gd2 ?_ ?_ | refine gd3 ?_ ?_) <;> (first | exact @False.elim _ | intro hc)))
    refine x_loopF w_theorboref06_CheckChords_p6 (by kernel_rfl) (l.getD k noC).held.length (fun j t => t 4 = vint (j : Int) ∧ ∀ i, i < j → plA (l.getD (k - 1) noC).down ((l.getD k noC).held.getD i 0) = plA (l.getD k noC).down ((l.getD k noC).held.getD i 0)) ?_ ?_
    · exact ⟨vv, fun i h => by omega⟩
    rintro q t' hq ⟨h4, hJ⟩
    by_cases hk0 : 0 < k
    · have c6 : (0 : Int) < (k : Int) := by omega
      by_cases hql : q < (l.getD k noC).held.length
      · have g4 := chs_take (l := l) (k := k - 1) (by omega)
        have g5 := ints_at hql
        have c4 : ((k - 1 : Nat) : Int) < (l.length : Int) := by omega
        have c5 : (k - 1) * 3 + 3 ≤ l.length * 3 := by omega
        have c7 : (q : Int) < ((l.getD k noC).held.length : Int) := by omega
        have w1 := w_sub1 hk0 (by omega)
        have w3 := w_add1 (k := q) (by have := (hl.at k).2.1; omega)
        have D1 := fun co => place_fn (l.getD k noC) co (hl.at k).1
        have D2 := fun co => place_fn (l.getD (k - 1) noC) co (hl.at (k - 1)).1
        unfold Chord.val Chord.cells at D1 D2
        have eqk := eq_pl (plA (l.getD k noC).down ((l.getD k noC).held.getD q 0)) (plA (l.getD (k - 1) noC).down ((l.getD k noC).held.getD q 0))
        repeat' (with_reducible first | refine x_ops ?_ | refine wk ?_ | (with_reducible refine xc (D1 _) ?_) | (with_reducible refine xc (D2 _) ?_) | ((first | refine gd1 ?_ ?_ | refine gd2 ?_ ?_ | refine gd3 ?_ ?_) <;> (first | exact @False.elim _ | intro hc)))
        · exact finV_lit vv (seq_bad hm fun hs => hc ((hs k hlt).2 hk0 q hql).symm)
        · refine nf (by omega) ⟨vv, fun i h => ?_⟩ rfl
          by_cases hi : i = q
          · subst hi; rw [hc]
          · exact hJ i (by omega)
      · have c7 : ¬ (q : Int) < ((l.getD k noC).held.length : Int) := by omega
        repeat' (with_reducible first | refine x_ops ?_ | refine wk ?_ | ((first | refine gd1 ?_ ?_ | refine gd2 ?_ ?_ | refine gd3 ?_ ?_) <;> (first | exact @False.elim _ | intro hc)))
        refine nf (by omega) ⟨vv, fun i h => ?_⟩ rfl
        by_cases hi : i = k
        · subst hi; exact ⟨hok, fun _ j hj => hJ j (by omega)⟩
        · exact hI i (by omega)
    · have c6 : ¬ (0 : Int) < (k : Int) := by omega
      repeat' (with_reducible first | refine x_ops ?_ | refine wk ?_ | ((first | refine gd1 ?_ ?_ | refine gd2 ?_ ?_ | refine gd3 ?_ ?_) <;> (first | exact @False.elim _ | intro hc)))
      refine nf (by omega) ⟨vv, fun i h => ?_⟩ rfl
      have hi : i = k := by omega
      subst hi; exact ⟨hok, fun h => absurd h hk0⟩
  · have c2 : ¬ ((k : Int) < (l.length : Int)) := by omega
    repeat' (with_reducible first | refine x_ops ?_ | refine wk ?_ | ((first | refine gd1 ?_ ?_ | refine gd2 ?_ ?_ | refine gd3 ?_ ?_) <;> (first | exact @False.elim _ | intro hc)))
    exact finV_lit vv (seq_good hm fun i hi => hI i (by omega))
end Go.Proofs.Ytojjdkoglhecbaa
