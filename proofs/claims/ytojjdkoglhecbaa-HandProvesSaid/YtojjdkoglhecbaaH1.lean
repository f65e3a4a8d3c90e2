/- Small functions of the hand, on values. -/
import Derived.Test.YtojjdkoglhecbaaWk
import Derived.Test.YtojjdkoglhecbaaP1
namespace Go.Proofs.Ytojjdkoglhecbaa
open Go.RowKit
set_option linter.unusedSimpArgs false
set_option linter.unusedVariables false

theorem within_fn (n a b : Int) : Fn Try.prog Gd 63 [vint n, vint a, vint b] (vbool (decide (a ≤ n) && decide (n ≤ b))) := by
  refine Fn.of_vx0 k_hand_within (by simp) rfl ?_
  unfold c_hand_within
  repeat' (with_reducible first | refine x_ops ?_ | refine wk ?_ | ((first | refine gd1 ?_ ?_ | refine gd2 ?_ ?_ | refine gd3 ?_ ?_) <;> (first | exact @False.elim _ | intro hc)))
  all_goals refine finV_lit vv ?_
  all_goals simp only [Bool.true_and, Bool.false_and]
theorem isnan_fn (n : Int) : Fn Try.prog Gd 128 [vint n] (vbool false) := by
  refine Fn.of_vx0 k_cmp_isNaN_int (by simp) rfl ?_
  unfold c_cmp_isNaN_int
  repeat' (with_reducible first | refine x_ops ?_ | refine wk ?_ | ((first | refine gd1 ?_ ?_ | refine gd2 ?_ ?_ | refine gd3 ?_ ?_) <;> (first | exact @False.elim _ | intro hc)))
  exact finV_lit vv (by simp)
theorem less_fn (a b : Int) : Fn Try.prog Gd 98 [vint a, vint b] (vbool (decide (a < b))) := by
  refine Fn.of_vx0 k_cmp_Less_int (by simp) rfl ?_
  unfold c_cmp_Less_int
  repeat' (with_reducible first | refine x_ops ?_ | refine wk ?_ | (with_reducible refine xc (isnan_fn a) ?_) | ((first | refine gd1 ?_ ?_ | refine gd2 ?_ ?_ | refine gd3 ?_ ?_) <;> (first | exact @False.elim _ | intro hc)))
  all_goals exact finV_lit vv (by simp)

theorem pure_tIs (l : List Int) : (tIs l).pure = true := by rw [tIs, V.pure]; intro t h; cases h
theorem ints_at {l : List Int} {k : Nat} (h : k < l.length) : (l.map vint)[k]? = some (V.lit (.int .i64 (l.getD k 0))) := by
  rw [List.getElem?_map, List.getD_eq_getElem?_getD, List.getElem?_eq_getElem h]; rfl
/-- Of all numbers below n. -/
def allB (n : Nat) (p : Nat → Bool) : Bool := (List.range n).all p
theorem allB_true {n : Nat} {p : Nat → Bool} (h : ∀ i, i < n → p i = true) : allB n p = true := by
  rw [allB, List.all_eq_true]; exact fun i hi => h i (List.mem_range.1 hi)
theorem allB_false {n : Nat} {p : Nat → Bool} {i : Nat} (hi : i < n) (h : p i = false) : allB n p = false := by
  rw [allB, List.all_eq_false]; exact ⟨i, List.mem_range.2 hi, by simp [h]⟩
theorem allB_iff {n : Nat} {p : Nat → Bool} : allB n p = true ↔ ∀ i, i < n → p i = true := by
  rw [allB, List.all_eq_true]; exact ⟨fun h i hi => h i (List.mem_range.2 hi), fun h i hi => h i (List.mem_range.1 hi)⟩
/-- It does not fall. -/
def ascB (l : List Int) : Bool := allB (l.length - 1) fun i => decide (l.getD i 0 ≤ l.getD (i + 1) 0)
/-- It rises. -/
def risB (l : List Int) : Bool := allB (l.length - 1) fun i => decide (l.getD i 0 < l.getD (i + 1) 0)

theorem issorted_fn (l : List Int) (hl : l.length ≤ 4611686018427387904) : Fn Try.prog Gd 64 [tIs l] (vbool (ascB l)) := by
  refine Fn.of_vx0 k_slices_IsSorted_int_int (by simp) (by rw [V.pures, pure_tIs]; rfl) ?_
  unfold c_slices_IsSorted_int_int tIs
  repeat' (with_reducible first | refine x_ops ?_ | refine wk ?_ | ((first | refine gd1 ?_ ?_ | refine gd2 ?_ ?_ | refine gd3 ?_ ?_) <;> (first | exact @False.elim _ | intro hc)))
  refine x_loopW w_slices_IsSorted_int_int_p4 (by kernel_rfl) l.length (fun k t m => t 3 = vint ((l.length : Int) - 1 - k) ∧ ∀ i, l.length - 1 - k ≤ i → i + 1 < l.length → l.getD i 0 ≤ l.getD (i + 1) 0) ?_ ?_
  · refine ⟨?_, fun i h1 h2 => by omega⟩
    (refine ve ?_; try exact True.intro)
    rw [w_in (by omega)]; simp
  · rintro k t m hk ⟨h3, hI⟩
    by_cases hlt : k + 1 < l.length
    · obtain ⟨j, hj⟩ : ∃ j : Nat, ((l.length : Int) - 1 - k) = ((j + 1 : Nat) : Int) := ⟨l.length - 2 - k, by omega⟩
      rw [hj] at h3
      have g1 := ints_at (l := l) (k := j + 1) (by omega)
      have g2 := ints_at (l := l) (k := j) (by omega)
      have c1 : (0 : Int) < ((j + 1 : Nat) : Int) := by omega
      have c2 : ((j + 1 : Nat) : Int) < (l.length : Int) := by omega
      have c3 : (j : Int) < (l.length : Int) := by omega
      have w1 : IntKind.i64.wrap (((j + 1 : Nat) : Int) - 1) = (j : Int) := by rw [w_in (by omega)]; omega
      repeat' (with_reducible first | refine x_ops ?_ | refine wk ?_ | (with_reducible refine xc (less_fn _ _) ?_) | ((first | refine gd1 ?_ ?_ | refine gd2 ?_ ?_ | refine gd3 ?_ ?_) <;> (first | exact @False.elim _ | intro hc)))
      · refine finV_lit vv ?_
        rw [ascB, allB_false (i := j) (by omega)]
        rw [decide_eq_false_iff_not]; omega
      · refine nx (by omega) ⟨by ((refine ve ?_; try exact True.intro)); congr 2; omega, fun i h1 h2 => ?_⟩
        by_cases hi : i = j
        · subst hi; omega
        · exact hI i (by omega) h2
    · have c1 : ¬ ((0 : Int) < (l.length : Int) - 1 - k) := by omega
      repeat' (with_reducible first | refine x_ops ?_ | refine wk ?_ | ((first | refine gd1 ?_ ?_ | refine gd2 ?_ ?_ | refine gd3 ?_ ?_) <;> (first | exact @False.elim _ | intro hc)))
      refine finV_lit vv ?_
      rw [ascB, allB_true]
      intro i hi
      simp
      exact hI i (by omega) (by omega)

theorem rising_fn (l : List Int) (hl : l.length ≤ 4611686018427387904) : Fn Try.prog Gd 99 [tIs l] (vbool (risB l)) := by
  refine Fn.of_vx0 k_hand_rising (by simp) (by rw [V.pures, pure_tIs]; rfl) ?_
  unfold c_hand_rising tIs
  repeat' (with_reducible first | refine x_ops ?_ | refine wk ?_ | ((first | refine gd1 ?_ ?_ | refine gd2 ?_ ?_ | refine gd3 ?_ ?_) <;> (first | exact @False.elim _ | intro hc)))
  refine x_loopF w_hand_rising_p4 (by kernel_rfl) (l.length - 1) (fun k t => t 3 = vint ((k + 1 : Nat) : Int) ∧ ∀ i, i < k → l.getD i 0 < l.getD (i + 1) 0) ?_ ?_
  · exact ⟨vv, fun i h => by omega⟩
  · rintro k t hk ⟨h3, hI⟩
    by_cases hlt : k + 1 < l.length
    · have g1 := ints_at (l := l) (k := k + 1) (by omega)
      have g2 := ints_at (l := l) (k := k) (by omega)
      have c2 : ((k + 1 : Nat) : Int) < (l.length : Int) := by omega
      have c3 : (k : Int) < (l.length : Int) := by omega
      have w1 : IntKind.i64.wrap (((k + 1 : Nat) : Int) - 1) = (k : Int) := by rw [w_in (by omega)]; omega
      have w2 := w_add1 (k := k + 1) (by omega)
      repeat' (with_reducible first | refine x_ops ?_ | refine wk ?_ | ((first | refine gd1 ?_ ?_ | refine gd2 ?_ ?_ | refine gd3 ?_ ?_) <;> (first | exact @False.elim _ | intro hc)))
      · refine finV_lit vv ?_
        rw [risB, allB_false (i := k) (by omega)]
        rw [decide_eq_false_iff_not]; omega
      · refine nf (by omega) ⟨vv, fun i h => ?_⟩ rfl
        by_cases hi : i = k
        · subst hi; omega
        · exact hI i (by omega)
    · have c1 : ¬ (((k + 1 : Nat) : Int) < (l.length : Int)) := by omega
      repeat' (with_reducible first | refine x_ops ?_ | refine wk ?_ | ((first | refine gd1 ?_ ?_ | refine gd2 ?_ ?_ | refine gd3 ?_ ?_) <;> (first | exact @False.elim _ | intro hc)))
      refine finV_lit vv ?_
      rw [risB, allB_true]
      intro i hi
      simp only [decide_eq_true_eq]
      exact hI i (by omega)

theorem sameints_fn (a b : List Int) (hl : a.length ≤ 4611686018427387904) : Fn Try.prog Gd 23 [tIs a, tIs b] (vbool (decide (a = b))) := by
  refine Fn.of_vx0 k_theorbolaw06_SameInts (by simp) (by rw [V.pures, pure_tIs, V.pures, pure_tIs]; rfl) ?_
  unfold c_theorbolaw06_SameInts tIs
  by_cases hab : a.length = b.length
  · have hab' : ((a.length : Int) == (a.length : Int)) = true := by simp
    have hab2 := hab.symm
    clear hab
    repeat' (with_reducible first | refine x_ops ?_ | refine wk ?_ | ((first | refine gd1 ?_ ?_ | refine gd2 ?_ ?_ | refine gd3 ?_ ?_) <;> (first | exact @False.elim _ | intro hc)))
    refine x_loopF w_theorbolaw06_SameInts_p5 (by kernel_rfl) a.length (fun k t => t 5 = vint (k : Int) ∧ ∀ i, i < k → a.getD i 0 = b.getD i 0) ?_ ?_
    · exact ⟨vv, fun i h => by omega⟩
    · rintro k t hk ⟨h3, hI⟩
      by_cases hlt : k < a.length
      · have g1 := ints_at (l := a) (k := k) (by omega)
        have g2 := ints_at (l := b) (k := k) (by omega)
        have c2 : (k : Int) < (a.length : Int) := by omega
        have c3 : (k : Int) < (b.length : Int) := by omega
        have w2 := w_add1 (k := k) (by omega)
        repeat' (with_reducible first | refine x_ops ?_ | simp only [go_sem, Nat.reduceAdd, Nat.reduceEqDiff, Nat.reduceLT, Nat.reduceLeDiff, Nat.reduceMul, Nat.reduceSub, Nat.reducePow, Nat.reduceDiv, Nat.reduceMod, Nat.reduceBEq, Int.reduceBEq, Int.reduceLT, reduceIte, tIs, tBs, tPs, bne_iff_ne, *] | ((first | refine gd1 ?_ ?_ | refine gd2 ?_ ?_ | refine gd3 ?_ ?_) <;> (first | exact @False.elim _ | intro hc)))
        · refine finV_lit vv ?_
          rw [decide_eq_false]
          rintro rfl
          simp at hc
        · refine nf (by omega) ⟨vv, fun i h => ?_⟩ rfl
          by_cases hi : i = k
          · subst hi; simpa using hc
          · exact hI i (by omega)
      · have c1 : ¬ ((k : Int) < (a.length : Int)) := by omega
        repeat' (with_reducible first | refine x_ops ?_ | refine wk ?_ | ((first | refine gd1 ?_ ?_ | refine gd2 ?_ ?_ | refine gd3 ?_ ?_) <;> (first | exact @False.elim _ | intro hc)))
        refine finV_lit vv ?_
        rw [decide_eq_true]
        refine List.ext_getElem hab2.symm fun i h1 h2 => ?_
        have := hI i (by omega)
        simpa [List.getD_eq_getElem?_getD, h1, h2] using this
  · have hab' : ((a.length : Int) == (b.length : Int)) = false := by simp; omega
    repeat' (with_reducible first | refine x_ops ?_ | refine wk ?_ | ((first | refine gd1 ?_ ?_ | refine gd2 ?_ ?_ | refine gd3 ?_ ?_) <;> (first | exact @False.elim _ | intro hc)))
    refine finV_lit vv ?_
    rw [decide_eq_false]
    rintro rfl
    exact hab rfl

/-- Numbers from 1 to 14 that rise. -/
def crsB (l : List Int) : Bool := risB l && allB l.length fun i => decide (1 ≤ l.getD i 0 ∧ l.getD i 0 ≤ 14)
theorem ascend_fn (l : List Int) (hl : l.length ≤ 4611686018427387904) : Fn Try.prog Gd 101 [tIs l] (vbool (crsB l)) := by
  refine Fn.of_vx0 k_theorboref06_ascend (by simp) (by rw [V.pures, pure_tIs]; rfl) ?_
  unfold c_theorboref06_ascend tIs
  repeat' (with_reducible first | refine x_ops ?_ | refine wk ?_ | ((first | refine gd1 ?_ ?_ | refine gd2 ?_ ?_ | refine gd3 ?_ ?_) <;> (first | exact @False.elim _ | intro hc)))
  refine x_loopF w_theorboref06_ascend_p4 (by kernel_rfl) l.length (fun k t => t 3 = vint (k : Int) ∧ ∀ i, i < k → (1 ≤ l.getD i 0 ∧ l.getD i 0 ≤ 14) ∧ (0 < i → l.getD (i - 1) 0 < l.getD i 0)) ?_ ?_
  · exact ⟨vv, fun i h => by omega⟩
  · rintro k t hk ⟨h3, hI⟩
    by_cases hlt : k < l.length
    · have g1 := ints_at (l := l) (k := k) (by omega)
      have c2 : (k : Int) < (l.length : Int) := by omega
      have w2 := w_add1 (k := k) (by omega)
      have bad : ¬ ((1 ≤ l.getD k 0 ∧ l.getD k 0 ≤ 14)) → crsB l = false := fun h => by
        rw [crsB, allB_false (i := k) (n := l.length) (by omega) (by rw [decide_eq_false_iff_not]; exact h), Bool.and_false]
      by_cases hk0 : 0 < k
      · have g2 := ints_at (l := l) (k := k - 1) (by omega)
        have c3 : ((k - 1 : Nat) : Int) < (l.length : Int) := by omega
        have c4 : (0 : Int) < (k : Int) := by omega
        have w1 := w_sub1 hk0 (by omega)
        repeat' (with_reducible first | refine x_ops ?_ | refine wk ?_ | ((first | refine gd1 ?_ ?_ | refine gd2 ?_ ?_ | refine gd3 ?_ ?_) <;> (first | exact @False.elim _ | intro hc)))
        all_goals first
          | (refine nf (by omega) ⟨vv, fun i h => ?_⟩ rfl
             by_cases hi : i = k
             · subst hi; exact ⟨by omega, fun _ => by omega⟩
             · exact hI i (by omega))
          | (refine finV_lit vv ?_
             first
               | (rw [bad (by omega)]; done)
               | (rw [crsB, risB, allB_false (i := k - 1) (by omega), Bool.false_and]
                  rw [decide_eq_false_iff_not, Nat.sub_add_cancel hk0]; omega))
      · have hk1 : ¬ (0 : Int) < (k : Int) := by omega
        repeat' (with_reducible first | refine x_ops ?_ | refine wk ?_ | ((first | refine gd1 ?_ ?_ | refine gd2 ?_ ?_ | refine gd3 ?_ ?_) <;> (first | exact @False.elim _ | intro hc)))
        all_goals first
          | (refine nf (by omega) ⟨vv, fun i h => ?_⟩ rfl
             have hi : i = k := by omega
             subst hi; exact ⟨by omega, fun h => by omega⟩)
          | (refine finV_lit vv ?_
             rw [bad (by omega)]; done)
    · have c1 : ¬ ((k : Int) < (l.length : Int)) := by omega
      repeat' (with_reducible first | refine x_ops ?_ | refine wk ?_ | ((first | refine gd1 ?_ ?_ | refine gd2 ?_ ?_ | refine gd3 ?_ ?_) <;> (first | exact @False.elim _ | intro hc)))
      refine finV_lit vv ?_
      rw [crsB, risB, allB_true, allB_true]
      · rfl
      · intro i hi
        simp only [decide_eq_true_eq]
        exact (hI i (by omega)).1
      · intro i hi
        simp only [decide_eq_true_eq]
        have := (hI (i + 1) (by omega)).2 (by omega)
        simpa using this
end Go.Proofs.Ytojjdkoglhecbaa
