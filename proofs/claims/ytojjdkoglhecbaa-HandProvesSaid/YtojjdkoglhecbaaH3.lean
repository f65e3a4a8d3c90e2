/- Check of the reference, on values. -/
import Derived.Test.YtojjdkoglhecbaaH2
namespace Go.Proofs.Ytojjdkoglhecbaa
open Go.RowKit
set_option linter.unusedSimpArgs false
set_option linter.unusedVariables false

set_option maxHeartbeats 1000000 in
theorem rcheck_fn (h : Hand) : Fn Try.prog Gd 25 [h.val] (vint (chkE h)) := by
  refine Fn.of_vx0 k_theorboref06_Check (by simp) (by rw [V.pures, pure_hand]; rfl) ?_
  unfold c_theorboref06_Check Hand.val
  repeat' (with_reducible first | refine x_ops ?_ | refine wk ?_ | ((first | refine gd1 ?_ ?_ | refine gd2 ?_ ?_ | refine gd3 ?_ ?_) <;> (first | exact @False.elim _ | intro hc)))
  all_goals first
    | (refine finV_lit vv (chkE_bad fun hk => ?_)
       have h1 := hk.n1
       have h2 := hk.n4
       have h3 := hk.nh
       have h4 := hk.nb
       try simp only [beq_eq_false_iff_ne, beq_iff_eq] at *
       omega)
    | skip
  rename_i e1 e2 hh
  have hb : h.barre.length = h.low.length := by have := eq_of_beq hc; omega
  replace hh : h.high.length = h.low.length := by have := eq_of_beq hh; omega
  clear hc
  have hn1 : 1 ≤ h.low.length := by omega
  have hn4 : h.low.length ≤ 4 := by omega
  clear e1 e2
  refine x_loopF w_theorboref06_Check_p5 (by kernel_rfl) h.low.length (fun k t => t 4 = vint (k : Int) ∧ ∀ i, i < k → (0 ≤ h.low.getD i 0 ∧ h.low.getD i 0 ≤ h.high.getD i 0 ∧ h.high.getD i 0 ≤ 8) ∧ (0 < i → h.low.getD (i - 1) 0 ≤ h.low.getD i 0 ∧ h.high.getD (i - 1) 0 ≤ h.high.getD i 0)) ?_ ?_
  · exact ⟨vv, fun i h => by omega⟩
  rintro k t hk ⟨h4, hI⟩
  by_cases hlt : k < h.low.length
  · have g1 := ints_at (l := h.low) (k := k) (by omega)
    have g2 := ints_at (l := h.high) (k := k) (by omega)
    have c2 : (k : Int) < (h.low.length : Int) := by omega
    have w2 := w_add1 (k := k) (by omega)
    by_cases hk0 : 0 < k
    · have g3 := ints_at (l := h.low) (k := k - 1) (by omega)
      have g4 := ints_at (l := h.high) (k := k - 1) (by omega)
      have c3 : ((k - 1 : Nat) : Int) < (h.low.length : Int) := by omega
      have c4 : (0 : Int) < (k : Int) := by omega
      have w1 := w_sub1 hk0 (by omega)
      repeat' (with_reducible first | refine x_ops ?_ | refine wk ?_ | ((first | refine gd1 ?_ ?_ | refine gd2 ?_ ?_ | refine gd3 ?_ ?_) <;> (first | exact @False.elim _ | intro hc)))
      all_goals first
        | (refine nf (by omega) ⟨vv, fun i h => ?_⟩ rfl
           by_cases hi : i = k
           · subst hi; exact ⟨by omega, fun _ => by omega⟩
           · exact hI i (by omega))
        | (refine finV_lit vv (chkE_bad fun hk => ?_)
           have h5 := hk.each k hlt
           have h6 := allB_iff.1 hk.al (k - 1) (by omega)
           have h7 := allB_iff.1 hk.ah (k - 1) (by omega)
           rw [decide_eq_true_eq, Nat.sub_add_cancel hk0] at h6 h7
           omega)
    · have hk1 : ¬ (0 : Int) < (k : Int) := by omega
      repeat' (with_reducible first | refine x_ops ?_ | refine wk ?_ | ((first | refine gd1 ?_ ?_ | refine gd2 ?_ ?_ | refine gd3 ?_ ?_) <;> (first | exact @False.elim _ | intro hc)))
      all_goals first
        | (refine nf (by omega) ⟨vv, fun i h => ?_⟩ rfl
           have hi : i = k := by omega
           subst hi; exact ⟨by omega, fun h => by omega⟩)
        | (refine finV_lit vv (chkE_bad fun hk => ?_)
           have h5 := hk.each k hlt
           omega)
  have hI : ∀ i, i < h.low.length → (0 ≤ h.low.getD i 0 ∧ h.low.getD i 0 ≤ h.high.getD i 0 ∧ h.high.getD i 0 ≤ 8) ∧ (0 < i → h.low.getD (i - 1) 0 ≤ h.low.getD i 0 ∧ h.high.getD (i - 1) 0 ≤ h.high.getD i 0) := fun i hi => hI i (by omega)
  have c1 : ¬ ((k : Int) < (h.low.length : Int)) := by omega
  clear hlt hk
  repeat' (with_reducible first | refine x_ops ?_ | refine wk ?_ | ((first | refine gd1 ?_ ?_ | refine gd2 ?_ ?_ | refine gd3 ?_ ?_) <;> (first | exact @False.elim _ | intro hc)))
  all_goals first
    | (refine finV_lit vv (chkE_bad fun hk => ?_)
       have h5 := hk.top
       have h6 := hk.jump
       omega)
    | skip
  rename_i t1 t2 j1
  refine x_loopF w_theorboref06_Check_p13 (by kernel_rfl) 5 (fun k t => t 124 = vint (k : Int) ∧ ∀ i, i < k → 0 ≤ (Hand.ws h).getD i 0 ∧ (Hand.ws h).getD i 0 ≤ 1000) ?_ ?_
  · exact ⟨vv, fun i h => by omega⟩
  rintro q t' hq ⟨h124, hJ⟩
  by_cases hlt : q < 5
  · have g1 : [V.lit (.int .i64 h.shift), V.lit (.int .i64 h.lift), V.lit (.int .i64 h.bar), V.lit (.int .i64 h.stretch), V.lit (.int .i64 h.slide)][q]? = some (V.lit (.int .i64 ((Hand.ws h).getD q 0))) := ints_at (l := Hand.ws h) (k := q) hlt
    have c2 : (q : Int) < 5 := by omega
    have w2 := w_add1 (k := q) (by omega)
    repeat' (with_reducible first | refine x_ops ?_ | refine wk ?_ | ((first | refine gd1 ?_ ?_ | refine gd2 ?_ ?_ | refine gd3 ?_ ?_) <;> (first | exact @False.elim _ | intro hc)))
    all_goals first
      | (refine finV_lit vv (chkE_bad fun hk => ?_)
         have := hk.ws q hlt
         omega)
      | (refine nf (by omega) ⟨vv, fun i h => ?_⟩ rfl
         by_cases hi : i = q
         · subst hi; omega
         · exact hJ i (by omega))
  · have c3 : ¬ ((q : Int) < 5) := by omega
    repeat' (with_reducible first | refine x_ops ?_ | refine wk ?_ | ((first | refine gd1 ?_ ?_ | refine gd2 ?_ ?_ | refine gd3 ?_ ?_) <;> (first | exact @False.elim _ | intro hc)))
    have hq5 : q = 5 := by omega
    refine finV_lit vv (chkE_good ?_)
    have hJ := fun i (hi : i < 5) => hJ i (by omega)
    refine ⟨hn1, hn4, hh, hb, fun i hi => (hI i hi).1, allB_true fun i hi => ?_, allB_true fun i hi => ?_, by omega, by omega, hJ 0 (by decide), hJ 1 (by decide), hJ 2 (by decide), hJ 3 (by decide), hJ 4 (by decide)⟩
    · rw [decide_eq_true_eq]
      have := ((hI (i + 1) (by omega)).2 (by omega)).1
      simpa using this
    · rw [decide_eq_true_eq]
      have := ((hI (i + 1) (by omega)).2 (by omega)).2
      simpa using this
end Go.Proofs.Ytojjdkoglhecbaa
