/- The order of signs, of both; rising rows; what a row contains. -/
import Derived.Test.YtdefefeifcdogaaGreatL2
namespace Go.Proofs.YtdefefeifcdogaaGreat
open Go.RowKit
set_option linter.unusedSimpArgs false
set_option linter.unusedVariables false

/-- A sign comes before another. -/
def befS (a b : Sg) : Bool := if a.v ≠ b.v then decide (a.v < b.v) else if a.d ≠ b.d then b.d else !a.t && b.t
theorem ordS_bef (a b : Sg) : decide (0 ≤ ordS a b) = !befS a b := by
  obtain ⟨v, d, t⟩ := a
  obtain ⟨v', d', t'⟩ := b
  unfold ordS befS cmpI
  dsimp only
  by_cases h1 : v < v'
  · have : v ≠ v' := by omega
    rw [if_pos h1, orI, if_pos (by decide), if_pos this, decide_eq_true h1]; rfl
  · by_cases h2 : v' < v
    · have : v ≠ v' := by omega
      rw [if_neg h1, if_pos h2, orI, if_pos (by decide), if_pos this, decide_eq_false h1]; rfl
    · have : v = v' := by omega
      subst this
      have hb : (if v ≠ v then decide (v < v) else if d ≠ d' then d' else !t && t') = if d ≠ d' then d' else !t && t' := by simp
      rw [if_neg h1, if_neg h1, hb]
      cases d <;> cases d' <;> cases t <;> cases t' <;> rfl
theorem before_fn (a b : Sg) : Fn Tryz.prog Gd 141 [a.val, b.val] (vbool (befS a b)) := by
  refine Fn.of_vx0 k_theorboref10_before (by simp) (by rw [V.pures, pure_sg, V.pures, pure_sg]; rfl) ?_
  obtain ⟨v, d, t⟩ := a
  obtain ⟨v', d', t'⟩ := b
  unfold c_theorboref10_before
  by_cases h1 : v = v'
  · subst h1
    have hq : ∀ d t d' t', befS ⟨v, d, t⟩ ⟨v, d', t'⟩ = if d ≠ d' then d' else !t && t' := fun d t d' t' => by
      rw [befS, if_neg (by simp)]
    replace hq := Hid.mk hq
    cases d <;> cases d' <;> cases t <;> cases t'
    all_goals repeat' (with_reducible first | refine x_ops ?_ | refine wk ?_ | ((first | refine gd1 ?_ ?_ | refine gd2 ?_ ?_ | refine gd3 ?_ ?_) <;> (first | exact @False.elim _ | intro hc)))
    all_goals refine finV_lit vv ?_
    all_goals rw [hq.out]; rfl
  · have c1 : (v == v') = false := by rw [beq_eq_false_iff_ne]; exact h1
    have hq : befS ⟨v, d, t⟩ ⟨v', d', t'⟩ = decide (v < v') := by rw [befS, if_pos h1]
    replace hq := Hid.mk hq
    clear h1
    repeat' (with_reducible first | refine x_ops ?_ | refine wk ?_ | ((first | refine gd1 ?_ ?_ | refine gd2 ?_ ?_ | refine gd3 ?_ ?_) <;> (first | exact @False.elim _ | intro hc)))
    all_goals refine finV_lit vv ?_
    all_goals rw [hq.out]
/-- Signs that rise, and are some. -/
def risS (l : List Sg) : Bool := allB (l.length - 1) (fun i => befS (l.getD i default) (l.getD (i + 1) default)) && decide (0 < l.length)
theorem risingS_fn (l : List Sg) (hl : l.length ≤ 4611686018427387904) : Fn Tryz.prog Gd 143 [tL Sg.cells l, .fn 118 []] (vbool (risS l)) := by
  refine Fn.of_vx0 k_leaf_rising_api_Sign (by simp) (by rw [V.pures, pure_tL]; rfl) ?_
  unfold c_leaf_rising_api_Sign
  repeat' (with_reducible first | refine x_ops ?_ | refine wk ?_ | ((first | refine gd1 ?_ ?_ | refine gd2 ?_ ?_ | refine gd3 ?_ ?_) <;> (first | exact @False.elim _ | intro hc)))
  refine x_loopF w_leaf_rising_api_Sign_p4 kr (l.length - 1) (fun k t => t 5 = vint ((k + 1 : Nat) : Int) ∧ ∀ i, i < k → befS (l.getD i default) (l.getD (i + 1) default) = true) ?_ ?_
  · exact ⟨vv, fun i h => by omega⟩
  rintro k t hk ⟨h5, hI⟩
  by_cases hlt : k + 1 < l.length
  · have g1 := sg_take (l := l) (k := k + 1) (by omega)
    have g2 := sg_take (l := l) (k := k) (by omega)
    have hL := sgs_len l
    have c2 : ((k + 1 : Nat) : Int) < (l.length : Int) := by omega
    have c3 : (k : Int) < (l.length : Int) := by omega
    have c4 : k * 3 + 3 ≤ l.length * 3 := by omega
    have c5 : (k + 1) * 3 + 3 ≤ l.length * 3 := by omega
    have w1 := w_sub1 (k := k + 1) (by omega) (by omega)
    have w2 := w_add1 (k := k + 1) (by omega)
    have O := order_fn (l.getD k default) (l.getD (k + 1) default)
    have B := ordS_bef (l.getD k default) (l.getD (k + 1) default)
    rw [Nat.add_sub_cancel] at w1
    cases hb : befS (l.getD k default) (l.getD (k + 1) default)
    · have B1 : 0 ≤ ordS (l.getD k default) (l.getD (k + 1) default) := by rw [hb] at B; simpa using B
      clear B
      repeat' (with_reducible first | refine x_ops ?_ | refine wk ?_ | (with_reducible refine xcv (O) kr ?_) | ((first | refine gd1 ?_ ?_ | refine gd2 ?_ ?_ | refine gd3 ?_ ?_) <;> (first | exact @False.elim _ | intro hc)))
      refine finV_lit vv ?_
      rw [risS, allB_false (i := k) (by omega) hb, Bool.false_and]
    · have B1 : ¬ 0 ≤ ordS (l.getD k default) (l.getD (k + 1) default) := by rw [hb] at B; simpa using B
      clear B
      repeat' (with_reducible first | refine x_ops ?_ | refine wk ?_ | (with_reducible refine xcv (O) kr ?_) | ((first | refine gd1 ?_ ?_ | refine gd2 ?_ ?_ | refine gd3 ?_ ?_) <;> (first | exact @False.elim _ | intro hc)))
      refine nf (by omega) ⟨vv, fun i h => ?_⟩ rfl
      by_cases hi : i = k
      · subst hi; exact hb
      · exact hI i (by omega)
  · have c1 : ¬ (((k + 1 : Nat) : Int) < (l.length : Int)) := by omega
    repeat' (with_reducible first | refine x_ops ?_ | refine wk ?_ | ((first | refine gd1 ?_ ?_ | refine gd2 ?_ ?_ | refine gd3 ?_ ?_) <;> (first | exact @False.elim _ | intro hc)))
    refine finV_lit vv ?_
    rw [risS, allB_true fun i hi => hI i (by omega), Bool.true_and]
    congr 1
    by_cases h0 : 0 < l.length
    · rw [decide_eq_true h0, decide_eq_true (by omega)]
    · rw [decide_eq_false h0, decide_eq_false (by omega)]
end Go.Proofs.YtdefefeifcdogaaGreat
