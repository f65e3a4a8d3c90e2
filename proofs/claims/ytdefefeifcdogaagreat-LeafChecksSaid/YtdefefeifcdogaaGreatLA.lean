/- A valid leaf, of both. -/
import Derived.Test.YtdefefeifcdogaaGreatL9
import Derived.Test.YtdefefeifcdogaaGreatL7
namespace Go.Proofs.YtdefefeifcdogaaGreat
open Go.RowKit
set_option linter.unusedSimpArgs false
set_option linter.unusedVariables false

/-- What fits in memory. -/
structure LfSm (f : Lf) : Prop where
  n : f.cols.length ≤ 17592186044416
  c : ∀ i, i < f.cols.length → ClmSm (f.cols.getD i default)
/-- All columns are valid. -/
def ColsOk (f : Lf) : Prop := ∀ i, i < f.cols.length → ClmOk f.ins (f.cols.getD i default) ∧ (i = 0 → (f.cols.getD i default).tie = false)
open Classical in
/-- The first error of a leaf. -/
noncomputable def lchk (f : Lf) : Int := if chkI f.ins ≠ 0 then chkI f.ins else if 400 < f.cols.length then 2 else if ColsOk f then 0 else 100
theorem clmB_iff {x : Ins} {c : Clm} : clmB x c = true ↔ ClmOk x c := by
  rw [clmB]; split <;> simp_all
set_option maxHeartbeats 1000000 in
theorem lcheck_fn (f : Lf) (hs : LfSm f) : Fn Tryz.prog Gd 27 [f.val] (vint (lchk f)) := by
  refine Fn.of_vx0 k_leaf_Check (by simp) (by rw [V.pures, pure_lf]; rfl) ?_
  have I := icheck_fn f.ins
  unfold c_leaf_Check
  by_cases h0 : chkI f.ins = 0
  case neg =>
    have c1 : (chkI f.ins == 0) = false := by rw [beq_eq_false_iff_ne]; exact h0
    have hq : lchk f = chkI f.ins := by rw [lchk, if_pos h0]
    replace hq := Hid.mk hq
    clear h0
    repeat' (with_reducible first | refine x_ops ?_ | refine wk ?_ | (with_reducible refine xc (I) ?_) | ((first | refine gd1 ?_ ?_ | refine gd2 ?_ ?_ | refine gd3 ?_ ?_) <;> (first | exact @False.elim _ | intro hc)))
    exact finV_lit vv (by rw [hq.out])
  have c1 : (chkI f.ins == 0) = true := by rw [h0]; rfl
  by_cases h1 : 400 < f.cols.length
  · have c2 : (400 : Int) < (f.cols.length : Int) := by omega
    have hq : lchk f = 2 := by rw [lchk, if_neg (by omega), if_pos h1]
    replace hq := Hid.mk hq
    clear h0 h1
    repeat' (with_reducible first | refine x_ops ?_ | refine wk ?_ | (with_reducible refine xc (I) ?_) | ((first | refine gd1 ?_ ?_ | refine gd2 ?_ ?_ | refine gd3 ?_ ?_) <;> (first | exact @False.elim _ | intro hc)))
    exact finV_lit vv (by rw [hq.out])
  have c2 : ¬ (400 : Int) < (f.cols.length : Int) := by omega
  have hq : ColsOk f → lchk f = 0 := fun h => by rw [lchk, if_neg (by omega), if_neg h1, if_pos h]
  have hq2 : ¬ ColsOk f → lchk f = 100 := fun h => by rw [lchk, if_neg (by omega), if_neg h1, if_neg h]
  replace hq := Hid.mk hq
  replace hq2 := Hid.mk hq2
  have hl := Hid.mk hs.n
  have hcs := Hid.mk hs.c
  clear h0 h1 hs
  repeat' (with_reducible first | refine x_ops ?_ | refine wk ?_ | (with_reducible refine xc (I) ?_) | ((first | refine gd1 ?_ ?_ | refine gd2 ?_ ?_ | refine gd3 ?_ ?_) <;> (first | exact @False.elim _ | intro hc)))
  clear I c1 c2
  refine x_loopW w_leaf_Check_p8 kr f.cols.length (fun k t m => t 19 = vint k ∧ (m.obj 0 = some (.box [.sl f.ins.cs.length (f.ins.cs.flatMap Crs.cells) .no, .sl f.ins.st.length (f.ins.st.map vint) .no, .sl f.cols.length (f.cols.flatMap Clm.cells) .no] 28) ∧ 0 < m.next) ∧ ∀ i, i < k → ClmOk f.ins (f.cols.getD i default) ∧ (i = 0 → (f.cols.getD i default).tie = false)) ?_ ?_
  · exact ⟨vv, ⟨vv, by show 0 < 2; omega⟩, fun i h => by omega⟩
  rintro k t m hk ⟨h19, ⟨hm, hn⟩, hI⟩
  replace hI := Hid.mk hI
  by_cases hlt : k < f.cols.length
  case neg =>
    have c4 : ¬ ((k : Int) < (f.cols.length : Int)) := by omega
    have hz : lchk f = 0 := hq.out fun i hi => hI.out i (by omega)
    replace hz := Hid.mk hz
    clear hlt hk
    repeat' (with_reducible first | refine x_ops ?_ | refine wk ?_ | ((first | refine gd1 ?_ ?_ | refine gd2 ?_ ?_ | refine gd3 ?_ ?_) <;> (first | exact @False.elim _ | intro hc)))
    exact finV_lit vv (by rw [hz.out])
  have g1 := clm_take (l := f.cols) (k := k) hlt
  have hL := clms_len f.cols
  have c4 : (k : Int) < (f.cols.length : Int) := by omega
  have c5 : k * 4 + 4 ≤ f.cols.length * 4 := by omega
  have w2 := w_add1 (k := k) (by have := hl.out; omega)
  have x2 : ¬ (0 : Nat) = m.next + 3 := by omega
  have hlt0 := Hid.mk hlt
  have R := right_fn f.ins (f.cols.getD k default) (hcs.out k hlt)
  have hB := clmB_iff (x := f.ins) (c := f.cols.getD k default)
  have bad : ¬ (ClmOk f.ins (f.cols.getD k default) ∧ (k = 0 → (f.cols.getD k default).tie = false)) → lchk f = 100 := fun h => hq2.out fun h' => h (h' k hlt)
  have step : ClmOk f.ins (f.cols.getD k default) → (k = 0 → (f.cols.getD k default).tie = false) → ∀ i, i < k + 1 → ClmOk f.ins (f.cols.getD i default) ∧ (i = 0 → (f.cols.getD i default).tie = false) := fun h h2 i hi => by
    by_cases e : i = k
    · subst e; exact ⟨h, h2⟩
    · exact hI.out i (by omega)
  replace bad := Hid.mk bad
  replace step := Hid.mk step
  replace hn := Hid.mk hn
  clear hlt hk
  generalize f.cols.getD k default = c at *
  obtain ⟨bar, tie, sgs, ce⟩ := c
  dsimp only at g1
  cases hb : clmB f.ins ⟨bar, tie, sgs, ce⟩
  · rw [hb] at R
    have hz : lchk f = 100 := bad.out fun h => by rw [hB.2 h.1] at hb; cases hb
    replace hz := Hid.mk hz
    clear hb hB
    repeat' (with_reducible first | refine x_ops ?_ | refine wk ?_ | (with_reducible refine xc (R) ?_) | ((first | refine gd1 ?_ ?_ | refine gd2 ?_ ?_ | refine gd3 ?_ ?_) <;> (first | exact @False.elim _ | intro hc)))
    exact finV_lit vv (by rw [hz.out])
  rw [hb] at R
  have hok := Hid.mk (hB.1 hb)
  clear hb hB
  by_cases hk0 : k = 0
  · have d1 : ((k : Int) == 0) = true := by rw [beq_iff_eq]; omega
    replace hk0 := Hid.mk hk0
    cases tie
    · repeat' (with_reducible first | refine x_ops ?_ | refine wk ?_ | (with_reducible refine xc (R) ?_) | ((first | refine gd1 ?_ ?_ | refine gd2 ?_ ?_ | refine gd3 ?_ ?_) <;> (first | exact @False.elim _ | intro hc)))
      refine nx hlt0.out ⟨vv, ⟨?_, ?_⟩, step.out hok.out fun _ => rfl⟩
      · have := hn.out
        exact (put_other _ _ (by omega)).trans ((put_other _ _ (by omega)).trans hm)
      · show 0 < m.next + 6
        omega
    · have hz : lchk f = 100 := bad.out fun h => by have := h.2 hk0.out; cases this
      replace hz := Hid.mk hz
      repeat' (with_reducible first | refine x_ops ?_ | refine wk ?_ | (with_reducible refine xc (R) ?_) | ((first | refine gd1 ?_ ?_ | refine gd2 ?_ ?_ | refine gd3 ?_ ?_) <;> (first | exact @False.elim _ | intro hc)))
      exact finV_lit vv (by rw [hz.out])
  · have d1 : ((k : Int) == 0) = false := by rw [beq_eq_false_iff_ne]; omega
    replace hk0 := Hid.mk hk0
    repeat' (with_reducible first | refine x_ops ?_ | refine wk ?_ | (with_reducible refine xc (R) ?_) | ((first | refine gd1 ?_ ?_ | refine gd2 ?_ ?_ | refine gd3 ?_ ?_) <;> (first | exact @False.elim _ | intro hc)))
    refine nx hlt0.out ⟨vv, ⟨?_, ?_⟩, step.out hok.out fun h => absurd h hk0.out⟩
    · have := hn.out
      exact (put_other _ _ (by omega)).trans ((put_other _ _ (by omega)).trans hm)
    · show 0 < m.next + 6
      omega
set_option maxHeartbeats 1000000 in
theorem rlcheck_fn (f : Lf) (hs : LfSm f) : Fn Tryz.prog Gd 28 [f.val] (vint (lchk f)) := by
  refine Fn.of_vx0 k_theorboref10_Check (by simp) (by rw [V.pures, pure_lf]; rfl) ?_
  have I := richeck_fn f.ins
  unfold c_theorboref10_Check
  by_cases h0 : chkI f.ins = 0
  case neg =>
    have c1 : (chkI f.ins == 0) = false := by rw [beq_eq_false_iff_ne]; exact h0
    have hq : lchk f = chkI f.ins := by rw [lchk, if_pos h0]
    replace hq := Hid.mk hq
    clear h0
    repeat' (with_reducible first | refine x_ops ?_ | refine wk ?_ | (with_reducible refine xc (I) ?_) | ((first | refine gd1 ?_ ?_ | refine gd2 ?_ ?_ | refine gd3 ?_ ?_) <;> (first | exact @False.elim _ | intro hc)))
    exact finV_lit vv (by rw [hq.out])
  have c1 : (chkI f.ins == 0) = true := by rw [h0]; rfl
  by_cases h1 : 400 < f.cols.length
  · have c2 : (400 : Int) < (f.cols.length : Int) := by omega
    have hq : lchk f = 2 := by rw [lchk, if_neg (by omega), if_pos h1]
    replace hq := Hid.mk hq
    clear h0 h1
    repeat' (with_reducible first | refine x_ops ?_ | refine wk ?_ | (with_reducible refine xc (I) ?_) | ((first | refine gd1 ?_ ?_ | refine gd2 ?_ ?_ | refine gd3 ?_ ?_) <;> (first | exact @False.elim _ | intro hc)))
    exact finV_lit vv (by rw [hq.out])
  have c2 : ¬ (400 : Int) < (f.cols.length : Int) := by omega
  have hq : ColsOk f → lchk f = 0 := fun h => by rw [lchk, if_neg (by omega), if_neg h1, if_pos h]
  have hq2 : ¬ ColsOk f → lchk f = 100 := fun h => by rw [lchk, if_neg (by omega), if_neg h1, if_neg h]
  replace hq := Hid.mk hq
  replace hq2 := Hid.mk hq2
  have hl := Hid.mk hs.n
  have hcs := Hid.mk hs.c
  clear h0 h1 hs
  repeat' (with_reducible first | refine x_ops ?_ | refine wk ?_ | (with_reducible refine xc (I) ?_) | ((first | refine gd1 ?_ ?_ | refine gd2 ?_ ?_ | refine gd3 ?_ ?_) <;> (first | exact @False.elim _ | intro hc)))
  clear I c1 c2
  refine x_loopF w_theorboref10_Check_p7 kr f.cols.length (fun k t => t 4 = vint k ∧ ∀ i, i < k → ClmOk f.ins (f.cols.getD i default) ∧ (i = 0 → (f.cols.getD i default).tie = false)) ?_ ?_
  · exact ⟨vv, fun i h => by omega⟩
  rintro k t hk ⟨h19, hI⟩
  replace hI := Hid.mk hI
  by_cases hlt : k < f.cols.length
  case neg =>
    have c4 : ¬ ((k : Int) < (f.cols.length : Int)) := by omega
    have hz : lchk f = 0 := hq.out fun i hi => hI.out i (by omega)
    replace hz := Hid.mk hz
    clear hlt hk
    repeat' (with_reducible first | refine x_ops ?_ | refine wk ?_ | ((first | refine gd1 ?_ ?_ | refine gd2 ?_ ?_ | refine gd3 ?_ ?_) <;> (first | exact @False.elim _ | intro hc)))
    exact finV_lit vv (by rw [hz.out])
  have g1 := clm_take (l := f.cols) (k := k) hlt
  have g2 := clm_at1 (l := f.cols) (k := k) hlt
  have hL := clms_len f.cols
  have c4 : (k : Int) < (f.cols.length : Int) := by omega
  have c5 : k * 4 + 4 ≤ f.cols.length * 4 := by omega
  have w2 := w_add1 (k := k) (by have := hl.out; omega)
  have hlt0 := Hid.mk hlt
  have R := rright10_fn f.ins (f.cols.getD k default) (hcs.out k hlt)
  have hB := clmB_iff (x := f.ins) (c := f.cols.getD k default)
  have bad : ¬ (ClmOk f.ins (f.cols.getD k default) ∧ (k = 0 → (f.cols.getD k default).tie = false)) → lchk f = 100 := fun h => hq2.out fun h' => h (h' k hlt)
  have step : ClmOk f.ins (f.cols.getD k default) → (k = 0 → (f.cols.getD k default).tie = false) → ∀ i, i < k + 1 → ClmOk f.ins (f.cols.getD i default) ∧ (i = 0 → (f.cols.getD i default).tie = false) := fun h h2 i hi => by
    by_cases e : i = k
    · subst e; exact ⟨h, h2⟩
    · exact hI.out i (by omega)
  replace bad := Hid.mk bad
  replace step := Hid.mk step
  clear hlt hk
  generalize f.cols.getD k default = c at *
  obtain ⟨bar, tie, sgs, ce⟩ := c
  dsimp only at g1 g2
  cases hb : clmB f.ins ⟨bar, tie, sgs, ce⟩
  · rw [hb] at R
    have hz : lchk f = 100 := bad.out fun h => by rw [hB.2 h.1] at hb; cases hb
    replace hz := Hid.mk hz
    clear hb hB
    repeat' (with_reducible first | refine x_ops ?_ | refine wk ?_ | (with_reducible refine xc (R) ?_) | ((first | refine gd1 ?_ ?_ | refine gd2 ?_ ?_ | refine gd3 ?_ ?_) <;> (first | exact @False.elim _ | intro hc)))
    exact finV_lit vv (by rw [hz.out])
  rw [hb] at R
  have hok := Hid.mk (hB.1 hb)
  clear hb hB
  by_cases hk0 : k = 0
  · have d1 : ((k : Int) == 0) = true := by rw [beq_iff_eq]; omega
    replace hk0 := Hid.mk hk0
    cases tie
    · repeat' (with_reducible first | refine x_ops ?_ | refine wk ?_ | (with_reducible refine xc (R) ?_) | ((first | refine gd1 ?_ ?_ | refine gd2 ?_ ?_ | refine gd3 ?_ ?_) <;> (first | exact @False.elim _ | intro hc)))
      refine nf hlt0.out ⟨vv, step.out hok.out fun _ => rfl⟩ rfl
    · have hz : lchk f = 100 := bad.out fun h => by have := h.2 hk0.out; cases this
      replace hz := Hid.mk hz
      repeat' (with_reducible first | refine x_ops ?_ | refine wk ?_ | (with_reducible refine xc (R) ?_) | ((first | refine gd1 ?_ ?_ | refine gd2 ?_ ?_ | refine gd3 ?_ ?_) <;> (first | exact @False.elim _ | intro hc)))
      exact finV_lit vv (by rw [hz.out])
  · have d1 : ((k : Int) == 0) = false := by rw [beq_eq_false_iff_ne]; omega
    replace hk0 := Hid.mk hk0
    repeat' (with_reducible first | refine x_ops ?_ | refine wk ?_ | (with_reducible refine xc (R) ?_) | ((first | refine gd1 ?_ ?_ | refine gd2 ?_ ?_ | refine gd3 ?_ ?_) <;> (first | exact @False.elim _ | intro hc)))
    refine nf hlt0.out ⟨vv, step.out hok.out fun h => absurd h hk0.out⟩ rfl
end Go.Proofs.YtdefefeifcdogaaGreat
