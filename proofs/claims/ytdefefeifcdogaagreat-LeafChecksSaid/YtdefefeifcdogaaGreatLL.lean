/- Same of the reference: instruments, events, pieces. -/
import Derived.Test.YtdefefeifcdogaaGreatLD
namespace Go.Proofs.YtdefefeifcdogaaGreat
open Go.RowKit
set_option linter.unusedSimpArgs false
set_option linter.unusedVariables false

theorem lst_eq {α : Type} [Inhabited α] {l l' : List α} (hl : l.length = l'.length) (h : ∀ i, i < l.length → l.getD i default = l'.getD i default) : l = l' := by
  apply List.ext_getElem hl
  intro i h1 h2
  have := h i h1
  rwa [List.getD_eq_getElem?_getD, List.getElem?_eq_getElem h1, List.getD_eq_getElem?_getD, List.getElem?_eq_getElem h2] at this
theorem getD_mem {α : Type} [Inhabited α] {l : List α} {i : Nat} (h : i < l.length) : l.getD i default ∈ l := by
  rw [List.getD_eq_getElem?_getD, List.getElem?_eq_getElem h]; exact List.getElem_mem h
theorem rsameI_fn (x y : Ins) (hx1 : x.cs.length ≤ 17592186044416) (hx2 : x.st.length ≤ 17592186044416) : Fn Tryz.prog Gd 70 [x.val, y.val] (vbool (decide (x = y))) := by
  refine Fn.of_vx0 k_theorboref01_Same (by simp) (by rw [V.pures, pure_ins, V.pures, pure_ins]; rfl) ?_
  unfold c_theorboref01_Same
  by_cases h1 : x.cs.length = y.cs.length
  case neg =>
    have c1 : ((x.cs.length : Int) == (y.cs.length : Int)) = false := by rw [beq_eq_false_iff_ne]; omega
    rw [decide_eq_false fun e => h1 (by rw [e])]
    clear h1
    repeat' (with_reducible first | refine x_ops ?_ | refine wk ?_ | ((first | refine gd1 ?_ ?_ | refine gd2 ?_ ?_ | refine gd3 ?_ ?_) <;> (first | exact @False.elim _ | intro hc)))
    exact finV_lit vv rfl
  have c1 : ((x.cs.length : Int) == (y.cs.length : Int)) = true := by rw [beq_iff_eq]; omega
  by_cases h2 : x.st.length = y.st.length
  case neg =>
    have c2 : ((x.st.length : Int) == (y.st.length : Int)) = false := by rw [beq_eq_false_iff_ne]; omega
    rw [decide_eq_false fun e => h2 (by rw [e])]
    clear h1 h2
    repeat' (with_reducible first | refine x_ops ?_ | refine wk ?_ | ((first | refine gd1 ?_ ?_ | refine gd2 ?_ ?_ | refine gd3 ?_ ?_) <;> (first | exact @False.elim _ | intro hc)))
    exact finV_lit vv rfl
  have c2 : ((x.st.length : Int) == (y.st.length : Int)) = true := by rw [beq_iff_eq]; omega
  have hy1 := Hid.mk h1
  have hy2 := Hid.mk h2
  have hdec : decide (x = y) = true ↔ x = y := decide_eq_true_iff
  replace hdec := Hid.mk hdec
  clear h1 h2
  repeat' (with_reducible first | refine x_ops ?_ | refine wk ?_ | ((first | refine gd1 ?_ ?_ | refine gd2 ?_ ?_ | refine gd3 ?_ ?_) <;> (first | exact @False.elim _ | intro hc)))
  clear c1 c2
  refine x_loopF w_theorboref01_Same_p5 kr x.cs.length (fun k t => t 5 = vint k ∧ ∀ i, i < k → x.cs.getD i default = y.cs.getD i default) ?_ ?_
  · exact ⟨vv, fun i h => by omega⟩
  rintro k t hk ⟨h5, hI⟩
  replace hI := Hid.mk hI
  by_cases hlt : k < x.cs.length
  case pos =>
    have g1 := crs_take (l := x.cs) (k := k) hlt
    have g2 := crs_take (l := y.cs) (k := k) (by have := hy1.out; omega)
    have hL1 := crss_len x.cs
    have hL2 := crss_len y.cs
    have c1 : (k : Int) < (x.cs.length : Int) := by omega
    have c2 : (k : Int) < (y.cs.length : Int) := by have := hy1.out; omega
    have c3 : k * 3 + 3 ≤ x.cs.length * 3 := by omega
    have c4 : k * 3 + 3 ≤ y.cs.length * 3 := by have := hy1.out; omega
    have w1 := w_add1 (k := k) (by omega)
    have hlt0 := Hid.mk hlt
    have hne : x.cs.getD k default ≠ y.cs.getD k default → x ≠ y := fun h e => h (by rw [e])
    replace hne := Hid.mk hne
    generalize ha : x.cs.getD k default = a at *
    generalize hb : y.cs.getD k default = b at *
    replace ha := Hid.mk ha
    replace hb := Hid.mk hb
    obtain ⟨a1, a2, a3⟩ := a
    obtain ⟨b1, b2, b3⟩ := b
    clear hlt hk
    by_cases e1 : a1 = b1
    case neg =>
      have d1 : (a1 == b1) = false := by rw [beq_eq_false_iff_ne]; exact e1
      rw [decide_eq_false (hne.out fun e => e1 (by injection e))]
      clear e1
      repeat' (with_reducible first | refine x_ops ?_ | simp only [go_sem, Nat.reduceAdd, Nat.reduceEqDiff, Nat.reduceLT, Nat.reduceLeDiff, Nat.reduceMul, Nat.reduceSub, Nat.reducePow, Nat.reduceDiv, Nat.reduceMod, Nat.reduceBEq, Int.reduceBEq, Int.reduceLT, reduceIte, tIs, tBs, tPs, Bool.false_and, *] | ((first | refine gd1 ?_ ?_ | refine gd2 ?_ ?_ | refine gd3 ?_ ?_) <;> (first | exact @False.elim _ | intro hc)))
      exact finV_lit vv rfl
    by_cases e2 : a2 = b2
    case neg =>
      have d1 : (a1 == b1) = true := by rw [beq_iff_eq]; exact e1
      have d2 : (a2 == b2) = false := by rw [beq_eq_false_iff_ne]; exact e2
      rw [decide_eq_false (hne.out fun e => e2 (by injection e))]
      clear e1 e2
      repeat' (with_reducible first | refine x_ops ?_ | simp only [go_sem, Nat.reduceAdd, Nat.reduceEqDiff, Nat.reduceLT, Nat.reduceLeDiff, Nat.reduceMul, Nat.reduceSub, Nat.reducePow, Nat.reduceDiv, Nat.reduceMod, Nat.reduceBEq, Int.reduceBEq, Int.reduceLT, reduceIte, tIs, tBs, tPs, Bool.false_and, Bool.true_and, *] | ((first | refine gd1 ?_ ?_ | refine gd2 ?_ ?_ | refine gd3 ?_ ?_) <;> (first | exact @False.elim _ | intro hc)))
      exact finV_lit vv rfl
    by_cases e3 : a3 = b3
    case neg =>
      have d1 : (a1 == b1) = true := by rw [beq_iff_eq]; exact e1
      have d2 : (a2 == b2) = true := by rw [beq_iff_eq]; exact e2
      have d3 : (a3 == b3) = false := by rw [beq_eq_false_iff_ne]; exact e3
      rw [decide_eq_false (hne.out fun e => e3 (by injection e))]
      clear e1 e2 e3
      repeat' (with_reducible first | refine x_ops ?_ | simp only [go_sem, Nat.reduceAdd, Nat.reduceEqDiff, Nat.reduceLT, Nat.reduceLeDiff, Nat.reduceMul, Nat.reduceSub, Nat.reducePow, Nat.reduceDiv, Nat.reduceMod, Nat.reduceBEq, Int.reduceBEq, Int.reduceLT, reduceIte, tIs, tBs, tPs, Bool.false_and, Bool.true_and, *] | ((first | refine gd1 ?_ ?_ | refine gd2 ?_ ?_ | refine gd3 ?_ ?_) <;> (first | exact @False.elim _ | intro hc)))
      exact finV_lit vv rfl
    subst e1 e2 e3
    repeat' (with_reducible first | refine x_ops ?_ | simp only [go_sem, Nat.reduceAdd, Nat.reduceEqDiff, Nat.reduceLT, Nat.reduceLeDiff, Nat.reduceMul, Nat.reduceSub, Nat.reducePow, Nat.reduceDiv, Nat.reduceMod, Nat.reduceBEq, Int.reduceBEq, Int.reduceLT, reduceIte, tIs, tBs, tPs, Bool.true_and, *] | ((first | refine gd1 ?_ ?_ | refine gd2 ?_ ?_ | refine gd3 ?_ ?_) <;> (first | exact @False.elim _ | intro hc)))
    refine nf hlt0.out ⟨vv, fun i hi => ?_⟩ rfl
    by_cases e : i = k
    · subst e; rw [ha.out, hb.out]
    · exact hI.out i (by omega)
  have c1 : ¬ ((k : Int) < (x.cs.length : Int)) := by omega
  have hcs : x.cs = y.cs := lst_eq hy1.out fun i hi => hI.out i (by omega)
  replace hcs := Hid.mk hcs
  clear hlt hk hI
  repeat' (with_reducible first | refine x_ops ?_ | refine wk ?_ | ((first | refine gd1 ?_ ?_ | refine gd2 ?_ ?_ | refine gd3 ?_ ?_) <;> (first | exact @False.elim _ | intro hc)))
  clear c1
  refine x_loopF w_theorboref01_Same_p10 kr x.st.length (fun k t => t 6 = vint k ∧ ∀ i, i < k → x.st.getD i default = y.st.getD i default) ?_ ?_
  · exact ⟨vv, fun i h => by omega⟩
  rintro k t hk ⟨h6, hI⟩
  replace hI := Hid.mk hI
  by_cases hlt : k < x.st.length
  case pos =>
    have g1 := ints_at (l := x.st) (k := k) hlt
    have g2 := ints_at (l := y.st) (k := k) (by have := hy2.out; omega)
    have c1 : (k : Int) < (x.st.length : Int) := by omega
    have c2 : (k : Int) < (y.st.length : Int) := by have := hy2.out; omega
    have w1 := w_add1 (k := k) (by omega)
    have hlt0 := Hid.mk hlt
    clear hlt hk
    by_cases e1 : x.st.getD k 0 = y.st.getD k 0
    case neg =>
      have d1 : (x.st.getD k 0 == y.st.getD k 0) = false := by rw [beq_eq_false_iff_ne]; exact e1
      rw [decide_eq_false fun e => e1 (by rw [e])]
      clear e1
      repeat' (with_reducible first | refine x_ops ?_ | refine wk ?_ | ((first | refine gd1 ?_ ?_ | refine gd2 ?_ ?_ | refine gd3 ?_ ?_) <;> (first | exact @False.elim _ | intro hc)))
      exact finV_lit vv rfl
    have d1 : (x.st.getD k 0 == y.st.getD k 0) = true := by rw [beq_iff_eq]; exact e1
    have e10 := Hid.mk e1
    clear e1
    repeat' (with_reducible first | refine x_ops ?_ | refine wk ?_ | ((first | refine gd1 ?_ ?_ | refine gd2 ?_ ?_ | refine gd3 ?_ ?_) <;> (first | exact @False.elim _ | intro hc)))
    refine nf hlt0.out ⟨vv, fun i hi => ?_⟩ rfl
    by_cases e : i = k
    · subst e; exact e10.out
    · exact hI.out i (by omega)
  have c1 : ¬ ((k : Int) < (x.st.length : Int)) := by omega
  have hst : x.st = y.st := lst_eq hy2.out fun i hi => hI.out i (by omega)
  have hxy : x = y := by
    obtain ⟨a, b⟩ := x; obtain ⟨a', b'⟩ := y
    have h1 := hcs.out
    dsimp only at h1 hst
    rw [h1, hst]
  rw [decide_eq_true hxy]
  clear hlt hk hI hst hxy
  repeat' (with_reducible first | refine x_ops ?_ | refine wk ?_ | ((first | refine gd1 ?_ ?_ | refine gd2 ?_ ?_ | refine gd3 ?_ ?_) <;> (first | exact @False.elim _ | intro hc)))
  exact finV_lit vv rfl
theorem rsameE_fn (x y : Evt) (hx : x.ss.length ≤ 17592186044416) : Fn Tryz.prog Gd 82 [x.val, y.val] (vbool (decide (x = y))) := by
  refine Fn.of_vx0 k_theorboref02_SameEvent (by simp) (by rw [V.pures, pure_evt, V.pures, pure_evt]; rfl) ?_
  unfold c_theorboref02_SameEvent
  obtain ⟨b, ⟨v, d, tt⟩, ti, ss⟩ := x
  obtain ⟨b', ⟨v', d', tt'⟩, ti', ss'⟩ := y
  dsimp only at hx
  by_cases e1 : b = b'
  case neg =>
    have d1 : (b == b') = false := by rw [beq_eq_false_iff_ne]; exact e1
    rw [decide_eq_false fun e => e1 (by injection e)]
    clear e1
    repeat' (with_reducible first | refine x_ops ?_ | refine wk ?_ | ((first | refine gd1 ?_ ?_ | refine gd2 ?_ ?_ | refine gd3 ?_ ?_) <;> (first | exact @False.elim _ | intro hc)))
    exact finV_lit vv rfl
  subst e1
  by_cases e2 : v = v'
  case neg =>
    have d1 : (v == v') = false := by rw [beq_eq_false_iff_ne]; exact e2
    rw [decide_eq_false fun e => e2 (by injection e with _ e; injection e)]
    clear e2
    repeat' (with_reducible first | refine x_ops ?_ | simp only [go_sem, Nat.reduceAdd, Nat.reduceEqDiff, Nat.reduceLT, Nat.reduceLeDiff, Nat.reduceMul, Nat.reduceSub, Nat.reducePow, Nat.reduceDiv, Nat.reduceMod, Nat.reduceBEq, Int.reduceBEq, Int.reduceLT, reduceIte, tIs, tBs, tPs, Bool.false_and, *] | ((first | refine gd1 ?_ ?_ | refine gd2 ?_ ?_ | refine gd3 ?_ ?_) <;> (first | exact @False.elim _ | intro hc)))
    exact finV_lit vv rfl
  subst e2
  by_cases e2 : d = d'
  case neg =>
    have d1 : (d == d') = false := by rw [beq_eq_false_iff_ne]; exact e2
    rw [decide_eq_false fun e => e2 (by injection e with _ e; injection e)]
    clear e2
    repeat' (with_reducible first | refine x_ops ?_ | simp only [go_sem, Nat.reduceAdd, Nat.reduceEqDiff, Nat.reduceLT, Nat.reduceLeDiff, Nat.reduceMul, Nat.reduceSub, Nat.reducePow, Nat.reduceDiv, Nat.reduceMod, Nat.reduceBEq, Int.reduceBEq, Int.reduceLT, reduceIte, tIs, tBs, tPs, Bool.false_and, Bool.true_and, *] | ((first | refine gd1 ?_ ?_ | refine gd2 ?_ ?_ | refine gd3 ?_ ?_) <;> (first | exact @False.elim _ | intro hc)))
    exact finV_lit vv rfl
  subst e2
  by_cases e2 : tt = tt'
  case neg =>
    have d1 : (tt == tt') = false := by rw [beq_eq_false_iff_ne]; exact e2
    rw [decide_eq_false fun e => e2 (by injection e with _ e; injection e)]
    clear e2
    repeat' (with_reducible first | refine x_ops ?_ | simp only [go_sem, Nat.reduceAdd, Nat.reduceEqDiff, Nat.reduceLT, Nat.reduceLeDiff, Nat.reduceMul, Nat.reduceSub, Nat.reducePow, Nat.reduceDiv, Nat.reduceMod, Nat.reduceBEq, Int.reduceBEq, Int.reduceLT, reduceIte, tIs, tBs, tPs, Bool.false_and, Bool.true_and, *] | ((first | refine gd1 ?_ ?_ | refine gd2 ?_ ?_ | refine gd3 ?_ ?_) <;> (first | exact @False.elim _ | intro hc)))
    exact finV_lit vv rfl
  subst e2
  by_cases e2 : ti = ti'
  case neg =>
    have d1 : (ti == ti') = false := by rw [beq_eq_false_iff_ne]; exact e2
    rw [decide_eq_false fun e => e2 (by injection e)]
    clear e2
    repeat' (with_reducible first | refine x_ops ?_ | simp only [go_sem, Nat.reduceAdd, Nat.reduceEqDiff, Nat.reduceLT, Nat.reduceLeDiff, Nat.reduceMul, Nat.reduceSub, Nat.reducePow, Nat.reduceDiv, Nat.reduceMod, Nat.reduceBEq, Int.reduceBEq, Int.reduceLT, reduceIte, tIs, tBs, tPs, Bool.false_and, Bool.true_and, *] | ((first | refine gd1 ?_ ?_ | refine gd2 ?_ ?_ | refine gd3 ?_ ?_) <;> (first | exact @False.elim _ | intro hc)))
    exact finV_lit vv rfl
  subst e2
  by_cases h1 : ss.length = ss'.length
  case neg =>
    have c1 : ((ss.length : Int) == (ss'.length : Int)) = false := by rw [beq_eq_false_iff_ne]; omega
    rw [decide_eq_false fun e => h1 (by injection e with _ _ _ e; rw [e])]
    clear h1
    repeat' (with_reducible first | refine x_ops ?_ | simp only [go_sem, Nat.reduceAdd, Nat.reduceEqDiff, Nat.reduceLT, Nat.reduceLeDiff, Nat.reduceMul, Nat.reduceSub, Nat.reducePow, Nat.reduceDiv, Nat.reduceMod, Nat.reduceBEq, Int.reduceBEq, Int.reduceLT, reduceIte, tIs, tBs, tPs, Bool.false_and, Bool.true_and, *] | ((first | refine gd1 ?_ ?_ | refine gd2 ?_ ?_ | refine gd3 ?_ ?_) <;> (first | exact @False.elim _ | intro hc)))
    exact finV_lit vv rfl
  have c1 : ((ss.length : Int) == (ss'.length : Int)) = true := by rw [beq_iff_eq]; omega
  have hy1 := Hid.mk h1
  clear h1
  repeat' (with_reducible first | refine x_ops ?_ | simp only [go_sem, Nat.reduceAdd, Nat.reduceEqDiff, Nat.reduceLT, Nat.reduceLeDiff, Nat.reduceMul, Nat.reduceSub, Nat.reducePow, Nat.reduceDiv, Nat.reduceMod, Nat.reduceBEq, Int.reduceBEq, Int.reduceLT, reduceIte, tIs, tBs, tPs, Bool.true_and, *] | ((first | refine gd1 ?_ ?_ | refine gd2 ?_ ?_ | refine gd3 ?_ ?_) <;> (first | exact @False.elim _ | intro hc)))
  clear c1
  refine x_loopF w_theorboref02_SameEvent_p5 kr ss.length (fun k t => t 5 = vint k ∧ ∀ i, i < k → ss.getD i default = ss'.getD i default) ?_ ?_
  · exact ⟨vv, fun i h => by omega⟩
  rintro k t hk ⟨h5, hI⟩
  replace hI := Hid.mk hI
  by_cases hlt : k < ss.length
  case pos =>
    have g1 := stp_take (l := ss) (k := k) hlt
    have g2 := stp_take (l := ss') (k := k) (by have := hy1.out; omega)
    have hL1 := stps_len ss
    have hL2 := stps_len ss'
    have c1 : (k : Int) < (ss.length : Int) := by omega
    have c2 : (k : Int) < (ss'.length : Int) := by have := hy1.out; omega
    have c3 : k * 5 + 5 ≤ ss.length * 5 := by omega
    have c4 : k * 5 + 5 ≤ ss'.length * 5 := by have := hy1.out; omega
    have w1 := w_add1 (k := k) (by omega)
    have hlt0 := Hid.mk hlt
    have hne : ss.getD k default ≠ ss'.getD k default → Evt.mk b ⟨v, d, tt⟩ ti ss ≠ Evt.mk b ⟨v, d, tt⟩ ti ss' := fun h e => h (by injection e with _ _ _ e; rw [e])
    replace hne := Hid.mk hne
    generalize ha : ss.getD k default = x at *
    generalize hb : ss'.getD k default = y at *
    replace ha := Hid.mk ha
    replace hb := Hid.mk hb
    obtain ⟨a1, a2, a3, a4, a5⟩ := x
    obtain ⟨b1, b2, b3, b4, b5⟩ := y
    clear hlt hk
    by_cases e1 : a1 = b1
    case neg =>
      have d1 : (a1 == b1) = false := by rw [beq_eq_false_iff_ne]; exact e1
      rw [decide_eq_false (hne.out fun e => e1 (by injection e))]
      clear e1
      repeat' (with_reducible first | refine x_ops ?_ | simp only [go_sem, Nat.reduceAdd, Nat.reduceEqDiff, Nat.reduceLT, Nat.reduceLeDiff, Nat.reduceMul, Nat.reduceSub, Nat.reducePow, Nat.reduceDiv, Nat.reduceMod, Nat.reduceBEq, Int.reduceBEq, Int.reduceLT, reduceIte, tIs, tBs, tPs, Bool.false_and, *] | ((first | refine gd1 ?_ ?_ | refine gd2 ?_ ?_ | refine gd3 ?_ ?_) <;> (first | exact @False.elim _ | intro hc)))
      exact finV_lit vv rfl
    subst e1
    by_cases e1 : a2 = b2
    case neg =>
      have d1 : (a2 == b2) = false := by rw [beq_eq_false_iff_ne]; exact e1
      rw [decide_eq_false (hne.out fun e => e1 (by injection e))]
      clear e1
      repeat' (with_reducible first | refine x_ops ?_ | simp only [go_sem, Nat.reduceAdd, Nat.reduceEqDiff, Nat.reduceLT, Nat.reduceLeDiff, Nat.reduceMul, Nat.reduceSub, Nat.reducePow, Nat.reduceDiv, Nat.reduceMod, Nat.reduceBEq, Int.reduceBEq, Int.reduceLT, reduceIte, tIs, tBs, tPs, Bool.false_and, Bool.true_and, *] | ((first | refine gd1 ?_ ?_ | refine gd2 ?_ ?_ | refine gd3 ?_ ?_) <;> (first | exact @False.elim _ | intro hc)))
      exact finV_lit vv rfl
    subst e1
    by_cases e1 : a3 = b3
    case neg =>
      have d1 : (a3 == b3) = false := by rw [beq_eq_false_iff_ne]; exact e1
      rw [decide_eq_false (hne.out fun e => e1 (by injection e))]
      clear e1
      repeat' (with_reducible first | refine x_ops ?_ | simp only [go_sem, Nat.reduceAdd, Nat.reduceEqDiff, Nat.reduceLT, Nat.reduceLeDiff, Nat.reduceMul, Nat.reduceSub, Nat.reducePow, Nat.reduceDiv, Nat.reduceMod, Nat.reduceBEq, Int.reduceBEq, Int.reduceLT, reduceIte, tIs, tBs, tPs, Bool.false_and, Bool.true_and, *] | ((first | refine gd1 ?_ ?_ | refine gd2 ?_ ?_ | refine gd3 ?_ ?_) <;> (first | exact @False.elim _ | intro hc)))
      exact finV_lit vv rfl
    subst e1
    by_cases e1 : a4 = b4
    case neg =>
      have d1 : (a4 == b4) = false := by rw [beq_eq_false_iff_ne]; exact e1
      rw [decide_eq_false (hne.out fun e => e1 (by injection e))]
      clear e1
      repeat' (with_reducible first | refine x_ops ?_ | simp only [go_sem, Nat.reduceAdd, Nat.reduceEqDiff, Nat.reduceLT, Nat.reduceLeDiff, Nat.reduceMul, Nat.reduceSub, Nat.reducePow, Nat.reduceDiv, Nat.reduceMod, Nat.reduceBEq, Int.reduceBEq, Int.reduceLT, reduceIte, tIs, tBs, tPs, Bool.false_and, Bool.true_and, *] | ((first | refine gd1 ?_ ?_ | refine gd2 ?_ ?_ | refine gd3 ?_ ?_) <;> (first | exact @False.elim _ | intro hc)))
      exact finV_lit vv rfl
    subst e1
    by_cases e1 : a5 = b5
    case neg =>
      have d1 : (a5 == b5) = false := by rw [beq_eq_false_iff_ne]; exact e1
      rw [decide_eq_false (hne.out fun e => e1 (by injection e))]
      clear e1
      repeat' (with_reducible first | refine x_ops ?_ | simp only [go_sem, Nat.reduceAdd, Nat.reduceEqDiff, Nat.reduceLT, Nat.reduceLeDiff, Nat.reduceMul, Nat.reduceSub, Nat.reducePow, Nat.reduceDiv, Nat.reduceMod, Nat.reduceBEq, Int.reduceBEq, Int.reduceLT, reduceIte, tIs, tBs, tPs, Bool.false_and, Bool.true_and, *] | ((first | refine gd1 ?_ ?_ | refine gd2 ?_ ?_ | refine gd3 ?_ ?_) <;> (first | exact @False.elim _ | intro hc)))
      exact finV_lit vv rfl
    subst e1
    repeat' (with_reducible first | refine x_ops ?_ | simp only [go_sem, Nat.reduceAdd, Nat.reduceEqDiff, Nat.reduceLT, Nat.reduceLeDiff, Nat.reduceMul, Nat.reduceSub, Nat.reducePow, Nat.reduceDiv, Nat.reduceMod, Nat.reduceBEq, Int.reduceBEq, Int.reduceLT, reduceIte, tIs, tBs, tPs, Bool.true_and, *] | ((first | refine gd1 ?_ ?_ | refine gd2 ?_ ?_ | refine gd3 ?_ ?_) <;> (first | exact @False.elim _ | intro hc)))
    refine nf hlt0.out ⟨vv, fun i hi => ?_⟩ rfl
    by_cases e : i = k
    · subst e; rw [ha.out, hb.out]
    · exact hI.out i (by omega)
  have c1 : ¬ ((k : Int) < (ss.length : Int)) := by omega
  have hcs : ss = ss' := lst_eq hy1.out fun i hi => hI.out i (by omega)
  rw [decide_eq_true (by rw [hcs])]
  clear hlt hk hI hcs
  repeat' (with_reducible first | refine x_ops ?_ | refine wk ?_ | ((first | refine gd1 ?_ ?_ | refine gd2 ?_ ?_ | refine gd3 ?_ ?_) <;> (first | exact @False.elim _ | intro hc)))
  exact finV_lit vv rfl
/-- What fits in memory. -/
structure PcSm (p : Pce) : Prop where
  n : p.es.length ≤ 17592186044416
  c : p.ins.cs.length ≤ 17592186044416
  s : p.ins.st.length ≤ 17592186044416
  e : ∀ i, i < p.es.length → (p.es.getD i default).ss.length ≤ 17592186044416
theorem rsame_fn (x y : Pce) (hx : PcSm x) : Fn Tryz.prog Gd 33 [x.val, y.val] (vbool (decide (x = y))) := by
  refine Fn.of_vx0 k_theorboref02_Same (by simp) (by rw [V.pures, pure_pce, V.pures, pure_pce]; rfl) ?_
  have I := rsameI_fn x.ins y.ins hx.c hx.s
  unfold c_theorboref02_Same
  by_cases h0 : x.ins = y.ins
  case neg =>
    rw [decide_eq_false h0] at I
    rw [decide_eq_false fun e => h0 (by rw [e])]
    clear h0 hx
    repeat' (with_reducible first | refine x_ops ?_ | refine wk ?_ | (with_reducible refine xc (I) ?_) | ((first | refine gd1 ?_ ?_ | refine gd2 ?_ ?_ | refine gd3 ?_ ?_) <;> (first | exact @False.elim _ | intro hc)))
    exact finV_lit vv rfl
  rw [decide_eq_true h0] at I
  by_cases h1 : x.es.length = y.es.length
  case neg =>
    have c1 : ((x.es.length : Int) == (y.es.length : Int)) = false := by rw [beq_eq_false_iff_ne]; omega
    rw [decide_eq_false fun e => h1 (by rw [e])]
    clear h1 h0 hx
    repeat' (with_reducible first | refine x_ops ?_ | refine wk ?_ | (with_reducible refine xc (I) ?_) | ((first | refine gd1 ?_ ?_ | refine gd2 ?_ ?_ | refine gd3 ?_ ?_) <;> (first | exact @False.elim _ | intro hc)))
    exact finV_lit vv rfl
  have c1 : ((x.es.length : Int) == (y.es.length : Int)) = true := by rw [beq_iff_eq]; omega
  have hy1 := Hid.mk h1
  have hi := Hid.mk h0
  have hn := hx.n
  have he := Hid.mk hx.e
  clear h0 h1 hx
  repeat' (with_reducible first | refine x_ops ?_ | refine wk ?_ | (with_reducible refine xc (I) ?_) | ((first | refine gd1 ?_ ?_ | refine gd2 ?_ ?_ | refine gd3 ?_ ?_) <;> (first | exact @False.elim _ | intro hc)))
  clear c1 I
  refine x_loopF w_theorboref02_Same_p5 kr x.es.length (fun k t => t 5 = vint k ∧ ∀ i, i < k → x.es.getD i default = y.es.getD i default) ?_ ?_
  · exact ⟨vv, fun i h => by omega⟩
  rintro k t hk ⟨h5, hI⟩
  replace hI := Hid.mk hI
  by_cases hlt : k < x.es.length
  case pos =>
    have g1 := evt_take (l := x.es) (k := k) hlt
    have g2 := evt_take (l := y.es) (k := k) (by have := hy1.out; omega)
    have hL1 := evts_len x.es
    have hL2 := evts_len y.es
    have c1 : (k : Int) < (x.es.length : Int) := by omega
    have c2 : (k : Int) < (y.es.length : Int) := by have := hy1.out; omega
    have c3 : k * 6 + 6 ≤ x.es.length * 6 := by omega
    have c4 : k * 6 + 6 ≤ y.es.length * 6 := by have := hy1.out; omega
    have w1 := w_add1 (k := k) (by omega)
    have hlt0 := Hid.mk hlt
    have hne : x.es.getD k default ≠ y.es.getD k default → x ≠ y := fun h e => h (by rw [e])
    replace hne := Hid.mk hne
    have E := rsameE_fn (x.es.getD k default) (y.es.getD k default) (he.out k hlt)
    generalize ha : x.es.getD k default = a at *
    generalize hb : y.es.getD k default = b at *
    replace ha := Hid.mk ha
    replace hb := Hid.mk hb
    clear hlt hk
    by_cases e1 : a = b
    case neg =>
      rw [decide_eq_false e1] at E
      rw [decide_eq_false (hne.out e1)]
      clear e1
      obtain ⟨a1, ⟨a2, a3, a4⟩, a5, a6⟩ := a
      obtain ⟨b1, ⟨b2, b3, b4⟩, b5, b6⟩ := b
      repeat' (with_reducible first | refine x_ops ?_ | refine wk ?_ | (with_reducible refine xc (E) ?_) | ((first | refine gd1 ?_ ?_ | refine gd2 ?_ ?_ | refine gd3 ?_ ?_) <;> (first | exact @False.elim _ | intro hc)))
      exact finV_lit vv rfl
    rw [decide_eq_true e1] at E
    subst e1
    obtain ⟨a1, ⟨a2, a3, a4⟩, a5, a6⟩ := a
    repeat' (with_reducible first | refine x_ops ?_ | refine wk ?_ | (with_reducible refine xc (E) ?_) | ((first | refine gd1 ?_ ?_ | refine gd2 ?_ ?_ | refine gd3 ?_ ?_) <;> (first | exact @False.elim _ | intro hc)))
    refine nf hlt0.out ⟨vv, fun i hi => ?_⟩ rfl
    by_cases e : i = k
    · subst e; rw [ha.out, hb.out]
    · exact hI.out i (by omega)
  have c1 : ¬ ((k : Int) < (x.es.length : Int)) := by omega
  have hes : x.es = y.es := lst_eq hy1.out fun i hi => hI.out i (by omega)
  have hxy : x = y := by
    obtain ⟨a, b⟩ := x; obtain ⟨a', b'⟩ := y
    have h1 := hi.out
    dsimp only at h1 hes
    rw [h1, hes]
  rw [decide_eq_true hxy]
  clear hlt hk hI hes hxy
  repeat' (with_reducible first | refine x_ops ?_ | refine wk ?_ | ((first | refine gd1 ?_ ?_ | refine gd2 ?_ ?_ | refine gd3 ?_ ?_) <;> (first | exact @False.elim _ | intro hc)))
  exact finV_lit vv rfl
def Rls.cells (r : Rls) : List V := [tIs r.hand.low, tIs r.hand.high, tBs r.hand.barre, vint r.hand.top, vint r.hand.jump, vint r.hand.shift, vint r.hand.lift, vint r.hand.bar, vint r.hand.stretch, vint r.hand.slide, vint r.meas, vbool r.conc]
def Lf.cells (f : Lf) : List V := [tL Crs.cells f.ins.cs, tIs f.ins.st, tL Clm.cells f.cols]
/-- A leaf with rules. -/
def caseV (f : Lf) (r : Rls) : V := .agg (f.cells ++ r.cells)
attribute [go_sem] Rls.cells Lf.cells caseV
theorem pure_case (f : Lf) (r : Rls) : (caseV f r).pure = true := by
  rw [caseV, V.pure, Lf.cells, Rls.cells]
  simp only [List.cons_append, List.nil_append, V.pures, pure_tL, pure_tIs', pure_tBs, vint, vbool, V.pure, Bool.and_self]
end Go.Proofs.YtdefefeifcdogaaGreat
