/- Grips and texts: the law holds, on values. -/
import Derived.Test.YtgabmmdllcbkoaaGreatDoorWH
import Derived.Test.YtgabmmdllcbkoaaGreatDoorWB
import Derived.Test.YtgabmmdllcbkoaaGreatDoorXw
set_option linter.unusedSimpArgs false
set_option linter.unusedVariables false
set_option maxRecDepth 100000
namespace Go.Proofs.YtgabmmdllcbkoaaGreatDoor
open Go.RowKit
theorem samegrips_self (a : List Grip) (ha : FitsG a) : Fn Tryz.prog Gd 8 [tGs a, tGs a] (vbool true) := by
  have := samegrips_fn a a ha
  rwa [decide_eq_true rfl] at this
set_option maxHeartbeats 8000000 in
theorem texts_fn (l : List Grip) (hf : FitsG l) (s : List UInt8) : Fn Tryz.prog Gd 3 [tGs l, str s] (vbool true) := by
  refine Fn.of_vx0 k_theorbolaw06_HandTexts (by simp) (by rw [V.pures, pure_tGs]; rfl) ?_
  have hsz := bsz s
  have WK := works_fn
  by_cases hl : 1000 < l.length
  · have c1 : (1000 : Int) < (l.length : Int) := by omega
    unfold c_theorbolaw06_HandTexts tGs
    clear hl
    repeat' (with_reducible first | refine x_ops ?_ | simp only [go_sem, Nat.reduceAdd, Nat.reduceEqDiff, Nat.reduceLT, Nat.reduceLeDiff, Nat.reduceMul, Nat.reduceSub, Nat.reducePow, Nat.reduceDiv, Nat.reduceMod, Nat.reduceBEq, Int.reduceBEq, Int.reduceLT, reduceIte, tIs, tBs, tPs, str, *] | (with_reducible refine xc (WK) ?_) | ((first | refine gd1 ?_ ?_ | refine gd2 ?_ ?_ | refine gd3 ?_ ?_) <;> (first | exact @False.elim _ | intro hc)))
    exact finV_lit vv rfl
  have c1 : ¬ (1000 : Int) < (l.length : Int) := by omega
  by_cases hl2 : 66536 < s.length
  · have c2 : (66536 : Int) < (s.length : Int) := by omega
    unfold c_theorbolaw06_HandTexts tGs
    clear hl hl2
    repeat' (with_reducible first | refine x_ops ?_ | simp only [go_sem, Nat.reduceAdd, Nat.reduceEqDiff, Nat.reduceLT, Nat.reduceLeDiff, Nat.reduceMul, Nat.reduceSub, Nat.reducePow, Nat.reduceDiv, Nat.reduceMod, Nat.reduceBEq, Int.reduceBEq, Int.reduceLT, reduceIte, tIs, tBs, tPs, str, *] | (with_reducible refine xc (WK) ?_) | ((first | refine gd1 ?_ ?_ | refine gd2 ?_ ?_ | refine gd3 ?_ ?_) <;> (first | exact @False.elim _ | intro hc)))
    exact finV_lit vv rfl
  have c2 : ¬ (66536 : Int) < (s.length : Int) := by omega
  have W1 := write_fn l hf
  have W2 := rwrite_fn l hf
  have R1 := read_fn (s := s) (by omega)
  have R2 := rread_fn (s := s) (by omega)
  have hrl := rd_len s
  have hfr : FitsG (rdR s).1 := ⟨by omega, fun g hg => by have := hrl.2 g hg; omega⟩
  have SG2 := samegrips_self _ hfr
  have SG1 := samegrips_self l hf
  have W3 := write_fn _ hfr
  have hback := fun h => rd_ok (s := s) h
  have hRD : (wrR l).2 = 0 → Fn Tryz.prog Gd 7 [str (wrR l).1] (rgV (l, 0)) := fun he => by
    obtain ⟨h1, h2, h3⟩ := wrR_ok (l := l) (s := (wrR l).1) (by rw [← he])
    have h4 := wtx_len h2
    have := read_fn (s := (wrR l).1) (by rw [h3]; omega)
    rw [h3, rd_wtx h1 h2] at this
    rwa [h3]
  generalize rdR s = q at *
  generalize wrR l = p at *
  obtain ⟨t, e⟩ := p
  obtain ⟨x, f⟩ := q
  have V1 := vneq t t
  have V2 := vneq s s
  rw [decide_eq_true rfl] at V1 V2
  clear hrl hfr hl hl2 hf
  simp only [rgV, str, vint, tGs, vbool] at *
  unfold c_theorbolaw06_HandTexts
  by_cases he : e = 0
  · have RD := hRD he
    subst he
    clear hRD
    by_cases hf0 : f = 0
    · have hb := hback hf0
      subst hf0
      rw [hb] at W3
      clear hb hback
      repeat' (with_reducible first | refine x_ops ?_ | simp only [go_sem, Nat.reduceAdd, Nat.reduceEqDiff, Nat.reduceLT, Nat.reduceLeDiff, Nat.reduceMul, Nat.reduceSub, Nat.reducePow, Nat.reduceDiv, Nat.reduceMod, Nat.reduceBEq, Int.reduceBEq, Int.reduceLT, reduceIte, tIs, tBs, tPs, str, *] | (first | (with_reducible refine xc (W1) ?_) | (with_reducible refine xc (W2) ?_) | (with_reducible refine xc (R1) ?_) | (with_reducible refine xc (R2) ?_) | (with_reducible refine xc (SG1) ?_) | (with_reducible refine xc (SG2) ?_) | (with_reducible refine xc (W3) ?_) | (with_reducible refine xc (WK) ?_) | (with_reducible refine xc (RD) ?_)) | ((first | refine gd1 ?_ ?_ | refine gd2 ?_ ?_ | refine gd3 ?_ ?_) <;> (first | exact @False.elim _ | intro hc)))
      exact finV_lit vv rfl
    · have hb0 : (f == 0) = false := by rw [Bool.eq_false_iff]; intro h; exact hf0 (beq_iff_eq.1 h)
      clear hback hf0
      repeat' (with_reducible first | refine x_ops ?_ | simp only [go_sem, Nat.reduceAdd, Nat.reduceEqDiff, Nat.reduceLT, Nat.reduceLeDiff, Nat.reduceMul, Nat.reduceSub, Nat.reducePow, Nat.reduceDiv, Nat.reduceMod, Nat.reduceBEq, Int.reduceBEq, Int.reduceLT, reduceIte, tIs, tBs, tPs, str, *] | (first | (with_reducible refine xc (W1) ?_) | (with_reducible refine xc (W2) ?_) | (with_reducible refine xc (R1) ?_) | (with_reducible refine xc (R2) ?_) | (with_reducible refine xc (SG1) ?_) | (with_reducible refine xc (SG2) ?_) | (with_reducible refine xc (W3) ?_) | (with_reducible refine xc (WK) ?_) | (with_reducible refine xc (RD) ?_)) | ((first | refine gd1 ?_ ?_ | refine gd2 ?_ ?_ | refine gd3 ?_ ?_) <;> (first | exact @False.elim _ | intro hc)))
      exact finV_lit vv rfl
  · have ha0 : (e == 0) = false := by rw [Bool.eq_false_iff]; intro h; exact he (beq_iff_eq.1 h)
    clear hRD he
    by_cases hf0 : f = 0
    · have hb := hback hf0
      subst hf0
      rw [hb] at W3
      clear hb hback
      repeat' (with_reducible first | refine x_ops ?_ | simp only [go_sem, Nat.reduceAdd, Nat.reduceEqDiff, Nat.reduceLT, Nat.reduceLeDiff, Nat.reduceMul, Nat.reduceSub, Nat.reducePow, Nat.reduceDiv, Nat.reduceMod, Nat.reduceBEq, Int.reduceBEq, Int.reduceLT, reduceIte, tIs, tBs, tPs, str, *] | (first | (with_reducible refine xc (W1) ?_) | (with_reducible refine xc (W2) ?_) | (with_reducible refine xc (R1) ?_) | (with_reducible refine xc (R2) ?_) | (with_reducible refine xc (SG1) ?_) | (with_reducible refine xc (SG2) ?_) | (with_reducible refine xc (W3) ?_) | (with_reducible refine xc (WK) ?_)) | ((first | refine gd1 ?_ ?_ | refine gd2 ?_ ?_ | refine gd3 ?_ ?_) <;> (first | exact @False.elim _ | intro hc)))
      exact finV_lit vv rfl
    · have hb0 : (f == 0) = false := by rw [Bool.eq_false_iff]; intro h; exact hf0 (beq_iff_eq.1 h)
      clear hback hf0
      repeat' (with_reducible first | refine x_ops ?_ | simp only [go_sem, Nat.reduceAdd, Nat.reduceEqDiff, Nat.reduceLT, Nat.reduceLeDiff, Nat.reduceMul, Nat.reduceSub, Nat.reducePow, Nat.reduceDiv, Nat.reduceMod, Nat.reduceBEq, Int.reduceBEq, Int.reduceLT, reduceIte, tIs, tBs, tPs, str, *] | (first | (with_reducible refine xc (W1) ?_) | (with_reducible refine xc (W2) ?_) | (with_reducible refine xc (R1) ?_) | (with_reducible refine xc (R2) ?_) | (with_reducible refine xc (SG1) ?_) | (with_reducible refine xc (SG2) ?_) | (with_reducible refine xc (W3) ?_) | (with_reducible refine xc (WK) ?_)) | ((first | refine gd1 ?_ ?_ | refine gd2 ?_ ?_ | refine gd3 ?_ ?_) <;> (first | exact @False.elim _ | intro hc)))
      exact finV_lit vv rfl
end Go.Proofs.YtgabmmdllcbkoaaGreatDoor
