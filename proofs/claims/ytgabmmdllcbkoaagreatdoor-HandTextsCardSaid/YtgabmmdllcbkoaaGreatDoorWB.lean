/- Grips are written as text: the reference, on values. -/
import Derived.Test.YtgabmmdllcbkoaaGreatDoorWA
set_option linter.unusedSimpArgs false
set_option linter.unusedVariables false
set_option maxRecDepth 100000
namespace Go.Proofs.YtgabmmdllcbkoaaGreatDoor
open Go.RowKit
set_option maxHeartbeats 2000000 in
theorem rwrite_fn (l : List Grip) (hf : FitsG l) : Fn Tryz.prog Gd 6 [tGs l] (.tup [str (wrR l).1, vint (wrR l).2]) := by
  refine Fn.of_vx0 k_theorboref06_Write (by simp) (by rw [V.pures, pure_tGs]; rfl) ?_
  unfold c_theorboref06_Write tGs
  have hfl := hf.1
  by_cases h400 : 400 < l.length
  · have c1 : (400 : Int) < (l.length : Int) := by omega
    have e : wrR l = ([], 2) := if_pos h400
    rw [e]
    repeat' (with_reducible first | refine x_ops ?_ | refine wk ?_ | ((first | refine gd1 ?_ ?_ | refine gd2 ?_ ?_ | refine gd3 ?_ ?_) <;> (first | exact @False.elim _ | intro hc)))
    exact finV_dry rfl vv
  have c1 : ¬ (400 : Int) < (l.length : Int) := by omega
  repeat' (with_reducible first | refine x_ops ?_ | refine wk ?_ | ((first | refine gd1 ?_ ?_ | refine gd2 ?_ ?_ | refine gd3 ?_ ?_) <;> (first | exact @False.elim _ | intro hc)))
  refine x_loopF w_theorboref06_Write_p14 (by kernel_rfl) l.length (fun k t => t 5 = vint (k : Int) ∧ t 4 = str (wtx (l.take k)) ∧ allW (l.take k)) ?_ ?_
  · exact ⟨vv, by rw [List.take_zero]; exact vv, fun g hg => by simp at hg⟩
  rintro k t hk ⟨h5, h4, hA⟩
  by_cases hlt : k < l.length
  · have g1 := gs_at0 hlt
    have g2 := gs_at1 hlt
    have g5 := gs_len l
    have c2 : (k : Int) < (l.length : Int) := by omega
    have w2 := w_add1 (k := k) (by omega)
    have hfg := hf.at k
    have hbad := Hid.mk (wrR_bad h400 hlt)
    have hok := Hid.mk fun (hg : okW (l.getD k noG)) => all_take_succ noG hlt hA hg
    have hsu := Hid.mk (wtx_succ hlt)
    generalize l.getD k noG = g at *
    have hlen := Hid.mk (wtk_len (k := k) (by omega) hA)
    clear hA
    by_cases hp1 : g.pos < 1
    · rw [hbad.out fun h => by have := h.1.1; omega]
      repeat' (with_reducible first | refine x_ops ?_ | refine wk ?_ | ((first | refine gd1 ?_ ?_ | refine gd2 ?_ ?_ | refine gd3 ?_ ?_) <;> (first | exact @False.elim _ | intro hc)))
      exact finV_dry rfl vv
    by_cases hp2 : 18 < g.pos
    · rw [hbad.out fun h => by have := h.1.2; omega]
      repeat' (with_reducible first | refine x_ops ?_ | refine wk ?_ | ((first | refine gd1 ?_ ?_ | refine gd2 ?_ ?_ | refine gd3 ?_ ?_) <;> (first | exact @False.elim _ | intro hc)))
      exact finV_dry rfl vv
    by_cases hl14 : 14 < g.fingers.length
    · have c4 : (14 : Int) < (g.fingers.length : Int) := by omega
      rw [hbad.out fun h => by have := h.2.1; omega]
      repeat' (with_reducible first | refine x_ops ?_ | refine wk ?_ | ((first | refine gd1 ?_ ?_ | refine gd2 ?_ ?_ | refine gd3 ?_ ?_) <;> (first | exact @False.elim _ | intro hc)))
      exact finV_dry rfl vv
    have c4 : ¬ (14 : Int) < (g.fingers.length : Int) := by omega
    have hp0 := Hid.mk (show 1 ≤ g.pos ∧ g.pos ≤ 18 by omega)
    have I1 := itoa_fn (n := g.pos) (by omega) (by omega)
    have hit := Hid.mk (it_at (f := g.pos) (by omega) (by omega))
    have A1 := vadd (a := wtx (l.take k)) (b := Lib.itoa g.pos) (by have := hlen.out; have := hit.out.1; omega)
    repeat' (with_reducible first | refine x_ops ?_ | simp only [go_sem, Nat.reduceAdd, Nat.reduceEqDiff, Nat.reduceLT, Nat.reduceLeDiff, Nat.reduceMul, Nat.reduceSub, Nat.reducePow, Nat.reduceDiv, Nat.reduceMod, Nat.reduceBEq, Int.reduceBEq, Int.reduceLT, reduceIte, tIs, tBs, tPs, str, *] | (with_reducible refine xc (I1) ?_) | ((first | refine gd1 ?_ ?_ | refine gd2 ?_ ?_ | refine gd3 ?_ ?_) <;> (first | exact @False.elim _ | intro hc)))
    clear A1 I1
    refine x_loopF w_theorboref06_Write_p7 (by kernel_rfl) g.fingers.length (fun j t => t 6 = vint (j : Int) ∧ t 4 = str (wtx (l.take k) ++ gpx g j) ∧ ∀ f ∈ g.fingers.take j, okF f) ?_ ?_
    · exact ⟨vv, by rw [gpx, List.take_zero, List.flatMap_nil, List.append_nil]; exact vv, fun f hf => by simp at hf⟩
    rintro j tj hj ⟨h6, h4j, hAj⟩
    have hAj0 := Hid.mk hAj
    clear hAj
    by_cases hjl : j < g.fingers.length
    · have g3 := ints_at hjl
      have c5 : (j : Int) < (g.fingers.length : Int) := by omega
      have w3 := w_add1 (k := j) (by omega)
      have hgl := Hid.mk (gpx_len (j := j) hp0.out (by omega) hAj0.out)
      have hbf := Hid.mk fun (hb : ¬ okF (g.fingers.getD j 0)) => hbad.out fun h => hb (h.2.2 _ (mem_getD 0 hjl))
      have hof := Hid.mk fun (hb : okF (g.fingers.getD j 0)) => all_take_succ 0 hjl hAj0.out hb
      have hsg := Hid.mk (gpx_succ hjl)
      generalize g.fingers.getD j 0 = f at *
      by_cases hf1 : f < 1
      · rw [hbf.out fun h => by have := h.1; omega]
        repeat' (with_reducible first | refine x_ops ?_ | refine wk ?_ | ((first | refine gd1 ?_ ?_ | refine gd2 ?_ ?_ | refine gd3 ?_ ?_) <;> (first | exact @False.elim _ | intro hc)))
        exact finV_dry rfl vv
      by_cases hf2 : 4 < f
      · rw [hbf.out fun h => by have := h.2; omega]
        repeat' (with_reducible first | refine x_ops ?_ | refine wk ?_ | ((first | refine gd1 ?_ ?_ | refine gd2 ?_ ?_ | refine gd3 ?_ ?_) <;> (first | exact @False.elim _ | intro hc)))
        exact finV_dry rfl vv
      have hp : okF f := ⟨by omega, by omega⟩
      have hit := Hid.mk (it_at (f := f) (by omega) (by omega))
      have I1 := itoa_fn (n := f) (by omega) (by omega)
      have A1 : vbinS .add ⟨#[32]⟩ ⟨(Lib.itoa f).toArray⟩ = some (.string ⟨(fgx f).toArray⟩) := vadd (a := [32]) (by have := hit.out.1; simp; omega)
      have hfl3 := Hid.mk (fgx_len hp)
      have A2 := vadd (a := wtx (l.take k) ++ gpx g j) (b := fgx f) (by have := hlen.out; have := hgl.out; have := hfl3.out; rw [List.length_append]; omega)
      replace hof := Hid.mk (hof.out hp)
      clear hp
      repeat' (with_reducible first | refine x_ops ?_ | simp only [go_sem, Nat.reduceAdd, Nat.reduceEqDiff, Nat.reduceLT, Nat.reduceLeDiff, Nat.reduceMul, Nat.reduceSub, Nat.reducePow, Nat.reduceDiv, Nat.reduceMod, Nat.reduceBEq, Int.reduceBEq, Int.reduceLT, reduceIte, tIs, tBs, tPs, str, *] | (with_reducible refine xc (I1) ?_) | ((first | refine gd1 ?_ ?_ | refine gd2 ?_ ?_ | refine gd3 ?_ ?_) <;> (first | exact @False.elim _ | intro hc)))
      refine nf hjl ⟨vv, ?_, hof.out⟩ rfl
      rw [hsg.out, ← List.append_assoc]; exact vv
    · have hje : j = g.fingers.length := by omega
      subst hje
      have c5 : ¬ (g.fingers.length : Int) < (g.fingers.length : Int) := by omega
      have hgl := Hid.mk (gpx_len (j := g.fingers.length) hp0.out (by omega) hAj0.out)
      have hokg : okW g := ⟨hp0.out, by omega, by have := hAj0.out; rwa [List.take_length] at this⟩
      replace hok := Hid.mk (hok.out hokg)
      have A1 : vbinS .add ⟨(wtx (l.take k) ++ gpx g g.fingers.length).toArray⟩ ⟨#[10]⟩ = some (.string ⟨(wtx (l.take k) ++ gpx g g.fingers.length ++ [10]).toArray⟩) := vadd (b := [10]) (by have := hlen.out; have := hgl.out; simp; omega)
      clear hjl hj hokg
      repeat' (with_reducible first | refine x_ops ?_ | simp only [go_sem, Nat.reduceAdd, Nat.reduceEqDiff, Nat.reduceLT, Nat.reduceLeDiff, Nat.reduceMul, Nat.reduceSub, Nat.reducePow, Nat.reduceDiv, Nat.reduceMod, Nat.reduceBEq, Int.reduceBEq, Int.reduceLT, reduceIte, tIs, tBs, tPs, str, *] | ((first | refine gd1 ?_ ?_ | refine gd2 ?_ ?_ | refine gd3 ?_ ?_) <;> (first | exact @False.elim _ | intro hc)))
      refine nf hlt ⟨vv, ?_, hok.out⟩ rfl
      rw [hsu.out, ← gpx_all, ← List.append_assoc]; exact vv
  · have hke : k = l.length := by omega
    subst hke
    have c2 : ¬ (l.length : Int) < (l.length : Int) := by omega
    have e : wrR l = (wtx l, 0) := wrR_of (by omega) (by rwa [List.take_length] at hA)
    rw [e]
    rw [List.take_length] at h4
    clear hA hk hlt
    repeat' (with_reducible first | refine x_ops ?_ | refine wk ?_ | ((first | refine gd1 ?_ ?_ | refine gd2 ?_ ?_ | refine gd3 ?_ ?_) <;> (first | exact @False.elim _ | intro hc)))
    exact finV_dry rfl vv
end Go.Proofs.YtgabmmdllcbkoaaGreatDoor
