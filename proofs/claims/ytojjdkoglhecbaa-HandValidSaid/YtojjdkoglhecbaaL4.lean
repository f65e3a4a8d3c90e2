/- What each chord of a fingering costs: the reference, on values. -/
import Derived.Test.YtojjdkoglhecbaaL3
import Derived.Test.YtojjdkoglhecbaaJ6
namespace Go.Proofs.Ytojjdkoglhecbaa
open Go.RowKit
set_option linter.unusedSimpArgs false
set_option linter.unusedVariables false

set_option maxHeartbeats 2000000 in
theorem rcosts_fn (h : Hand) (l : List Chord) (hl : Fits l) (g : List Grip) (hg : FitsG g) : Fn Try.prog Gd 91 [h.val, tCs l, tGs g] (.tup [tIs (cosR h l g).1, vint (cosR h l g).2.1, vint (cosR h l g).2.2]) := by
  refine Fn.of_vx0 k_theorboref06_costs (by simp) (by rw [V.pures, pure_hand, V.pures, pure_tCs, V.pures, pure_tGs]; rfl) ?_
  have C1 := rbothck_fn h l hl
  unfold cosR
  unfold c_theorboref06_costs tCs tGs
  unfold tCs at C1
  by_cases he : bothE h l = 0
  case neg =>
    rw [if_neg he]
    generalize bothE h l = be at he C1
    have e1 : (be == 0) = false := by simpa using he
    clear he
    unfold Hand.val at C1 ⊢
    repeat' (with_reducible first | refine x_ops ?_ | refine wk ?_ | (with_reducible refine xc (C1) ?_) | ((first | refine gd1 ?_ ?_ | refine gd2 ?_ ?_ | refine gd3 ?_ ?_) <;> (first | exact @False.elim _ | intro hc)))
    exact finV_ret vv (.tup (.cons (.sl _ _ _) (.cons (.lit _) (.cons (.lit _) .nil))))
  rw [if_pos he]
  obtain ⟨hk, h400, hseq⟩ := both_ok he
  rw [he] at C1
  clear he
  by_cases hlen : g.length = l.length
  case neg =>
    rw [if_neg hlen]
    have e1 : ((g.length : Int) == (l.length : Int)) = false := by simp; omega
    clear hlen h400
    unfold Hand.val at C1 ⊢
    repeat' (with_reducible first | refine x_ops ?_ | refine wk ?_ | (with_reducible refine xc (C1) ?_) | ((first | refine gd1 ?_ ?_ | refine gd2 ?_ ?_ | refine gd3 ?_ ?_) <;> (first | exact @False.elim _ | intro hc)))
    exact finV_ret vv (.tup (.cons (.sl _ _ _) (.cons (.lit _) (.cons (.lit _) .nil))))
  rw [if_pos hlen]
  have e1 : ((g.length : Int) == (l.length : Int)) = true := by simp; omega
  replace hlen := Hid.mk hlen
  unfold Hand.val at C1 ⊢
  repeat' (with_reducible first | refine x_ops ?_ | refine wk ?_ | (with_reducible refine xc (C1) ?_) | ((first | refine gd1 ?_ ?_ | refine gd2 ?_ ?_ | refine gd3 ?_ ?_) <;> (first | exact @False.elim _ | intro hc)))
  refine x_loopW w_theorboref06_costs_p14 (by kernel_rfl) l.length (fun k t m => t 11 = vint (k : Int) ∧ (∃ tok, t 10 = .sl k ((prL h l g k).map vint) tok ∧ Apb m tok k 3 1) ∧
    m.obj 0 = some (.box [tIs h.low, tIs h.high, tBs h.barre, vint h.top, vint h.jump, vint h.shift, vint h.lift, vint h.bar, vint h.stretch, vint h.slide] 25) ∧ 0 < m.next ∧ ∀ i, i < k → PrOk h l g i) ?_ ?_
  · exact ⟨vv, ⟨.exact, vv, .inl rfl⟩, vv, by ((refine ve ?_; try exact True.intro)); try omega, fun i h => by omega⟩
  rintro k t m hkk ⟨h11, ⟨tok, h10, hap⟩, hm, hn, hI⟩
  replace hI := Hid.mk hI
  by_cases hlt : k < l.length
  · have hlg : k < g.length := by rw [hlen.out]; exact hlt
    have g1 := chs_take hlt
    have g2 := chs_len l
    have g3 := gs_take hlg
    have g4 := gs_len g
    have c1 : (k : Int) < (l.length : Int) := by omega
    have c2 : (k : Int) < (g.length : Int) := by omega
    have c3 : k * 3 + 3 ≤ l.length * 3 := by omega
    have c4 : k * 2 + 2 ≤ g.length * 2 := by omega
    have w2 := w_add1 (k := k) (by omega)
    have hok := (hseq k hlt).1
    have C3 := rfits_fn h hk (l.getD k noC) hok (hl.at k) (g.getD k noG) (hg.at k)
    cases ht : fitB h (l.getD k noC) (g.getD k noG)
    · rw [ht] at C3
      have e2 : prN h l g l.length = k := prN_bad hI.out (fun hh => by rw [fit_true.2 hh.1] at ht; cases ht) hlt
      rw [e2, if_neg (by omega)]
      clear ht e2 hok
      unfold Hand.val Chord.val Chord.cells Grip.val Grip.cells at C3
      generalize l.getD k noC = cb at *
      generalize g.getD k noG = gb at *
      repeat' (with_reducible first | refine x_ops ?_ | refine wk ?_ | (with_reducible refine xc (C3) ?_) | ((first | refine gd1 ?_ ?_ | refine gd2 ?_ ?_ | refine gd3 ?_ ?_) <;> (first | exact @False.elim _ | intro hc)))
      exact finV_ret vv (.tup (.cons (.sl _ _ _) (.cons (.lit _) (.cons (.lit _) .nil))))
    rw [ht] at C3
    have hfit := fit_true.1 ht
    have htop := hk.top
    have hpos := hfit.pos
    have C4 := rown_fn h hk (l.getD k noC) hok (hl.at k) (g.getD k noG) hfit.len ⟨hpos.1, by omega⟩
    by_cases hk0 : 0 < k
    · have c5 : (0 : Int) < (k : Int) := by omega
      have g5 := chs_take (l := l) (k := k - 1) (by omega)
      have g6 := gs_take (l := g) (k := k - 1) (by omega)
      have c6 : ((k - 1 : Nat) : Int) < (l.length : Int) := by omega
      have c7 : ((k - 1 : Nat) : Int) < (g.length : Int) := by omega
      have c8 : (k - 1) * 3 + 3 ≤ l.length * 3 := by omega
      have c9 : (k - 1) * 2 + 2 ≤ g.length * 2 := by omega
      have w1 := w_sub1 hk0 (by omega)
      have hfit1 := (hI.out (k - 1) (by omega)).1
      have hpos1 := hfit1.pos
      have C5 := rstep_fn h hk (l.getD (k - 1) noC) (l.getD k noC) (hseq (k - 1) (by omega)).1 hok ((hseq k hlt).2 hk0) (hl.at _) (hl.at _) (g.getD (k - 1) noG) (g.getD k noG) hfit1.len hfit.len ⟨hpos1.1, by omega⟩ ⟨hpos.1, by omega⟩
      by_cases hst : StepOk h (l.getD (k - 1) noC) (g.getD (k - 1) noG) (l.getD k noC) (g.getD k noG)
      · have hpk : PrOk h l g k := ⟨hfit, fun _ => hst⟩
        have hb := prC_bound hk hok hpk (fun _ => hI.out (k - 1) (by omega))
        have epc : prC h l g k = ownC h (l.getD k noC) (g.getD k noG) + stepC h (l.getD (k - 1) noC) (g.getD (k - 1) noG) (l.getD k noC) (g.getD k noG) := by rw [prC, if_pos hk0]
        rw [stepR_ok hst] at C5
        have w3 : IntKind.i64.wrap (ownC h (l.getD k noC) (g.getD k noG) + stepC h (l.getD (k - 1) noC) (g.getD (k - 1) noG) (l.getD k noC) (g.getD k noG)) = ownC h (l.getD k noC) (g.getD k noG) + stepC h (l.getD (k - 1) noC) (g.getD (k - 1) noG) (l.getD k noC) (g.getD k noG) := w_in (by omega)
        replace hpk := Hid.mk hpk
        replace epc := Hid.mk epc
        clear hb hst ht hok hfit hfit1 hpos hpos1 htop
        unfold Hand.val Chord.val Chord.cells Grip.val Grip.cells at C3 C4 C5
        generalize l.getD (k - 1) noC = ca at *
        generalize g.getD (k - 1) noG = ga at *
        generalize l.getD k noC = cb at *
        generalize g.getD k noG = gb at *
        repeat' (with_reducible first | refine x_ops ?_ | refine wk ?_ | (with_reducible refine xc (C3) ?_) | (with_reducible refine xc (C4) ?_) | (with_reducible refine xc (C5) ?_) | ((first | refine gd1 ?_ ?_ | refine gd2 ?_ ?_ | refine gd3 ?_ ?_) <;> (first | exact @False.elim _ | intro hc)))
        refine x_appb (xs := (prL h l g k).map vint) (ys := [vint (prC h l g k)]) vw (by rw [epc.out]; exact vw) (hap.mono (fun _ _ _ => rfl) (Nat.le_add_right _ _)) (by rw [List.length_map, prL_len, Nat.mul_one]) rfl (by omega) (by unfold Go.maxLen; omega) (by show m.next + 3 < m.next + 5; omega) ?_
        intro tok' m' hap' hn' hbox hobj
        have ho := hbox 0 _ _ hm (by show ¬ 0 = m.next + 3; omega)
        replace hn' : m'.next = m.next + 5 := hn'
        clear hbox hobj hap
        repeat' (with_reducible first | refine x_ops ?_ | refine wk ?_ | ((first | refine gd1 ?_ ?_ | refine gd2 ?_ ?_ | refine gd3 ?_ ?_) <;> (first | exact @False.elim _ | intro hc)))
        refine nx (by omega) ⟨vv, ⟨tok', ?_, hap'.mono (fun _ _ _ => rfl) (Nat.le_of_eq hn')⟩, ho, by ((refine ve ?_; try exact True.intro)); omega, fun i h => ?_⟩
        · rw [prL_succ, List.map_append]; exact vv
        · by_cases hi : i = k
          · subst hi; exact hpk.out
          · exact hI.out i (by omega)
      · have e2 : prN h l g l.length = k := prN_bad hI.out (fun hh => hst (hh.2 hk0)) hlt
        rw [stepR_no hst] at C5
        rw [e2, if_neg (by omega)]
        clear hst ht hok hfit hfit1 hpos hpos1 htop e2
        unfold Hand.val Chord.val Chord.cells Grip.val Grip.cells at C3 C4 C5
        generalize l.getD (k - 1) noC = ca at *
        generalize g.getD (k - 1) noG = ga at *
        generalize l.getD k noC = cb at *
        generalize g.getD k noG = gb at *
        repeat' (with_reducible first | refine x_ops ?_ | refine wk ?_ | (with_reducible refine xc (C3) ?_) | (with_reducible refine xc (C4) ?_) | (with_reducible refine xc (C5) ?_) | ((first | refine gd1 ?_ ?_ | refine gd2 ?_ ?_ | refine gd3 ?_ ?_) <;> (first | exact @False.elim _ | intro hc)))
        exact finV_ret vv (.tup (.cons (.sl _ _ _) (.cons (.lit _) (.cons (.lit _) .nil))))
    · have c5 : ¬ (0 : Int) < (k : Int) := by omega
      have hpk : PrOk h l g k := ⟨hfit, fun hh => absurd hh hk0⟩
      have epc : prC h l g k = ownC h (l.getD k noC) (g.getD k noG) := by rw [prC, if_neg hk0]
      replace hpk := Hid.mk hpk
      replace epc := Hid.mk epc
      clear ht hok hfit hpos htop
      unfold Hand.val Chord.val Chord.cells Grip.val Grip.cells at C3 C4
      generalize l.getD k noC = cb at *
      generalize g.getD k noG = gb at *
      repeat' (with_reducible first | refine x_ops ?_ | refine wk ?_ | (with_reducible refine xc (C3) ?_) | (with_reducible refine xc (C4) ?_) | ((first | refine gd1 ?_ ?_ | refine gd2 ?_ ?_ | refine gd3 ?_ ?_) <;> (first | exact @False.elim _ | intro hc)))
      refine x_appb (xs := (prL h l g k).map vint) (ys := [vint (prC h l g k)]) vw (by rw [epc.out]; exact vw) (hap.mono (fun _ _ _ => rfl) (Nat.le_add_right _ _)) (by rw [List.length_map, prL_len, Nat.mul_one]) rfl (by omega) (by unfold Go.maxLen; omega) (by show m.next + 3 < m.next + 5; omega) ?_
      intro tok' m' hap' hn' hbox hobj
      have ho := hbox 0 _ _ hm (by show ¬ 0 = m.next + 3; omega)
      replace hn' : m'.next = m.next + 5 := hn'
      clear hbox hobj hap
      repeat' (with_reducible first | refine x_ops ?_ | refine wk ?_ | ((first | refine gd1 ?_ ?_ | refine gd2 ?_ ?_ | refine gd3 ?_ ?_) <;> (first | exact @False.elim _ | intro hc)))
      refine nx (by omega) ⟨vv, ⟨tok', ?_, hap'.mono (fun _ _ _ => rfl) (Nat.le_of_eq hn')⟩, ho, by ((refine ve ?_; try exact True.intro)); omega, fun i h => ?_⟩
      · rw [prL_succ, List.map_append]; exact vv
      · by_cases hi : i = k
        · subst hi; exact hpk.out
        · exact hI.out i (by omega)
  · have hkl : k = l.length := by omega
    subst hkl
    have c1 : ¬ (l.length : Int) < (l.length : Int) := by omega
    rw [prN_all hI.out, if_pos rfl]
    clear hlt hap
    have e5 := prL_len h l g l.length
    replace e5 := Hid.mk e5
    repeat' (with_reducible first | refine x_ops ?_ | refine wk ?_ | ((first | refine gd1 ?_ ?_ | refine gd2 ?_ ?_ | refine gd3 ?_ ?_) <;> (first | exact @False.elim _ | intro hc)))
    exact finV_ret vv (by rw [e5.out]; exact .tup (.cons (.sl _ _ _) (.cons (.lit _) (.cons (.lit _) .nil))))
end Go.Proofs.Ytojjdkoglhecbaa
