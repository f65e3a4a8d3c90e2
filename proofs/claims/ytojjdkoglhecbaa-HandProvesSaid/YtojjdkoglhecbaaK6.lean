/- Step, program and reference, on values. -/
import Derived.Test.YtojjdkoglhecbaaK5
import Derived.Test.YtojjdkoglhecbaaH8
namespace Go.Proofs.Ytojjdkoglhecbaa
open Go.RowKit
set_option linter.unusedSimpArgs false
set_option linter.unusedVariables false

/-- What Step answers. -/
noncomputable def stepA (h : Hand) (a : Chord) (g : Grip) (b : Chord) (k : Grip) : Int × Int :=
  if chkE h = 0 then (if seqE [a, b] = 0 then (if fitB h a g = true ∧ fitB h b k = true then (if (stepR h a g b k).2 = true then ((stepR h a g b k).1, 0) else (0, 61)) else (0, 61)) else (0, seqE [a, b])) else (0, 60)
theorem fits_two {a b : Chord} (fa : FitC a) (fb : FitC b) : Fits [a, b] := ⟨by simp, fun c hc => by
  rcases List.mem_cons.1 hc with rfl | hc
  · exact fa
  · rcases List.mem_cons.1 hc with rfl | hc
    · exact fb
    · cases hc⟩
theorem seq_val (l : List Chord) : seqE l = 0 ∨ seqE l = 1 ∨ seqE l = 2 := by 
  rw [seqE]
  split
  · simp
  · split <;> simp
theorem seq_two {a b : Chord} (hs : seqE [a, b] = 0) : ChordOk a ∧ ChordOk b ∧ Fol a b := by
  rw [seqE, if_neg (by simp)] at hs
  split at hs
  · rename_i h1
    have h2 : SeqOk [a, b] := by simpa using h1
    exact ⟨(h2 0 (by simp)).1, (h2 1 (by simp)).1, (h2 1 (by simp)).2 (by decide)⟩
  · cases hs
set_option maxHeartbeats 2000000 in
theorem Step_fn (h : Hand) (a b : Chord) (fa : FitC a) (fb : FitC b) (g k : Grip) (hg : g.fingers.length ≤ 17592186044416) (hkk : k.fingers.length ≤ 17592186044416) :
    Fn Try.prog Gd 45 [h.val, a.val, g.val, b.val, k.val] (.tup [vint (stepA h a g b k).1, vint (stepA h a g b k).2]) := by
  refine Fn.of_vx0 k_hand_Step (by simp) (by rw [V.pures, pure_hand, V.pures, pure_chord, V.pures, pure_grip, V.pures, pure_chord, V.pures, pure_grip]; rfl) ?_
  have C1 := check_fn h
  have C2 := checkchords_fn [a, b] (fits_two fa fb)
  have sv := seq_val [a, b]
  have s2 := @seq_two a b
  unfold stepA
  unfold tCs at C2
  have un : [a, b].flatMap Chord.cells = a.cells ++ b.cells := by simp
  rw [un] at C2
  clear un
  generalize hse : seqE [a, b] = se at C2 sv s2
  replace hse := Hid.mk hse
  by_cases he : chkE h = 0
  case neg =>
    rw [if_neg he]
    rw [chk_bad he] at C1
    clear he s2 sv
    unfold Hand.val at C1
    unfold c_hand_Step Hand.val Chord.val Chord.cells Grip.val Grip.cells
    repeat' (with_reducible first | refine x_ops ?_ | refine wk ?_ | (with_reducible refine xc (C1) ?_) | ((first | refine gd1 ?_ ?_ | refine gd2 ?_ ?_ | refine gd3 ?_ ?_) <;> (first | exact @False.elim _ | intro hc)))
    all_goals exact finV_dry rfl vv
  have hk := chk_ok he
  rw [if_pos he]
  rw [he] at C1
  clear he
  by_cases hs : se = 0
  case neg =>
    rw [if_neg hs]
    have e1 : (se == 0) = false := by simpa using hs
    clear sv s2 hs
    unfold Hand.val at C1
    unfold Chord.cells at C2
    unfold c_hand_Step Hand.val Chord.val Chord.cells Grip.val Grip.cells
    repeat' (with_reducible first | refine x_ops ?_ | refine wk ?_ | (with_reducible refine xc (C1) ?_) | (with_reducible refine xc (C2) ?_) | ((first | refine gd1 ?_ ?_ | refine gd2 ?_ ?_ | refine gd3 ?_ ?_) <;> (first | exact @False.elim _ | intro hc)))
    all_goals exact finV_dry rfl vv
  rw [if_pos hs]
  obtain ⟨ha, hb, hfol⟩ := s2 hs
  subst hs
  clear sv s2
  have C3 := fits_fn h hk a fa g hg
  have C4 := fits_fn h hk b fb k hkk
  cases h1 : fitB h a g
  · rw [h1] at C3
    rw [if_neg (fun hh => by cases hh.1)]
    clear ha hb hfol
    unfold Hand.val at C1 C3
    unfold Chord.cells at C2
    unfold Chord.val Chord.cells Grip.val Grip.cells at C3
    unfold c_hand_Step Hand.val Chord.val Chord.cells Grip.val Grip.cells
    repeat' (with_reducible first | refine x_ops ?_ | refine wk ?_ | (with_reducible refine xc (C1) ?_) | (with_reducible refine xc (C2) ?_) | (with_reducible refine xc (C3) ?_) | ((first | refine gd1 ?_ ?_ | refine gd2 ?_ ?_ | refine gd3 ?_ ?_) <;> (first | exact @False.elim _ | intro hc)))
    all_goals exact finV_dry rfl vv
  rw [h1] at C3
  cases h2 : fitB h b k
  · rw [h2] at C4
    rw [if_neg (fun hh => by cases hh.2)]
    clear ha hb hfol
    unfold Hand.val at C1 C3 C4
    unfold Chord.cells at C2
    unfold Chord.val Chord.cells Grip.val Grip.cells at C3 C4
    unfold c_hand_Step Hand.val Chord.val Chord.cells Grip.val Grip.cells
    repeat' (with_reducible first | refine x_ops ?_ | refine wk ?_ | (with_reducible refine xc (C1) ?_) | (with_reducible refine xc (C2) ?_) | (with_reducible refine xc (C3) ?_) | (with_reducible refine xc (C4) ?_) | ((first | refine gd1 ?_ ?_ | refine gd2 ?_ ?_ | refine gd3 ?_ ?_) <;> (first | exact @False.elim _ | intro hc)))
    all_goals exact finV_dry rfl vv
  rw [h2] at C4
  rw [if_pos ⟨rfl, rfl⟩]
  have f1 := fit_true.1 h1
  have f2 := fit_true.1 h2
  have C5 := step_fn h hk a b ha hb hfol fa fb g k f1.len f2.len ⟨f1.pos.1, by have := f1.pos.2; have := hk.top; omega⟩ ⟨f2.pos.1, by have := f2.pos.2; have := hk.top; omega⟩
  clear ha hb hfol f1 f2
  generalize stepR h a g b k = sr at C5
  obtain ⟨n, is⟩ := sr
  unfold Hand.val at C1 C3 C4 C5
  unfold Chord.cells at C2
  unfold Chord.val Chord.cells Grip.val Grip.cells at C3 C4 C5
  unfold c_hand_Step Hand.val Chord.val Chord.cells Grip.val Grip.cells
  cases is
  · repeat' (with_reducible first | refine x_ops ?_ | refine wk ?_ | (with_reducible refine xc (C1) ?_) | (with_reducible refine xc (C2) ?_) | (with_reducible refine xc (C3) ?_) | (with_reducible refine xc (C4) ?_) | (with_reducible refine xc (C5) ?_) | ((first | refine gd1 ?_ ?_ | refine gd2 ?_ ?_ | refine gd3 ?_ ?_) <;> (first | exact @False.elim _ | intro hc)))
    all_goals exact finV_dry rfl vv
  · repeat' (with_reducible first | refine x_ops ?_ | refine wk ?_ | (with_reducible refine xc (C1) ?_) | (with_reducible refine xc (C2) ?_) | (with_reducible refine xc (C3) ?_) | (with_reducible refine xc (C4) ?_) | (with_reducible refine xc (C5) ?_) | ((first | refine gd1 ?_ ?_ | refine gd2 ?_ ?_ | refine gd3 ?_ ?_) <;> (first | exact @False.elim _ | intro hc)))
    all_goals exact finV_dry rfl vv
set_option maxHeartbeats 2000000 in
theorem rStep_fn (h : Hand) (a b : Chord) (fa : FitC a) (fb : FitC b) (g k : Grip) (hg : g.fingers.length ≤ 17592186044416) (hkk : k.fingers.length ≤ 17592186044416) :
    Fn Try.prog Gd 46 [h.val, a.val, g.val, b.val, k.val] (.tup [vint (stepA h a g b k).1, vint (stepA h a g b k).2]) := by
  refine Fn.of_vx0 k_theorboref06_Step (by simp) (by rw [V.pures, pure_hand, V.pures, pure_chord, V.pures, pure_grip, V.pures, pure_chord, V.pures, pure_grip]; rfl) ?_
  have C1 := rcheck_fn h
  have C2 := rcheckchords_fn [a, b] (fits_two fa fb)
  have sv := seq_val [a, b]
  have s2 := @seq_two a b
  unfold stepA
  unfold tCs at C2
  have un : [a, b].flatMap Chord.cells = a.cells ++ b.cells := by simp
  rw [un] at C2
  clear un
  generalize hse : seqE [a, b] = se at C2 sv s2
  replace hse := Hid.mk hse
  by_cases he : chkE h = 0
  case neg =>
    rw [if_neg he]
    rw [chk_bad he] at C1
    clear he s2 sv
    unfold Hand.val at C1
    unfold c_theorboref06_Step Hand.val Chord.val Chord.cells Grip.val Grip.cells
    repeat' (with_reducible first | refine x_ops ?_ | refine wk ?_ | (with_reducible refine xc (C1) ?_) | ((first | refine gd1 ?_ ?_ | refine gd2 ?_ ?_ | refine gd3 ?_ ?_) <;> (first | exact @False.elim _ | intro hc)))
    all_goals exact finV_dry rfl vv
  have hk := chk_ok he
  rw [if_pos he]
  rw [he] at C1
  clear he
  by_cases hs : se = 0
  case neg =>
    rw [if_neg hs]
    have e1 : (se == 0) = false := by simpa using hs
    clear sv s2 hs
    unfold Hand.val at C1
    unfold Chord.cells at C2
    unfold c_theorboref06_Step Hand.val Chord.val Chord.cells Grip.val Grip.cells
    repeat' (with_reducible first | refine x_ops ?_ | refine wk ?_ | (with_reducible refine xc (C1) ?_) | (with_reducible refine xc (C2) ?_) | ((first | refine gd1 ?_ ?_ | refine gd2 ?_ ?_ | refine gd3 ?_ ?_) <;> (first | exact @False.elim _ | intro hc)))
    all_goals exact finV_dry rfl vv
  rw [if_pos hs]
  obtain ⟨ha, hb, hfol⟩ := s2 hs
  subst hs
  clear sv s2
  have C3 := rfits_fn h hk a ha fa g hg
  have C4 := rfits_fn h hk b hb fb k hkk
  cases h1 : fitB h a g
  · rw [h1] at C3
    rw [if_neg (fun hh => by cases hh.1)]
    clear ha hb hfol
    unfold Hand.val at C1 C3
    unfold Chord.cells at C2
    unfold Chord.val Chord.cells Grip.val Grip.cells at C3
    unfold c_theorboref06_Step Hand.val Chord.val Chord.cells Grip.val Grip.cells
    repeat' (with_reducible first | refine x_ops ?_ | refine wk ?_ | (with_reducible refine xc (C1) ?_) | (with_reducible refine xc (C2) ?_) | (with_reducible refine xc (C3) ?_) | ((first | refine gd1 ?_ ?_ | refine gd2 ?_ ?_ | refine gd3 ?_ ?_) <;> (first | exact @False.elim _ | intro hc)))
    all_goals exact finV_dry rfl vv
  rw [h1] at C3
  cases h2 : fitB h b k
  · rw [h2] at C4
    rw [if_neg (fun hh => by cases hh.2)]
    clear ha hb hfol
    unfold Hand.val at C1 C3 C4
    unfold Chord.cells at C2
    unfold Chord.val Chord.cells Grip.val Grip.cells at C3 C4
    unfold c_theorboref06_Step Hand.val Chord.val Chord.cells Grip.val Grip.cells
    repeat' (with_reducible first | refine x_ops ?_ | refine wk ?_ | (with_reducible refine xc (C1) ?_) | (with_reducible refine xc (C2) ?_) | (with_reducible refine xc (C3) ?_) | (with_reducible refine xc (C4) ?_) | ((first | refine gd1 ?_ ?_ | refine gd2 ?_ ?_ | refine gd3 ?_ ?_) <;> (first | exact @False.elim _ | intro hc)))
    all_goals exact finV_dry rfl vv
  rw [h2] at C4
  rw [if_pos ⟨rfl, rfl⟩]
  have f1 := fit_true.1 h1
  have f2 := fit_true.1 h2
  have C5 := rstep_fn h hk a b ha hb hfol fa fb g k f1.len f2.len ⟨f1.pos.1, by have := f1.pos.2; have := hk.top; omega⟩ ⟨f2.pos.1, by have := f2.pos.2; have := hk.top; omega⟩
  clear ha hb hfol f1 f2
  generalize stepR h a g b k = sr at C5
  obtain ⟨n, is⟩ := sr
  unfold Hand.val at C1 C3 C4 C5
  unfold Chord.cells at C2
  unfold Chord.val Chord.cells Grip.val Grip.cells at C3 C4 C5
  unfold c_theorboref06_Step Hand.val Chord.val Chord.cells Grip.val Grip.cells
  cases is
  · repeat' (with_reducible first | refine x_ops ?_ | refine wk ?_ | (with_reducible refine xc (C1) ?_) | (with_reducible refine xc (C2) ?_) | (with_reducible refine xc (C3) ?_) | (with_reducible refine xc (C4) ?_) | (with_reducible refine xc (C5) ?_) | ((first | refine gd1 ?_ ?_ | refine gd2 ?_ ?_ | refine gd3 ?_ ?_) <;> (first | exact @False.elim _ | intro hc)))
    all_goals exact finV_dry rfl vv
  · repeat' (with_reducible first | refine x_ops ?_ | refine wk ?_ | (with_reducible refine xc (C1) ?_) | (with_reducible refine xc (C2) ?_) | (with_reducible refine xc (C3) ?_) | (with_reducible refine xc (C4) ?_) | (with_reducible refine xc (C5) ?_) | ((first | refine gd1 ?_ ?_ | refine gd2 ?_ ?_ | refine gd3 ?_ ?_) <;> (first | exact @False.elim _ | intro hc)))
    all_goals exact finV_dry rfl vv
end Go.Proofs.Ytojjdkoglhecbaa
