/- The own cost of a grip: the reference; Own, program and reference, on values. -/
import Derived.Test.YtojjdkoglhecbaaK2
import Derived.Test.YtojjdkoglhecbaaH3
import Derived.Test.YtojjdkoglhecbaaH7
namespace Go.Proofs.Ytojjdkoglhecbaa
open Go.RowKit
set_option linter.unusedSimpArgs false
set_option linter.unusedVariables false

set_option maxHeartbeats 2000000 in
theorem rown_fn (h : Hand) (hk : HandOk h) (c : Chord) (hc : ChordOk c) (hf : FitC c) (g : Grip) (hl : g.fingers.length = c.down.length) (hp : 1 ≤ g.pos ∧ g.pos ≤ 18) : Fn Try.prog Gd 82 [h.val, c.val, g.val] (vint (ownC h c g)) := by
  refine Fn.of_vx0 k_theorboref06_own (by simp) (by rw [V.pures, pure_hand, V.pures, pure_chord, V.pures, pure_grip]; rfl) ?_
  have n4 := hk.n4
  have PL := fun v => rplaces_fn c hf g hl v
  unfold Chord.val Chord.cells Grip.val Grip.cells at PL
  unfold c_theorboref06_own Hand.val Chord.val Chord.cells Grip.val Grip.cells
  replace hl := Hid.mk hl
  replace hp := Hid.mk hp
  repeat' (with_reducible first | refine x_ops ?_ | refine wk ?_ | ((first | refine gd1 ?_ ?_ | refine gd2 ?_ ?_ | refine gd3 ?_ ?_) <;> (first | exact @False.elim _ | intro hc)))
  refine x_loopF w_theorboref06_own_p8 (by kernel_rfl) h.low.length (fun k t => t 8 = vint ((k + 1 : Nat) : Int) ∧ t 7 = vint (ownU h c g k)) ?_ ?_
  · exact ⟨vv, vv⟩
  rintro k t hkk ⟨h8, h7⟩
  by_cases hlt : k < h.low.length
  · have c1 : ((k + 1 : Nat) : Int) ≤ (h.low.length : Int) := by omega
    have w1 : IntKind.i64.wrap (((k + 1 : Nat) : Int) + 1) = ((k + 1 + 1 : Nat) : Int) := w_add1 (by omega)
    have P1 := PL ((k + 1 : Nat) : Int)
    have eP : plU c.down g.fingers ((k + 1 : Nat) : Int) c.down.length = plF c g k := rfl
    rw [eP] at P1
    have b1 := ownU_bound hk hc hp.out (g := g) (k := k) (by omega)
    have b2 := ownU_bound hk hc hp.out (g := g) (k := k + 1) (by omega)
    have hU : ownU h c g (k + 1) = ownU h c g k + ownT h c g k := rfl
    have hT : ownT h c g k = if (plF c g k).length = 0 then 0 else (if 1 < (plF c g k).length then h.bar else 0) + h.stretch * dist ((plF c g k).getD 0 (0, 0)).2 (g.pos + ((k + 1 : Nat) : Int) - 1) := rfl
    by_cases hz : (plF c g k).length = 0
    · rw [if_pos hz] at hT
      replace hU : Hid (ownU h c g (k + 1) = ownU h c g k) := ⟨by rw [hU, hT]; omega⟩
      have e1 : ¬ (1 : Int) < ((plF c g k).length : Int) := by omega
      have e2 : ¬ (0 : Int) < ((plF c g k).length : Int) := by omega
      clear hT b1 b2 eP hz PL
      repeat' (with_reducible first | refine x_ops ?_ | refine wk ?_ | (with_reducible refine xc (P1) ?_) | ((first | refine gd1 ?_ ?_ | refine gd2 ?_ ?_ | refine gd3 ?_ ?_) <;> (first | exact @False.elim _ | intro hc)))
      exact nf (by omega) ⟨vv, by rw [hU.out]; exact vw⟩ rfl
    · rw [if_neg hz] at hT
      have hfr := plF_fret hc (g := g) (k := k) (i := 0) (by omega)
      have hp1 := hp.out
      have hst := hk.stretch
      have hbr := hk.bar
      have g1 := pls_at1 (l := plF c g k) (k := 0) (by omega)
      have g2 := pls_len (plF c g k)
      have c2 : (0 : Int) < ((plF c g k).length : Int) := by omega
      have hd : 0 ≤ dist ((plF c g k).getD 0 (0, 0)).2 (g.pos + ((k + 1 : Nat) : Int) - 1) ∧ dist ((plF c g k).getD 0 (0, 0)).2 (g.pos + ((k + 1 : Nat) : Int) - 1) ≤ 100 := ⟨dist_le, dist_bound (by omega) (by omega)⟩
      have hm := mul_bound hst hd
      have w2 : IntKind.i64.wrap (g.pos + ((k + 1 : Nat) : Int)) = g.pos + ((k + 1 : Nat) : Int) := w_in (by omega)
      have w3 : IntKind.i64.wrap (g.pos + ((k + 1 : Nat) : Int) - 1) = g.pos + ((k + 1 : Nat) : Int) - 1 := w_in (by omega)
      have w7 : IntKind.i64.wrap (((plF c g k).getD 0 (0, 0)).2 - (g.pos + ((k + 1 : Nat) : Int) - 1)) = ((plF c g k).getD 0 (0, 0)).2 - (g.pos + ((k + 1 : Nat) : Int) - 1) := w_in (by omega)
      have w8 : IntKind.i64.wrap (0 - (((plF c g k).getD 0 (0, 0)).2 - (g.pos + ((k + 1 : Nat) : Int) - 1))) = g.pos + ((k + 1 : Nat) : Int) - 1 - ((plF c g k).getD 0 (0, 0)).2 := by rw [w_in (by omega)]; omega
      generalize hdd : dist ((plF c g k).getD 0 (0, 0)).2 (g.pos + ((k + 1 : Nat) : Int) - 1) = dd at hT hd hm
      rw [dist] at hdd
      have w4 : IntKind.i64.wrap (h.stretch * dd) = h.stretch * dd := w_in (by omega)
      rw [Nat.zero_mul, Nat.zero_add] at g1
      by_cases hone : 1 < (plF c g k).length
      · rw [if_pos hone] at hT
        have c3 : (1 : Int) < ((plF c g k).length : Int) := by omega
        have w5 : IntKind.i64.wrap (ownU h c g k + h.bar) = ownU h c g k + h.bar := w_in (by omega)
        have w6 : IntKind.i64.wrap (ownU h c g k + h.bar + h.stretch * dd) = ownU h c g k + h.bar + h.stretch * dd := w_in (by omega)
        replace hU : Hid (ownU h c g (k + 1) = ownU h c g k + h.bar + h.stretch * dd) := ⟨by rw [hU, hT]; omega⟩
        clear hT b1 b2 eP hz PL hm hd hfr hp1 hst hbr hone
        repeat' (with_reducible first | refine x_ops ?_ | simp only [go_sem, Nat.reduceAdd, Nat.reduceEqDiff, Nat.reduceLT, Nat.reduceLeDiff, Nat.reduceMul, Nat.reduceSub, Nat.reducePow, Nat.reduceDiv, Nat.reduceMod, Nat.reduceBEq, Int.reduceBEq, Int.reduceLT, reduceIte, tIs, tBs, tPs, Int.toNat_zero, *] | (with_reducible refine xc (P1) ?_) | ((first | refine gd1 ?_ ?_ | refine gd2 ?_ ?_ | refine gd3 ?_ ?_) <;> (first | exact @False.elim _ | intro hc)))
        exact nf (by omega) ⟨vv, by rw [hU.out]; exact vv⟩ rfl
      · rw [if_neg hone] at hT
        have c3 : ¬ (1 : Int) < ((plF c g k).length : Int) := by omega
        have w6 : IntKind.i64.wrap (ownU h c g k + h.stretch * dd) = ownU h c g k + h.stretch * dd := w_in (by omega)
        replace hU : Hid (ownU h c g (k + 1) = ownU h c g k + h.stretch * dd) := ⟨by rw [hU, hT]; omega⟩
        clear hT b1 b2 eP hz PL hm hd hfr hp1 hst hbr hone
        repeat' (with_reducible first | refine x_ops ?_ | simp only [go_sem, Nat.reduceAdd, Nat.reduceEqDiff, Nat.reduceLT, Nat.reduceLeDiff, Nat.reduceMul, Nat.reduceSub, Nat.reducePow, Nat.reduceDiv, Nat.reduceMod, Nat.reduceBEq, Int.reduceBEq, Int.reduceLT, reduceIte, tIs, tBs, tPs, Int.toNat_zero, *] | (with_reducible refine xc (P1) ?_) | ((first | refine gd1 ?_ ?_ | refine gd2 ?_ ?_ | refine gd3 ?_ ?_) <;> (first | exact @False.elim _ | intro hc)))
        exact nf (by omega) ⟨vv, by rw [hU.out]; exact vv⟩ rfl
  · have hkl : k = h.low.length := by omega
    subst hkl
    have c1 : ¬ ((h.low.length + 1 : Nat) : Int) ≤ (h.low.length : Int) := by omega
    repeat' (with_reducible first | refine x_ops ?_ | refine wk ?_ | ((first | refine gd1 ?_ ?_ | refine gd2 ?_ ?_ | refine gd3 ?_ ?_) <;> (first | exact @False.elim _ | intro hc)))
    exact finV_lit vv rfl

/-- What Own answers. -/
noncomputable def ownR (h : Hand) (c : Chord) (g : Grip) : Int × Int :=
  if chkE h = 0 then (if rgtB c = true then (if fitB h c g = true then (ownC h c g, 0) else (0, 61)) else (0, 1)) else (0, 60)
theorem chk_ok {h : Hand} (hc : chkE h = 0) : HandOk h := by
  rw [chkE] at hc
  split at hc
  · assumption
  · cases hc
theorem chk_bad {h : Hand} (hc : ¬ chkE h = 0) : chkE h = 60 := by
  rw [chkE] at hc ⊢
  split at hc
  · exact absurd rfl hc
  · rename_i hn; rw [if_neg hn]
set_option maxHeartbeats 1000000 in
theorem Own_fn (h : Hand) (c : Chord) (hf : FitC c) (g : Grip) (hg : g.fingers.length ≤ 17592186044416) : Fn Try.prog Gd 43 [h.val, c.val, g.val] (.tup [vint (ownR h c g).1, vint (ownR h c g).2]) := by
  refine Fn.of_vx0 k_hand_Own (by simp) (by rw [V.pures, pure_hand, V.pures, pure_chord, V.pures, pure_grip]; rfl) ?_
  have C1 := check_fn h
  have C2 := right_fn c hf.big
  unfold ownR
  by_cases he : chkE h = 0
  case neg =>
    rw [if_neg he]
    rw [chk_bad he] at C1
    clear he
    unfold Hand.val at C1
    unfold c_hand_Own Hand.val Chord.val Chord.cells Grip.val Grip.cells
    repeat' (with_reducible first | refine x_ops ?_ | refine wk ?_ | (with_reducible refine xc (C1) ?_) | ((first | refine gd1 ?_ ?_ | refine gd2 ?_ ?_ | refine gd3 ?_ ?_) <;> (first | exact @False.elim _ | intro hc)))
    all_goals exact finV_dry rfl vv
  have hk := chk_ok he
  rw [if_pos he]
  rw [he] at C1
  clear he
  cases hr : rgtB c
  · rw [hr] at C2
    rw [if_neg (by decide)]
    unfold Hand.val at C1
    unfold Chord.val Chord.cells at C2
    unfold c_hand_Own Hand.val Chord.val Chord.cells Grip.val Grip.cells
    repeat' (with_reducible first | refine x_ops ?_ | refine wk ?_ | (with_reducible refine xc (C1) ?_) | (with_reducible refine xc (C2) ?_) | ((first | refine gd1 ?_ ?_ | refine gd2 ?_ ?_ | refine gd3 ?_ ?_) <;> (first | exact @False.elim _ | intro hc)))
    all_goals exact finV_dry rfl vv
  rw [hr] at C2
  rw [if_pos rfl]
  have hc := rgt_true.1 hr
  have C3 := fits_fn h hk c hf g hg
  cases ht : fitB h c g
  · rw [ht] at C3
    rw [if_neg (by decide)]
    unfold Hand.val at C1 C3
    unfold Chord.val Chord.cells at C2 C3
    unfold Grip.val Grip.cells at C3
    unfold c_hand_Own Hand.val Chord.val Chord.cells Grip.val Grip.cells
    clear hc
    repeat' (with_reducible first | refine x_ops ?_ | refine wk ?_ | (with_reducible refine xc (C1) ?_) | (with_reducible refine xc (C2) ?_) | (with_reducible refine xc (C3) ?_) | ((first | refine gd1 ?_ ?_ | refine gd2 ?_ ?_ | refine gd3 ?_ ?_) <;> (first | exact @False.elim _ | intro hc)))
    all_goals exact finV_dry rfl vv
  rw [ht] at C3
  rw [if_pos rfl]
  have hfit := fit_true.1 ht
  have C4 := own_fn h hk c hc hf g hfit.len ⟨hfit.pos.1, by have := hfit.pos.2; have := hk.top; omega⟩
  clear hc hfit
  unfold Hand.val at C1 C3 C4
  unfold Chord.val Chord.cells at C2 C3 C4
  unfold Grip.val Grip.cells at C3 C4
  unfold c_hand_Own Hand.val Chord.val Chord.cells Grip.val Grip.cells
  repeat' (with_reducible first | refine x_ops ?_ | refine wk ?_ | (with_reducible refine xc (C1) ?_) | (with_reducible refine xc (C2) ?_) | (with_reducible refine xc (C3) ?_) | (with_reducible refine xc (C4) ?_) | ((first | refine gd1 ?_ ?_ | refine gd2 ?_ ?_ | refine gd3 ?_ ?_) <;> (first | exact @False.elim _ | intro hc)))
  all_goals exact finV_dry rfl vv
set_option maxHeartbeats 1000000 in
theorem rOwn_fn (h : Hand) (c : Chord) (hf : FitC c) (g : Grip) (hg : g.fingers.length ≤ 17592186044416) : Fn Try.prog Gd 44 [h.val, c.val, g.val] (.tup [vint (ownR h c g).1, vint (ownR h c g).2]) := by
  refine Fn.of_vx0 k_theorboref06_Own (by simp) (by rw [V.pures, pure_hand, V.pures, pure_chord, V.pures, pure_grip]; rfl) ?_
  have C1 := rcheck_fn h
  have C2 := good_fn c hf
  unfold ownR
  by_cases he : chkE h = 0
  case neg =>
    rw [if_neg he]
    rw [chk_bad he] at C1
    clear he
    unfold Hand.val at C1
    unfold c_theorboref06_Own Hand.val Chord.val Chord.cells Grip.val Grip.cells
    repeat' (with_reducible first | refine x_ops ?_ | refine wk ?_ | (with_reducible refine xc (C1) ?_) | ((first | refine gd1 ?_ ?_ | refine gd2 ?_ ?_ | refine gd3 ?_ ?_) <;> (first | exact @False.elim _ | intro hc)))
    all_goals exact finV_dry rfl vv
  have hk := chk_ok he
  rw [if_pos he]
  rw [he] at C1
  clear he
  cases hr : rgtB c
  · rw [hr] at C2
    rw [if_neg (by decide)]
    unfold Hand.val at C1
    unfold Chord.val Chord.cells at C2
    unfold c_theorboref06_Own Hand.val Chord.val Chord.cells Grip.val Grip.cells
    repeat' (with_reducible first | refine x_ops ?_ | refine wk ?_ | (with_reducible refine xc (C1) ?_) | (with_reducible refine xc (C2) ?_) | ((first | refine gd1 ?_ ?_ | refine gd2 ?_ ?_ | refine gd3 ?_ ?_) <;> (first | exact @False.elim _ | intro hc)))
    all_goals exact finV_dry rfl vv
  rw [hr] at C2
  rw [if_pos rfl]
  have hc := rgt_true.1 hr
  have C3 := rfits_fn h hk c hc hf g hg
  cases ht : fitB h c g
  · rw [ht] at C3
    rw [if_neg (by decide)]
    unfold Hand.val at C1 C3
    unfold Chord.val Chord.cells at C2 C3
    unfold Grip.val Grip.cells at C3
    unfold c_theorboref06_Own Hand.val Chord.val Chord.cells Grip.val Grip.cells
    clear hc
    repeat' (with_reducible first | refine x_ops ?_ | refine wk ?_ | (with_reducible refine xc (C1) ?_) | (with_reducible refine xc (C2) ?_) | (with_reducible refine xc (C3) ?_) | ((first | refine gd1 ?_ ?_ | refine gd2 ?_ ?_ | refine gd3 ?_ ?_) <;> (first | exact @False.elim _ | intro hc)))
    all_goals exact finV_dry rfl vv
  rw [ht] at C3
  rw [if_pos rfl]
  have hfit := fit_true.1 ht
  have C4 := rown_fn h hk c hc hf g hfit.len ⟨hfit.pos.1, by have := hfit.pos.2; have := hk.top; omega⟩
  clear hc hfit
  unfold Hand.val at C1 C3 C4
  unfold Chord.val Chord.cells at C2 C3 C4
  unfold Grip.val Grip.cells at C3 C4
  unfold c_theorboref06_Own Hand.val Chord.val Chord.cells Grip.val Grip.cells
  repeat' (with_reducible first | refine x_ops ?_ | refine wk ?_ | (with_reducible refine xc (C1) ?_) | (with_reducible refine xc (C2) ?_) | (with_reducible refine xc (C3) ?_) | (with_reducible refine xc (C4) ?_) | ((first | refine gd1 ?_ ?_ | refine gd2 ?_ ?_ | refine gd3 ?_ ?_) <;> (first | exact @False.elim _ | intro hc)))
  all_goals exact finV_dry rfl vv
end Go.Proofs.Ytojjdkoglhecbaa
