/- The cost of a step: the reference, on values. -/
import Derived.Test.YtojjdkoglhecbaaK3
import Derived.Test.YtojjdkoglhecbaaK4
namespace Go.Proofs.Ytojjdkoglhecbaa
open Go.RowKit
set_option linter.unusedSimpArgs false
set_option linter.unusedVariables false

theorem common_fn (a b : List (Int × Int)) (ha : a.length ≤ 4611686018427387904) (hb : b.length ≤ 4611686018427387904) : Fn Try.prog Gd 124 [tPs a, tPs b] (vbool (cmnB a b)) := by
  refine Fn.of_vx0 k_theorboref06_common (by simp) (by rw [V.pures, pure_tPs, V.pures, pure_tPs]; rfl) ?_
  unfold c_theorboref06_common tPs
  repeat' (with_reducible first | refine x_ops ?_ | refine wk ?_ | ((first | refine gd1 ?_ ?_ | refine gd2 ?_ ?_ | refine gd3 ?_ ?_) <;> (first | exact @False.elim _ | intro hc)))
  refine x_loopF w_theorboref06_common_p8 (by kernel_rfl) a.length (fun k t => t 5 = vint (k : Int) ∧ ∀ i, i < k → memB (a.getD i (0, 0)) b = false) ?_ ?_
  · exact ⟨vv, fun i h => by omega⟩
  rintro k t hk ⟨h5, hI⟩
  by_cases hlt : k < a.length
  · have g1 := pls_take hlt
    have g2 := pls_len a
    have c2 : (k : Int) < (a.length : Int) := by omega
    have c3 : k * 2 + 2 ≤ a.length * 2 := by omega
    have w2 := w_add1 (k := k) (by omega)
    repeat' (with_reducible first | refine x_ops ?_ | refine wk ?_ | ((first | refine gd1 ?_ ?_ | refine gd2 ?_ ?_ | refine gd3 ?_ ?_) <;> (first | exact @False.elim _ | intro hc)))
    refine x_loopF w_theorboref06_common_p4 (by kernel_rfl) b.length (fun q t => t 6 = vint (q : Int) ∧ ∀ j, j < q → decide (a.getD k (0, 0) = b.getD j (0, 0)) = false) ?_ ?_
    · exact ⟨vv, fun i h => by omega⟩
    rintro q t' hq ⟨h6, hJ⟩
    by_cases hql : q < b.length
    · have g3 := pls_take hql
      have g4 := pls_len b
      have c4 : (q : Int) < (b.length : Int) := by omega
      have c5 : q * 2 + 2 ≤ b.length * 2 := by omega
      have w3 := w_add1 (k := q) (by omega)
      have eqk := eq_pl (a.getD k (0, 0)) (b.getD q (0, 0))
      cases d : decide (a.getD k (0, 0) = b.getD q (0, 0))
      · rw [d] at eqk
        have dh := Hid.mk d
        clear d
        repeat' (with_reducible first | refine x_ops ?_ | refine wk ?_ | ((first | refine gd1 ?_ ?_ | refine gd2 ?_ ?_ | refine gd3 ?_ ?_) <;> (first | exact @False.elim _ | intro hc)))
        refine nf (by omega) ⟨vv, fun i h => ?_⟩ rfl
        by_cases hi : i = q
        · subst hi; exact of_decide_eq_false dh.out
        · exact of_decide_eq_false (hJ i (by omega))
      · rw [d] at eqk
        have dh := Hid.mk d
        clear d
        repeat' (with_reducible first | refine x_ops ?_ | refine wk ?_ | ((first | refine gd1 ?_ ?_ | refine gd2 ?_ ?_ | refine gd3 ?_ ?_) <;> (first | exact @False.elim _ | intro hc)))
        refine finV_lit vv ?_
        have e1 : memB (a.getD k (0, 0)) b = true := by rw [memB, gI_eq (p := fun y => decide (a.getD k (0, 0) = y)) (d := (0, 0)) hJ hql dh.out]; exact decide_eq_true hql
        rw [cmnB, gI_eq (p := fun x => memB x b) (d := (0, 0)) hI hlt e1, decide_eq_true hlt]
    · have c4 : ¬ (q : Int) < (b.length : Int) := by omega
      repeat' (with_reducible first | refine x_ops ?_ | refine wk ?_ | ((first | refine gd1 ?_ ?_ | refine gd2 ?_ ?_ | refine gd3 ?_ ?_) <;> (first | exact @False.elim _ | intro hc)))
      refine nf (by omega) ⟨vv, fun i h => ?_⟩ rfl
      by_cases hi : i = k
      · subst hi
        rw [memB, gI_none (p := fun y => decide (a.getD i (0, 0) = y)) (d := (0, 0)) fun j hj => hJ j (by omega)]
        simp
      · exact hI i (by omega)
  · have c1 : ¬ ((k : Int) < (a.length : Int)) := by omega
    repeat' (with_reducible first | refine x_ops ?_ | refine wk ?_ | ((first | refine gd1 ?_ ?_ | refine gd2 ?_ ?_ | refine gd3 ?_ ?_) <;> (first | exact @False.elim _ | intro hc)))
    refine finV_lit vv ?_
    rw [cmnB, gI_none (p := fun x => memB x b) (d := (0, 0)) fun j hj => hI j (by omega)]
    simp

/-- The finger on a course. -/
def fngA (c : Chord) (g : Grip) (co : Int) : Int := if fI c.down co < c.down.length then g.fingers.getD (fI c.down co) 0 else 0
theorem finger_fn (c : Chord) (g : Grip) (hl : g.fingers.length = c.down.length) (co : Int) (hb : c.down.length ≤ 8796093022208) : Fn Try.prog Gd 123 [c.val, g.val, vint co] (vint (fngA c g co)) := by
  refine Fn.of_vx0 k_theorboref06_finger (by simp) (by rw [V.pures, pure_chord, V.pures, pure_grip]; rfl) ?_
  unfold c_theorboref06_finger Chord.val Chord.cells Grip.val Grip.cells
  replace hl := Hid.mk hl
  repeat' (with_reducible first | refine x_ops ?_ | refine wk ?_ | ((first | refine gd1 ?_ ?_ | refine gd2 ?_ ?_ | refine gd3 ?_ ?_) <;> (first | exact @False.elim _ | intro hc)))
  refine x_loopF w_theorboref06_finger_p4 (by kernel_rfl) c.down.length (fun k t => t 7 = vint (k : Int) ∧ ∀ i, i < k → (c.down.getD i (0, 0)).1 ≠ co) ?_ ?_
  · exact ⟨vv, fun i h => by omega⟩
  rintro k t hk ⟨h7, hI⟩
  by_cases hlt : k < c.down.length
  · have g1 := pls_at0 hlt
    have g2 := pls_len c.down
    have g3 := ints_at (l := g.fingers) (k := k) (by rw [hl.out]; exact hlt)
    have c2 : (k : Int) < (c.down.length : Int) := by omega
    have c3 : k * 2 + 2 ≤ c.down.length * 2 := by omega
    have c4 : (k : Int) < (g.fingers.length : Int) := by rw [hl.out]; omega
    have w2 := w_add1 (k := k) (by omega)
    repeat' (with_reducible first | refine x_ops ?_ | refine wk ?_ | ((first | refine gd1 ?_ ?_ | refine gd2 ?_ ?_ | refine gd3 ?_ ?_) <;> (first | exact @False.elim _ | intro hc)))
    · refine finV_lit vv ?_
      rw [fngA, fI_eq hI hlt (eq_of_beq hc), if_pos hlt]
    · refine nf (by omega) ⟨vv, fun i h => ?_⟩ rfl
      by_cases hi : i = k
      · subst hi; simpa using hc
      · exact hI i (by omega)
  · have c1 : ¬ ((k : Int) < (c.down.length : Int)) := by omega
    repeat' (with_reducible first | refine x_ops ?_ | refine wk ?_ | ((first | refine gd1 ?_ ?_ | refine gd2 ?_ ?_ | refine gd3 ?_ ?_) <;> (first | exact @False.elim _ | intro hc)))
    refine finV_lit vv ?_
    rw [fngA, fI_none fun i hi => hI i (by omega), if_neg (by omega)]

/-- Without places there is nothing to slide. -/
theorem slT_zero {h : Hand} {a b : Chord} {g k : Grip} (hb : ¬ bothD a b) (f : Nat) : slT h a g b k f = 0 := by
  have hla := plU_len a.down g.fingers ((f + 1 : Nat) : Int) a.down.length
  have hlb := plU_len b.down k.fingers ((f + 1 : Nat) : Int) b.down.length
  rw [slT, if_neg]
  intro hh
  refine hb ⟨?_, ?_⟩
  · have := hh.1; rw [plF] at this; omega
  · have := hh.2.1; rw [plF] at this; omega
theorem slU_zero {h : Hand} {a b : Chord} {g k : Grip} (hb : ¬ bothD a b) : ∀ f : Nat, slU h a g b k f = 0
  | 0 => rfl
  | f + 1 => by rw [slU, slU_zero hb f, slT_zero hb]; rfl
theorem dist_r (a b : Int) : (if b - a < a - b then a - b else b - a) = dist a b := by rw [dist]; split <;> split <;> omega

set_option maxHeartbeats 4000000 in
theorem rstep_fn (h : Hand) (hk : HandOk h) (a b : Chord) (ha : ChordOk a) (hb : ChordOk b) (hfol : Fol a b) (fa : FitC a) (fb : FitC b) (g k : Grip) (lg : g.fingers.length = a.down.length) (lk : k.fingers.length = b.down.length)
    (pg : 1 ≤ g.pos ∧ g.pos ≤ 18) (pk : 1 ≤ k.pos ∧ k.pos ≤ 18) : Fn Try.prog Gd 84 [h.val, a.val, g.val, b.val, k.val] (.tup [vint (stepR h a g b k).1, vbool (stepR h a g b k).2]) := by
  refine Fn.of_vx0 k_theorboref06_step (by simp) (by rw [V.pures, pure_hand, V.pures, pure_chord, V.pures, pure_grip, V.pures, pure_chord, V.pures, pure_grip]; rfl) ?_
  have n4 := hk.n4
  have n1 := hk.n1
  have D1 := fun co => finger_fn a g lg co fa.1
  have D2 := fun co => finger_fn b k lk co fb.1
  have PL1 := fun v => rplaces_fn a fa g lg v
  have PL2 := fun v => rplaces_fn b fb k lk v
  have hb3 := fb.2.1
  unfold Chord.val Chord.cells Grip.val Grip.cells at D1 D2
  unfold Chord.val Chord.cells Grip.val Grip.cells at PL1 PL2
  unfold c_theorboref06_step Hand.val Chord.val Chord.cells Grip.val Grip.cells
  have w1 : IntKind.i64.wrap (k.pos - g.pos) = k.pos - g.pos := w_in (by omega)
  have w2' : IntKind.i64.wrap (g.pos - k.pos) = g.pos - k.pos := w_in (by omega)
  have hdd : 0 ≤ dist g.pos k.pos ∧ dist g.pos k.pos ≤ 100 := ⟨dist_le, dist_bound (by omega) (by omega)⟩
  replace lg := Hid.mk lg
  replace lk := Hid.mk lk
  replace pg := Hid.mk pg
  replace pk := Hid.mk pk
  repeat' (with_reducible first | refine x_ops ?_ | refine wk ?_ | ((first | refine gd1 ?_ ?_ | refine gd2 ?_ ?_ | refine gd3 ?_ ?_) <;> (first | exact @False.elim _ | intro hc)))
  refine x_loopF w_theorboref06_step_p4 (by kernel_rfl) b.held.length (fun q t => t 12 = vint (q : Int) ∧ ∀ i, i < q → fngA a g (b.held.getD i 0) = fngA b k (b.held.getD i 0)) ?_ ?_
  · exact ⟨vv, fun i h => by omega⟩
  rintro q t hq ⟨h12, hJ⟩
  have same : ∀ i, i < b.held.length → (fngA a g (b.held.getD i 0) = g.fingers.getD (fI a.down (b.held.getD i 0)) 0 ∧ fngA b k (b.held.getD i 0) = k.fingers.getD (fI b.down (b.held.getD i 0)) 0) := fun i hi =>
    ⟨by rw [fngA, if_pos (fol_found hb hfol hi)], by rw [fngA, if_pos (hb.held i hi)]⟩
  replace same := Hid.mk same
  by_cases hql : q < b.held.length
  · have g1 := ints_at hql
    have c2 : (q : Int) < (b.held.length : Int) := by omega
    have w2 := w_add1 (k := q) (by omega)
    repeat' (with_reducible first | refine x_ops ?_ | refine wk ?_ | (with_reducible refine xc (D1 _) ?_) | (with_reducible refine xc (D2 _) ?_) | ((first | refine gd1 ?_ ?_ | refine gd2 ?_ ?_ | refine gd3 ?_ ?_) <;> (first | exact @False.elim _ | intro hc)))
    · rw [stepR_no (fun hs => ?_)]
      · exact finV_dry rfl vv
      · have h1 := hs.1 q hql
        have h2 := same.out q hql
        rw [← h2.1, ← h2.2] at h1
        rw [h1] at hc
        simp at hc
    · refine nf (by omega) ⟨vv, fun i h => ?_⟩ rfl
      by_cases hi : i = q
      · subst hi; exact eq_of_beq (by simpa using hc)
      · exact hJ i (by omega)
  have hJ : HeldOk a g b k := fun i hi => by have h1 := hJ i (by omega); have h2 := same.out i hi; rw [← h2.1, ← h2.2]; exact h1
  have c2 : ¬ (q : Int) < (b.held.length : Int) := by omega
  clear hql hq D1 D2 same
  replace hJ := Hid.mk hJ
  have hok : Hid (StepOk h a g b k ↔ ¬ (bothD a b ∧ h.jump < dist g.pos k.pos)) := ⟨⟨fun hs => hs.2, fun hs => ⟨hJ.out, hs⟩⟩⟩
  have hsc : Hid (stepC h a g b k = h.shift * dist g.pos k.pos + (if bothD a b ∧ 0 < dist g.pos k.pos then h.lift else 0) + slU h a g b k h.low.length) := ⟨by
    rw [stepC]
    by_cases hh : bothD a b
    · rw [if_pos (c := bothD a b) hh]
    · rw [if_neg (c := bothD a b) hh, slU_zero hh]⟩
  have hsh := mul_bound hk.shift hdd
  have hlf := hk.lift
  have hdr := dist_r g.pos k.pos
  generalize dist g.pos k.pos = dd at hdr hok hsc hdd hsh
  have w3 : IntKind.i64.wrap (h.shift * dd) = h.shift * dd := w_in (by omega)
  have w4 : IntKind.i64.wrap (h.shift * dd + h.lift) = h.shift * dd + h.lift := w_in (by omega)
  have w5 : ∀ L f, 0 ≤ L ∧ L ≤ 1000 → f ≤ h.low.length → IntKind.i64.wrap (h.shift * dd + L + slU h a g b k f + h.slide) = h.shift * dd + L + slU h a g b k f + h.slide := fun L f hL hf => by
    have h1 := slU_bound hk (a := a) (b := b) (g := g) (k := k) (f := f)
    have h2 := hk.slide
    exact w_in (by omega)
  replace w5 := Hid.mk w5
  have hlf0 := Hid.mk hlf
  by_cases hbo : bothD a b
  case neg =>
    have hst : StepOk h a g b k := hok.out.2 fun hh => hbo hh.1
    rw [stepR_ok hst, hsc.out, if_neg (fun hh => hbo hh.1), Int.add_zero]
    unfold bothD at hbo
    clear hst hsh hlf hdd hok hsc
    by_cases h1 : 0 < a.down.length
    · have c5 : (0 : Int) < (a.down.length : Int) := by omega
      have c6 : ¬ (0 : Int) < (b.down.length : Int) := by omega
      clear hbo h1
      repeat' (with_reducible first | refine x_ops ?_ | refine wk ?_ | ((first | refine gd1 ?_ ?_ | refine gd2 ?_ ?_ | refine gd3 ?_ ?_) <;> (first | exact @False.elim _ | intro hc)))
      refine x_loopF w_theorboref06_step_p12 (by kernel_rfl) h.low.length (fun f t => t 16 = vint ((f + 1 : Nat) : Int) ∧ t 15 = vint (h.shift * dd + slU h a g b k f)) ?_ ?_
      · exact ⟨vv, by (simp only [go_sem, Nat.reduceAdd, Nat.reduceEqDiff, Nat.reduceLT, Nat.reduceLeDiff, Nat.reduceMul, Nat.reduceSub, Nat.reducePow, Nat.reduceDiv, Nat.reduceMod, Nat.reduceBEq, Int.reduceBEq, Int.reduceLT, reduceIte, slU, Int.add_zero]); first | done | rfl⟩
      rintro f t2 hf ⟨h16, h15⟩
      by_cases hfl : f < h.low.length
      · have c7 : ((f + 1 : Nat) : Int) ≤ (h.low.length : Int) := by omega
        have w7 : IntKind.i64.wrap (((f + 1 : Nat) : Int) + 1) = ((f + 1 + 1 : Nat) : Int) := w_add1 (by omega)
        have w8 : IntKind.i64.wrap (h.shift * dd + slU h a g b k f + h.slide) = h.shift * dd + slU h a g b k f + h.slide := (by have := w5.out 0 f (by omega) (by omega); rwa [Int.add_zero] at this)
        have P1 := PL1 ((f + 1 : Nat) : Int)
        have P2 := PL2 ((f + 1 : Nat) : Int)
        have eP1 : plU a.down g.fingers ((f + 1 : Nat) : Int) a.down.length = plF a g f := rfl
        have eP2 : plU b.down k.fingers ((f + 1 : Nat) : Int) b.down.length = plF b k f := rfl
        rw [eP1] at P1
        rw [eP2] at P2
        have hU : slU h a g b k (f + 1) = slU h a g b k f + slT h a g b k f := rfl
        have hT : slT h a g b k f = if 0 < (plF a g f).length ∧ 0 < (plF b k f).length ∧ cmnB (plF a g f) (plF b k f) = false then h.slide else 0 := rfl
        have l1 := plU_len a.down g.fingers ((f + 1 : Nat) : Int) a.down.length
        have l2 := plU_len b.down k.fingers ((f + 1 : Nat) : Int) b.down.length
        rw [eP1] at l1
        rw [eP2] at l2
        have fa1 := fa.1
        have fb1 := fb.1
        have CP := common_fn (plF a g f) (plF b k f) (by omega) (by omega)
        clear eP1 eP2 l1 l2 fa1 fb1 PL1 PL2 w5
        generalize hu : slU h a g b k f = u at *
        generalize hu2 : slU h a g b k (f + 1) = u2 at *
        generalize hc1 : cmnB (plF a g f) (plF b k f) = cc at *
        replace hu := Hid.mk hu
        replace hu2 := Hid.mk hu2
        replace hc1 := Hid.mk hc1
        have zero : ¬ (0 < (plF a g f).length ∧ 0 < (plF b k f).length ∧ cc = false) → u2 = u := fun hh => by rw [if_neg hh] at hT; rw [hU, hT]; omega
        have some' : (0 < (plF a g f).length ∧ 0 < (plF b k f).length ∧ cc = false) → u2 = u + h.slide := fun hh => by rw [if_pos hh] at hT; rw [hU, hT]
        replace zero := Hid.mk zero
        replace some' := Hid.mk some'
        clear hU hT
        unfold tPs at CP
        by_cases z1 : 0 < (plF a g f).length
        · have z1' : (0 : Int) < ((plF a g f).length : Int) := by omega
          by_cases z2 : 0 < (plF b k f).length
          · have z2' : (0 : Int) < ((plF b k f).length : Int) := by omega
            cases cc
            · have e2 := some'.out ⟨z1, z2, rfl⟩
              replace e2 := Hid.mk e2
              clear z1 z2
              repeat' (with_reducible first | refine x_ops ?_ | refine wk ?_ | (with_reducible refine xc (P1) ?_) | (with_reducible refine xc (P2) ?_) | (with_reducible refine xc (CP) ?_) | ((first | refine gd1 ?_ ?_ | refine gd2 ?_ ?_ | refine gd3 ?_ ?_) <;> (first | exact @False.elim _ | intro hc)))
              exact nf (by omega) ⟨vv, by rw [hu2.out, e2.out, ← Int.add_assoc]; exact vv⟩ rfl
            · have e2 := zero.out (fun hh => by cases hh.2.2)
              replace e2 := Hid.mk e2
              clear z1 z2
              repeat' (with_reducible first | refine x_ops ?_ | refine wk ?_ | (with_reducible refine xc (P1) ?_) | (with_reducible refine xc (P2) ?_) | (with_reducible refine xc (CP) ?_) | ((first | refine gd1 ?_ ?_ | refine gd2 ?_ ?_ | refine gd3 ?_ ?_) <;> (first | exact @False.elim _ | intro hc)))
              exact nf (by omega) ⟨vv, by rw [hu2.out, e2.out]; exact vw⟩ rfl
          · have z2' : ¬ (0 : Int) < ((plF b k f).length : Int) := by omega
            have e2 := zero.out (fun hh => z2 hh.2.1)
            replace e2 := Hid.mk e2
            clear z1 z2
            repeat' (with_reducible first | refine x_ops ?_ | refine wk ?_ | (with_reducible refine xc (P1) ?_) | (with_reducible refine xc (P2) ?_) | ((first | refine gd1 ?_ ?_ | refine gd2 ?_ ?_ | refine gd3 ?_ ?_) <;> (first | exact @False.elim _ | intro hc)))
            exact nf (by omega) ⟨vv, by rw [hu2.out, e2.out]; exact vw⟩ rfl
        · have z1' : ¬ (0 : Int) < ((plF a g f).length : Int) := by omega
          have e2 := zero.out (fun hh => z1 hh.1)
          replace e2 := Hid.mk e2
          clear z1
          repeat' (with_reducible first | refine x_ops ?_ | refine wk ?_ | (with_reducible refine xc (P1) ?_) | (with_reducible refine xc (P2) ?_) | ((first | refine gd1 ?_ ?_ | refine gd2 ?_ ?_ | refine gd3 ?_ ?_) <;> (first | exact @False.elim _ | intro hc)))
          exact nf (by omega) ⟨vv, by rw [hu2.out, e2.out]; exact vw⟩ rfl
      · have hfe : f = h.low.length := by omega
        subst hfe
        have c7 : ¬ ((h.low.length + 1 : Nat) : Int) ≤ (h.low.length : Int) := by omega
        repeat' (with_reducible first | refine x_ops ?_ | refine wk ?_ | ((first | refine gd1 ?_ ?_ | refine gd2 ?_ ?_ | refine gd3 ?_ ?_) <;> (first | exact @False.elim _ | intro hc)))
        exact finV_dry rfl vv
    · have c5 : ¬ (0 : Int) < (a.down.length : Int) := by omega
      clear hbo h1
      repeat' (with_reducible first | refine x_ops ?_ | refine wk ?_ | ((first | refine gd1 ?_ ?_ | refine gd2 ?_ ?_ | refine gd3 ?_ ?_) <;> (first | exact @False.elim _ | intro hc)))
      refine x_loopF w_theorboref06_step_p12 (by kernel_rfl) h.low.length (fun f t => t 16 = vint ((f + 1 : Nat) : Int) ∧ t 15 = vint (h.shift * dd + slU h a g b k f)) ?_ ?_
      · exact ⟨vv, by (simp only [go_sem, Nat.reduceAdd, Nat.reduceEqDiff, Nat.reduceLT, Nat.reduceLeDiff, Nat.reduceMul, Nat.reduceSub, Nat.reducePow, Nat.reduceDiv, Nat.reduceMod, Nat.reduceBEq, Int.reduceBEq, Int.reduceLT, reduceIte, slU, Int.add_zero]); first | done | rfl⟩
      rintro f t2 hf ⟨h16, h15⟩
      by_cases hfl : f < h.low.length
      · have c7 : ((f + 1 : Nat) : Int) ≤ (h.low.length : Int) := by omega
        have w7 : IntKind.i64.wrap (((f + 1 : Nat) : Int) + 1) = ((f + 1 + 1 : Nat) : Int) := w_add1 (by omega)
        have w8 : IntKind.i64.wrap (h.shift * dd + slU h a g b k f + h.slide) = h.shift * dd + slU h a g b k f + h.slide := (by have := w5.out 0 f (by omega) (by omega); rwa [Int.add_zero] at this)
        have P1 := PL1 ((f + 1 : Nat) : Int)
        have P2 := PL2 ((f + 1 : Nat) : Int)
        have eP1 : plU a.down g.fingers ((f + 1 : Nat) : Int) a.down.length = plF a g f := rfl
        have eP2 : plU b.down k.fingers ((f + 1 : Nat) : Int) b.down.length = plF b k f := rfl
        rw [eP1] at P1
        rw [eP2] at P2
        have hU : slU h a g b k (f + 1) = slU h a g b k f + slT h a g b k f := rfl
        have hT : slT h a g b k f = if 0 < (plF a g f).length ∧ 0 < (plF b k f).length ∧ cmnB (plF a g f) (plF b k f) = false then h.slide else 0 := rfl
        have l1 := plU_len a.down g.fingers ((f + 1 : Nat) : Int) a.down.length
        have l2 := plU_len b.down k.fingers ((f + 1 : Nat) : Int) b.down.length
        rw [eP1] at l1
        rw [eP2] at l2
        have fa1 := fa.1
        have fb1 := fb.1
        have CP := common_fn (plF a g f) (plF b k f) (by omega) (by omega)
        clear eP1 eP2 l1 l2 fa1 fb1 PL1 PL2 w5
        generalize hu : slU h a g b k f = u at *
        generalize hu2 : slU h a g b k (f + 1) = u2 at *
        generalize hc1 : cmnB (plF a g f) (plF b k f) = cc at *
        replace hu := Hid.mk hu
        replace hu2 := Hid.mk hu2
        replace hc1 := Hid.mk hc1
        have zero : ¬ (0 < (plF a g f).length ∧ 0 < (plF b k f).length ∧ cc = false) → u2 = u := fun hh => by rw [if_neg hh] at hT; rw [hU, hT]; omega
        have some' : (0 < (plF a g f).length ∧ 0 < (plF b k f).length ∧ cc = false) → u2 = u + h.slide := fun hh => by rw [if_pos hh] at hT; rw [hU, hT]
        replace zero := Hid.mk zero
        replace some' := Hid.mk some'
        clear hU hT
        unfold tPs at CP
        by_cases z1 : 0 < (plF a g f).length
        · have z1' : (0 : Int) < ((plF a g f).length : Int) := by omega
          by_cases z2 : 0 < (plF b k f).length
          · have z2' : (0 : Int) < ((plF b k f).length : Int) := by omega
            cases cc
            · have e2 := some'.out ⟨z1, z2, rfl⟩
              replace e2 := Hid.mk e2
              clear z1 z2
              repeat' (with_reducible first | refine x_ops ?_ | refine wk ?_ | (with_reducible refine xc (P1) ?_) | (with_reducible refine xc (P2) ?_) | (with_reducible refine xc (CP) ?_) | ((first | refine gd1 ?_ ?_ | refine gd2 ?_ ?_ | refine gd3 ?_ ?_) <;> (first | exact @False.elim _ | intro hc)))
              exact nf (by omega) ⟨vv, by rw [hu2.out, e2.out, ← Int.add_assoc]; exact vv⟩ rfl
            · have e2 := zero.out (fun hh => by cases hh.2.2)
              replace e2 := Hid.mk e2
              clear z1 z2
              repeat' (with_reducible first | refine x_ops ?_ | refine wk ?_ | (with_reducible refine xc (P1) ?_) | (with_reducible refine xc (P2) ?_) | (with_reducible refine xc (CP) ?_) | ((first | refine gd1 ?_ ?_ | refine gd2 ?_ ?_ | refine gd3 ?_ ?_) <;> (first | exact @False.elim _ | intro hc)))
              exact nf (by omega) ⟨vv, by rw [hu2.out, e2.out]; exact vw⟩ rfl
          · have z2' : ¬ (0 : Int) < ((plF b k f).length : Int) := by omega
            have e2 := zero.out (fun hh => z2 hh.2.1)
            replace e2 := Hid.mk e2
            clear z1 z2
            repeat' (with_reducible first | refine x_ops ?_ | refine wk ?_ | (with_reducible refine xc (P1) ?_) | (with_reducible refine xc (P2) ?_) | ((first | refine gd1 ?_ ?_ | refine gd2 ?_ ?_ | refine gd3 ?_ ?_) <;> (first | exact @False.elim _ | intro hc)))
            exact nf (by omega) ⟨vv, by rw [hu2.out, e2.out]; exact vw⟩ rfl
        · have z1' : ¬ (0 : Int) < ((plF a g f).length : Int) := by omega
          have e2 := zero.out (fun hh => z1 hh.1)
          replace e2 := Hid.mk e2
          clear z1
          repeat' (with_reducible first | refine x_ops ?_ | refine wk ?_ | (with_reducible refine xc (P1) ?_) | (with_reducible refine xc (P2) ?_) | ((first | refine gd1 ?_ ?_ | refine gd2 ?_ ?_ | refine gd3 ?_ ?_) <;> (first | exact @False.elim _ | intro hc)))
          exact nf (by omega) ⟨vv, by rw [hu2.out, e2.out]; exact vw⟩ rfl
      · have hfe : f = h.low.length := by omega
        subst hfe
        have c7 : ¬ ((h.low.length + 1 : Nat) : Int) ≤ (h.low.length : Int) := by omega
        repeat' (with_reducible first | refine x_ops ?_ | refine wk ?_ | ((first | refine gd1 ?_ ?_ | refine gd2 ?_ ?_ | refine gd3 ?_ ?_) <;> (first | exact @False.elim _ | intro hc)))
        exact finV_dry rfl vv
  have c5 : (0 : Int) < (a.down.length : Int) := by have := hbo.1; omega
  have c6 : (0 : Int) < (b.down.length : Int) := by have := hbo.2; omega
  by_cases hj : h.jump < dd
  · rw [stepR_no (fun hs => hok.out.1 hs ⟨hbo, hj⟩)]
    clear hsh hlf hdd hbo
    repeat' (with_reducible first | refine x_ops ?_ | refine wk ?_ | ((first | refine gd1 ?_ ?_ | refine gd2 ?_ ?_ | refine gd3 ?_ ?_) <;> (first | exact @False.elim _ | intro hc)))
    exact finV_dry rfl vv
  have hst : StepOk h a g b k := hok.out.2 fun hh => hj hh.2
  rw [stepR_ok hst, hsc.out]
  clear hst hok hsc hdd hsh hlf
  by_cases h0 : 0 < dd
  · rw [if_pos ⟨hbo, h0⟩]
    clear hbo
    repeat' (with_reducible first | refine x_ops ?_ | refine wk ?_ | ((first | refine gd1 ?_ ?_ | refine gd2 ?_ ?_ | refine gd3 ?_ ?_) <;> (first | exact @False.elim _ | intro hc)))
    refine x_loopF w_theorboref06_step_p12 (by kernel_rfl) h.low.length (fun f t => t 16 = vint ((f + 1 : Nat) : Int) ∧ t 15 = vint (h.shift * dd + h.lift + slU h a g b k f)) ?_ ?_
    · exact ⟨vv, by (simp only [go_sem, Nat.reduceAdd, Nat.reduceEqDiff, Nat.reduceLT, Nat.reduceLeDiff, Nat.reduceMul, Nat.reduceSub, Nat.reducePow, Nat.reduceDiv, Nat.reduceMod, Nat.reduceBEq, Int.reduceBEq, Int.reduceLT, reduceIte, slU, Int.add_zero]); first | done | rfl⟩
    rintro f t2 hf ⟨h16, h15⟩
    by_cases hfl : f < h.low.length
    · have c7 : ((f + 1 : Nat) : Int) ≤ (h.low.length : Int) := by omega
      have w7 : IntKind.i64.wrap (((f + 1 : Nat) : Int) + 1) = ((f + 1 + 1 : Nat) : Int) := w_add1 (by omega)
      have w8 : IntKind.i64.wrap (h.shift * dd + h.lift + slU h a g b k f + h.slide) = h.shift * dd + h.lift + slU h a g b k f + h.slide := w5.out _ f hlf0.out (by omega)
      have P1 := PL1 ((f + 1 : Nat) : Int)
      have P2 := PL2 ((f + 1 : Nat) : Int)
      have eP1 : plU a.down g.fingers ((f + 1 : Nat) : Int) a.down.length = plF a g f := rfl
      have eP2 : plU b.down k.fingers ((f + 1 : Nat) : Int) b.down.length = plF b k f := rfl
      rw [eP1] at P1
      rw [eP2] at P2
      have hU : slU h a g b k (f + 1) = slU h a g b k f + slT h a g b k f := rfl
      have hT : slT h a g b k f = if 0 < (plF a g f).length ∧ 0 < (plF b k f).length ∧ cmnB (plF a g f) (plF b k f) = false then h.slide else 0 := rfl
      have l1 := plU_len a.down g.fingers ((f + 1 : Nat) : Int) a.down.length
      have l2 := plU_len b.down k.fingers ((f + 1 : Nat) : Int) b.down.length
      rw [eP1] at l1
      rw [eP2] at l2
      have fa1 := fa.1
      have fb1 := fb.1
      have CP := common_fn (plF a g f) (plF b k f) (by omega) (by omega)
      clear eP1 eP2 l1 l2 fa1 fb1 PL1 PL2 w5
      generalize hu : slU h a g b k f = u at *
      generalize hu2 : slU h a g b k (f + 1) = u2 at *
      generalize hc1 : cmnB (plF a g f) (plF b k f) = cc at *
      replace hu := Hid.mk hu
      replace hu2 := Hid.mk hu2
      replace hc1 := Hid.mk hc1
      have zero : ¬ (0 < (plF a g f).length ∧ 0 < (plF b k f).length ∧ cc = false) → u2 = u := fun hh => by rw [if_neg hh] at hT; rw [hU, hT]; omega
      have some' : (0 < (plF a g f).length ∧ 0 < (plF b k f).length ∧ cc = false) → u2 = u + h.slide := fun hh => by rw [if_pos hh] at hT; rw [hU, hT]
      replace zero := Hid.mk zero
      replace some' := Hid.mk some'
      clear hU hT
      unfold tPs at CP
      by_cases z1 : 0 < (plF a g f).length
      · have z1' : (0 : Int) < ((plF a g f).length : Int) := by omega
        by_cases z2 : 0 < (plF b k f).length
        · have z2' : (0 : Int) < ((plF b k f).length : Int) := by omega
          cases cc
          · have e2 := some'.out ⟨z1, z2, rfl⟩
            replace e2 := Hid.mk e2
            clear z1 z2
            repeat' (with_reducible first | refine x_ops ?_ | refine wk ?_ | (with_reducible refine xc (P1) ?_) | (with_reducible refine xc (P2) ?_) | (with_reducible refine xc (CP) ?_) | ((first | refine gd1 ?_ ?_ | refine gd2 ?_ ?_ | refine gd3 ?_ ?_) <;> (first | exact @False.elim _ | intro hc)))
            exact nf (by omega) ⟨vv, by rw [hu2.out, e2.out, ← Int.add_assoc]; exact vv⟩ rfl
          · have e2 := zero.out (fun hh => by cases hh.2.2)
            replace e2 := Hid.mk e2
            clear z1 z2
            repeat' (with_reducible first | refine x_ops ?_ | refine wk ?_ | (with_reducible refine xc (P1) ?_) | (with_reducible refine xc (P2) ?_) | (with_reducible refine xc (CP) ?_) | ((first | refine gd1 ?_ ?_ | refine gd2 ?_ ?_ | refine gd3 ?_ ?_) <;> (first | exact @False.elim _ | intro hc)))
            exact nf (by omega) ⟨vv, by rw [hu2.out, e2.out]; exact vw⟩ rfl
        · have z2' : ¬ (0 : Int) < ((plF b k f).length : Int) := by omega
          have e2 := zero.out (fun hh => z2 hh.2.1)
          replace e2 := Hid.mk e2
          clear z1 z2
          repeat' (with_reducible first | refine x_ops ?_ | refine wk ?_ | (with_reducible refine xc (P1) ?_) | (with_reducible refine xc (P2) ?_) | ((first | refine gd1 ?_ ?_ | refine gd2 ?_ ?_ | refine gd3 ?_ ?_) <;> (first | exact @False.elim _ | intro hc)))
          exact nf (by omega) ⟨vv, by rw [hu2.out, e2.out]; exact vw⟩ rfl
      · have z1' : ¬ (0 : Int) < ((plF a g f).length : Int) := by omega
        have e2 := zero.out (fun hh => z1 hh.1)
        replace e2 := Hid.mk e2
        clear z1
        repeat' (with_reducible first | refine x_ops ?_ | refine wk ?_ | (with_reducible refine xc (P1) ?_) | (with_reducible refine xc (P2) ?_) | ((first | refine gd1 ?_ ?_ | refine gd2 ?_ ?_ | refine gd3 ?_ ?_) <;> (first | exact @False.elim _ | intro hc)))
        exact nf (by omega) ⟨vv, by rw [hu2.out, e2.out]; exact vw⟩ rfl
    · have hfe : f = h.low.length := by omega
      subst hfe
      have c7 : ¬ ((h.low.length + 1 : Nat) : Int) ≤ (h.low.length : Int) := by omega
      repeat' (with_reducible first | refine x_ops ?_ | refine wk ?_ | ((first | refine gd1 ?_ ?_ | refine gd2 ?_ ?_ | refine gd3 ?_ ?_) <;> (first | exact @False.elim _ | intro hc)))
      exact finV_dry rfl vv
  · rw [if_neg fun hh => h0 hh.2, Int.add_zero]
    clear hbo
    repeat' (with_reducible first | refine x_ops ?_ | refine wk ?_ | ((first | refine gd1 ?_ ?_ | refine gd2 ?_ ?_ | refine gd3 ?_ ?_) <;> (first | exact @False.elim _ | intro hc)))
    refine x_loopF w_theorboref06_step_p12 (by kernel_rfl) h.low.length (fun f t => t 16 = vint ((f + 1 : Nat) : Int) ∧ t 15 = vint (h.shift * dd + slU h a g b k f)) ?_ ?_
    · exact ⟨vv, by (simp only [go_sem, Nat.reduceAdd, Nat.reduceEqDiff, Nat.reduceLT, Nat.reduceLeDiff, Nat.reduceMul, Nat.reduceSub, Nat.reducePow, Nat.reduceDiv, Nat.reduceMod, Nat.reduceBEq, Int.reduceBEq, Int.reduceLT, reduceIte, slU, Int.add_zero]); first | done | rfl⟩
    rintro f t2 hf ⟨h16, h15⟩
    by_cases hfl : f < h.low.length
    · have c7 : ((f + 1 : Nat) : Int) ≤ (h.low.length : Int) := by omega
      have w7 : IntKind.i64.wrap (((f + 1 : Nat) : Int) + 1) = ((f + 1 + 1 : Nat) : Int) := w_add1 (by omega)
      have w8 : IntKind.i64.wrap (h.shift * dd + slU h a g b k f + h.slide) = h.shift * dd + slU h a g b k f + h.slide := (by have := w5.out 0 f (by omega) (by omega); rwa [Int.add_zero] at this)
      have P1 := PL1 ((f + 1 : Nat) : Int)
      have P2 := PL2 ((f + 1 : Nat) : Int)
      have eP1 : plU a.down g.fingers ((f + 1 : Nat) : Int) a.down.length = plF a g f := rfl
      have eP2 : plU b.down k.fingers ((f + 1 : Nat) : Int) b.down.length = plF b k f := rfl
      rw [eP1] at P1
      rw [eP2] at P2
      have hU : slU h a g b k (f + 1) = slU h a g b k f + slT h a g b k f := rfl
      have hT : slT h a g b k f = if 0 < (plF a g f).length ∧ 0 < (plF b k f).length ∧ cmnB (plF a g f) (plF b k f) = false then h.slide else 0 := rfl
      have l1 := plU_len a.down g.fingers ((f + 1 : Nat) : Int) a.down.length
      have l2 := plU_len b.down k.fingers ((f + 1 : Nat) : Int) b.down.length
      rw [eP1] at l1
      rw [eP2] at l2
      have fa1 := fa.1
      have fb1 := fb.1
      have CP := common_fn (plF a g f) (plF b k f) (by omega) (by omega)
      clear eP1 eP2 l1 l2 fa1 fb1 PL1 PL2 w5
      generalize hu : slU h a g b k f = u at *
      generalize hu2 : slU h a g b k (f + 1) = u2 at *
      generalize hc1 : cmnB (plF a g f) (plF b k f) = cc at *
      replace hu := Hid.mk hu
      replace hu2 := Hid.mk hu2
      replace hc1 := Hid.mk hc1
      have zero : ¬ (0 < (plF a g f).length ∧ 0 < (plF b k f).length ∧ cc = false) → u2 = u := fun hh => by rw [if_neg hh] at hT; rw [hU, hT]; omega
      have some' : (0 < (plF a g f).length ∧ 0 < (plF b k f).length ∧ cc = false) → u2 = u + h.slide := fun hh => by rw [if_pos hh] at hT; rw [hU, hT]
      replace zero := Hid.mk zero
      replace some' := Hid.mk some'
      clear hU hT
      unfold tPs at CP
      by_cases z1 : 0 < (plF a g f).length
      · have z1' : (0 : Int) < ((plF a g f).length : Int) := by omega
        by_cases z2 : 0 < (plF b k f).length
        · have z2' : (0 : Int) < ((plF b k f).length : Int) := by omega
          cases cc
          · have e2 := some'.out ⟨z1, z2, rfl⟩
            replace e2 := Hid.mk e2
            clear z1 z2
            repeat' (with_reducible first | refine x_ops ?_ | refine wk ?_ | (with_reducible refine xc (P1) ?_) | (with_reducible refine xc (P2) ?_) | (with_reducible refine xc (CP) ?_) | ((first | refine gd1 ?_ ?_ | refine gd2 ?_ ?_ | refine gd3 ?_ ?_) <;> (first | exact @False.elim _ | intro hc)))
            exact nf (by omega) ⟨vv, by rw [hu2.out, e2.out, ← Int.add_assoc]; exact vv⟩ rfl
          · have e2 := zero.out (fun hh => by cases hh.2.2)
            replace e2 := Hid.mk e2
            clear z1 z2
            repeat' (with_reducible first | refine x_ops ?_ | refine wk ?_ | (with_reducible refine xc (P1) ?_) | (with_reducible refine xc (P2) ?_) | (with_reducible refine xc (CP) ?_) | ((first | refine gd1 ?_ ?_ | refine gd2 ?_ ?_ | refine gd3 ?_ ?_) <;> (first | exact @False.elim _ | intro hc)))
            exact nf (by omega) ⟨vv, by rw [hu2.out, e2.out]; exact vw⟩ rfl
        · have z2' : ¬ (0 : Int) < ((plF b k f).length : Int) := by omega
          have e2 := zero.out (fun hh => z2 hh.2.1)
          replace e2 := Hid.mk e2
          clear z1 z2
          repeat' (with_reducible first | refine x_ops ?_ | refine wk ?_ | (with_reducible refine xc (P1) ?_) | (with_reducible refine xc (P2) ?_) | ((first | refine gd1 ?_ ?_ | refine gd2 ?_ ?_ | refine gd3 ?_ ?_) <;> (first | exact @False.elim _ | intro hc)))
          exact nf (by omega) ⟨vv, by rw [hu2.out, e2.out]; exact vw⟩ rfl
      · have z1' : ¬ (0 : Int) < ((plF a g f).length : Int) := by omega
        have e2 := zero.out (fun hh => z1 hh.1)
        replace e2 := Hid.mk e2
        clear z1
        repeat' (with_reducible first | refine x_ops ?_ | refine wk ?_ | (with_reducible refine xc (P1) ?_) | (with_reducible refine xc (P2) ?_) | ((first | refine gd1 ?_ ?_ | refine gd2 ?_ ?_ | refine gd3 ?_ ?_) <;> (first | exact @False.elim _ | intro hc)))
        exact nf (by omega) ⟨vv, by rw [hu2.out, e2.out]; exact vw⟩ rfl
    · have hfe : f = h.low.length := by omega
      subst hfe
      have c7 : ¬ ((h.low.length + 1 : Nat) : Int) ≤ (h.low.length : Int) := by omega
      repeat' (with_reducible first | refine x_ops ?_ | refine wk ?_ | ((first | refine gd1 ?_ ?_ | refine gd2 ?_ ?_ | refine gd3 ?_ ?_) <;> (first | exact @False.elim _ | intro hc)))
      exact finV_dry rfl vv
end Go.Proofs.Ytojjdkoglhecbaa
