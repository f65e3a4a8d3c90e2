/- fits of the program, on values. -/
import Derived.Test.YtojjdkoglhecbaaJ3
namespace Go.Proofs.Ytojjdkoglhecbaa
open Go.RowKit
set_option linter.unusedSimpArgs false
set_option linter.unusedVariables false

structure Grip where
  pos : Int
  fingers : List Int
def Grip.cells (g : Grip) : List V := [vint g.pos, tIs g.fingers]
def Grip.val (g : Grip) : V := .agg g.cells
theorem pure_grip (g : Grip) : g.val.pure = true := by
  rw [Grip.val, V.pure, Grip.cells]
  simp only [V.pures, pure_tIs, vint, V.pure, Bool.and_self]
/-- A grip that fits a chord. -/
structure FitG (h : Hand) (c : Chord) (g : Grip) : Prop where
  pos : 1 ≤ g.pos ∧ g.pos ≤ h.top
  len : g.fingers.length = c.down.length
  fin : ∀ i, i < c.down.length → 1 ≤ g.fingers.getD i 0 ∧ g.fingers.getD i 0 ≤ h.low.length
  rch : ∀ i, i < c.down.length → rchB h g.pos (g.fingers.getD i 0 - 1).toNat (c.down.getD i (0, 0)).2 = true
  agr : ∀ i, i < c.down.length → ∀ k, k < i → agrB (c.down.getD k (0, 0)) (c.down.getD i (0, 0)) (g.fingers.getD k 0) (g.fingers.getD i 0) = true
  spn : Spans h c g.fingers
noncomputable def fitB (h : Hand) (c : Chord) (g : Grip) : Bool := @decide (FitG h c g) (Classical.propDecidable _)
theorem fit_bad {h : Hand} {c : Chord} {g : Grip} (hn : ¬ FitG h c g) : Value.bool false = Value.bool (fitB h c g) := by unfold fitB; simp [hn]
theorem fit_true {h : Hand} {c : Chord} {g : Grip} : fitB h c g = true ↔ FitG h c g := by unfold fitB; simp

set_option maxHeartbeats 2000000 in
theorem fits_fn (h : Hand) (hk : HandOk h) (c : Chord) (hf : FitC c) (g : Grip) (hg : g.fingers.length ≤ 17592186044416) : Fn Try.prog Gd 78 [h.val, c.val, g.val] (vbool (fitB h c g)) := by
  refine Fn.of_vx0 k_hand_fits (by simp) (by rw [V.pures, pure_hand, V.pures, pure_chord, V.pures, pure_grip]; rfl) ?_
  have hb1 := hf.1
  have n4 := hk.n4
  have ht := hk.top
  have S1 := fun hl => spans_fn h hk c hf g.fingers hl
  have R1 := fun f fret hp hf => reach_fn h hk g.pos f fret hp hf
  unfold Hand.val Chord.val Chord.cells at S1
  unfold Hand.val at R1
  unfold c_hand_fits Hand.val Chord.val Chord.cells Grip.val Grip.cells
  cases d0 : (decide (1 ≤ g.pos) && decide (g.pos ≤ h.top))
  · repeat' (with_reducible first | refine x_ops ?_ | refine wk ?_ | (with_reducible refine xc (within_fn _ _ _) ?_) | ((first | refine gd1 ?_ ?_ | refine gd2 ?_ ?_ | refine gd3 ?_ ?_) <;> (first | exact @False.elim _ | intro hc)))
    refine finV_lit vv (fit_bad fun hs => ?_)
    rw [decide_eq_true hs.pos.1, decide_eq_true hs.pos.2] at d0
    cases d0
  by_cases hlen : g.fingers.length = c.down.length
  case neg =>
    have e1 : ((g.fingers.length : Int) == (c.down.length : Int)) = false := by simp; omega
    repeat' (with_reducible first | refine x_ops ?_ | refine wk ?_ | (with_reducible refine xc (within_fn _ _ _) ?_) | ((first | refine gd1 ?_ ?_ | refine gd2 ?_ ?_ | refine gd3 ?_ ?_) <;> (first | exact @False.elim _ | intro hc)))
    exact finV_lit vv (fit_bad fun hs => hlen hs.len)
  have e1 : ((g.fingers.length : Int) == (c.down.length : Int)) = true := by rw [hlen]; simp
  have S2 := S1 hlen
  replace hlen := Hid.mk hlen
  clear S1
  repeat' (with_reducible first | refine x_ops ?_ | refine wk ?_ | (with_reducible refine xc (within_fn _ _ _) ?_) | ((first | refine gd1 ?_ ?_ | refine gd2 ?_ ?_ | refine gd3 ?_ ?_) <;> (first | exact @False.elim _ | intro hc)))
  have hpos : 1 ≤ g.pos ∧ g.pos ≤ h.top := by simpa only [Bool.and_eq_true, decide_eq_true_eq] using d0
  replace R1 := fun f fret hf => R1 f fret (by omega) hf
  replace hpos := Hid.mk hpos
  clear d0 e1
  let N := c.down.length
  refine x_loopF w_hand_fits_p13 (by kernel_rfl) c.down.length (fun k t => t 28 = vint (k : Int) ∧ ∀ i, i < k → (1 ≤ g.fingers.getD i 0 ∧ g.fingers.getD i 0 ≤ h.low.length) ∧ rchB h g.pos (g.fingers.getD i 0 - 1).toNat (c.down.getD i (0, 0)).2 = true ∧
    ∀ k, k < i → agrB (c.down.getD k (0, 0)) (c.down.getD i (0, 0)) (g.fingers.getD k 0) (g.fingers.getD i 0) = true) ?_ ?_
  · exact ⟨vv, fun i h => by omega⟩
  rintro i t hi ⟨h28, hI⟩
  by_cases hlt : i < c.down.length
  · have hli : i < g.fingers.length := by rw [hlen.out]; exact hlt
    have g1 := ints_at hli
    have c2 : (i : Int) < (g.fingers.length : Int) := by omega
    have c3 : (i : Int) < (c.down.length : Int) := by omega
    have g2 := pls_len c.down
    have g3 := pls_at1 hlt
    have w2 := w_add1 (k := i) (by omega)
    have bad : Hid (∀ P : Prop, (FitG h c g → P) → ¬ P → Value.bool false = Value.bool (fitB h c g)) := ⟨fun P h1 h2 => fit_bad fun hs => h2 (h1 hs)⟩
    cases d1 : (decide (1 ≤ g.fingers.getD i 0) && decide (g.fingers.getD i 0 ≤ (h.low.length : Int)))
    · repeat' (with_reducible first | refine x_ops ?_ | refine wk ?_ | (with_reducible refine xc (within_fn _ _ _) ?_) | ((first | refine gd1 ?_ ?_ | refine gd2 ?_ ?_ | refine gd3 ?_ ?_) <;> (first | exact @False.elim _ | intro hc)))
      refine finV_lit vv (fit_bad fun hs => ?_)
      rw [decide_eq_true (hs.fin i hlt).1, decide_eq_true (hs.fin i hlt).2] at d1
      cases d1
    have hfi : 1 ≤ g.fingers.getD i 0 ∧ g.fingers.getD i 0 ≤ h.low.length := by simpa only [Bool.and_eq_true, decide_eq_true_eq] using d1
    have R2 := R1 (g.fingers.getD i 0 - 1).toNat (c.down.getD i (0, 0)).2 (by omega)
    rw [show (((g.fingers.getD i 0 - 1).toNat + 1 : Nat) : Int) = g.fingers.getD i 0 by omega] at R2
    replace hfi := Hid.mk hfi
    cases d2 : rchB h g.pos (g.fingers.getD i 0 - 1).toNat (c.down.getD i (0, 0)).2
    · rw [d2] at R2
      repeat' (with_reducible first | refine x_ops ?_ | refine wk ?_ | (with_reducible refine xc (within_fn _ _ _) ?_) | (with_reducible refine xc (R2) ?_) | ((first | refine gd1 ?_ ?_ | refine gd2 ?_ ?_ | refine gd3 ?_ ?_) <;> (first | exact @False.elim _ | intro hc)))
      exact finV_lit vv (fit_bad fun hs => by rw [hs.rch i hlt] at d2; cases d2)
    rw [d2] at R2
    clear R1
    repeat' (with_reducible first | refine x_ops ?_ | refine wk ?_ | (with_reducible refine xc (within_fn _ _ _) ?_) | (with_reducible refine xc (R2) ?_) | ((first | refine gd1 ?_ ?_ | refine gd2 ?_ ?_ | refine gd3 ?_ ?_) <;> (first | exact @False.elim _ | intro hc)))
    refine x_loopF w_hand_fits_p7 (by kernel_rfl) i (fun k t => t 54 = vint (k : Int) ∧ ∀ j, j < k → agrB (c.down.getD j (0, 0)) (c.down.getD i (0, 0)) (g.fingers.getD j 0) (g.fingers.getD i 0) = true) ?_ ?_
    · exact ⟨vv, fun i h => by omega⟩
    rintro q t' hq ⟨h54, hJ⟩
    by_cases hql : q < i
    · have g4 := ints_at (l := g.fingers) (k := q) (by omega)
      have g5 := pls_take (l := c.down) (k := q) (by omega)
      have g6 := pls_take hlt
      have c4 : (q : Int) < (i : Int) := by omega
      have c5 : (q : Int) < (c.down.length : Int) := by omega
      have c6 : (q : Int) < (g.fingers.length : Int) := by omega
      have c7 : q * 2 + 2 ≤ c.down.length * 2 := by omega
      have c8 : i * 2 + 2 ≤ c.down.length * 2 := by omega
      have w3 := w_add1 (k := q) (by omega)
      have A1 := agree_fn (c.down.getD q (0, 0)) (c.down.getD i (0, 0)) (g.fingers.getD q 0) (g.fingers.getD i 0)
      unfold plE at A1
      cases d3 : agrB (c.down.getD q (0, 0)) (c.down.getD i (0, 0)) (g.fingers.getD q 0) (g.fingers.getD i 0)
      · rw [d3] at A1
        repeat' (with_reducible first | refine x_ops ?_ | refine wk ?_ | (with_reducible refine xc (A1) ?_) | ((first | refine gd1 ?_ ?_ | refine gd2 ?_ ?_ | refine gd3 ?_ ?_) <;> (first | exact @False.elim _ | intro hc)))
        exact finV_lit vv (fit_bad fun hs => by rw [hs.agr i hlt q hql] at d3; cases d3)
      · rw [d3] at A1
        repeat' (with_reducible first | refine x_ops ?_ | refine wk ?_ | (with_reducible refine xc (A1) ?_) | ((first | refine gd1 ?_ ?_ | refine gd2 ?_ ?_ | refine gd3 ?_ ?_) <;> (first | exact @False.elim _ | intro hc)))
        refine nf (by omega) ⟨vv, fun j h => ?_⟩ rfl
        by_cases e : j = q
        · subst e; exact d3
        · exact hJ j (by omega)
    · have c4 : ¬ (q : Int) < (i : Int) := by omega
      repeat' (with_reducible first | refine x_ops ?_ | refine wk ?_ | ((first | refine gd1 ?_ ?_ | refine gd2 ?_ ?_ | refine gd3 ?_ ?_) <;> (first | exact @False.elim _ | intro hc)))
      refine nf (by omega) ⟨vv, fun j h => ?_⟩ rfl
      by_cases e : j = i
      · subst e; exact ⟨hfi.out, d2, fun k hk => hJ k (by omega)⟩
      · exact hI j (by omega)
  · have c2 : ¬ (i : Int) < (g.fingers.length : Int) := by rw [hlen.out]; omega
    cases d4 : spnB h c g.fingers
    · rw [d4] at S2
      repeat' (with_reducible first | refine x_ops ?_ | refine wk ?_ | (with_reducible refine xc (S2) ?_) | ((first | refine gd1 ?_ ?_ | refine gd2 ?_ ?_ | refine gd3 ?_ ?_) <;> (first | exact @False.elim _ | intro hc)))
      exact finV_lit vv (fit_bad fun hs => by rw [spn_true.2 hs.spn] at d4; cases d4)
    · rw [d4] at S2
      repeat' (with_reducible first | refine x_ops ?_ | refine wk ?_ | (with_reducible refine xc (S2) ?_) | ((first | refine gd1 ?_ ?_ | refine gd2 ?_ ?_ | refine gd3 ?_ ?_) <;> (first | exact @False.elim _ | intro hc)))
      refine finV_lit vv ?_
      have : FitG h c g := ⟨hpos.out, hlen.out, fun j hj => (hI j (by omega)).1, fun j hj => (hI j (by omega)).2.1, fun j hj => (hI j (by omega)).2.2, spn_true.1 d4⟩
      rw [fit_true.2 this]
end Go.Proofs.Ytojjdkoglhecbaa
