/- Fits of the reference says what fits of the program says. -/
import Derived.Test.YtojjdkoglhecbaaJ5
namespace Go.Proofs.Ytojjdkoglhecbaa
open Go.RowKit
set_option linter.unusedSimpArgs false
set_option linter.unusedVariables false

/-- A grip that fits, as the reference has it. -/
structure RFit (h : Hand) (c : Chord) (g : Grip) : Prop where
  pos : 1 ≤ g.pos ∧ g.pos ≤ h.top
  len : g.fingers.length = c.down.length
  rch : ∀ i, i < c.down.length → rrchB h g.pos (g.fingers.getD i 0) (c.down.getD i (0, 0)).2 = true
  apt : ∀ i, i < c.down.length → ∀ k, k < i → AptP h c k i (g.fingers.getD k 0) (g.fingers.getD i 0)
theorem crs_lt {c : Chord} (hc : ChordOk c) {i : Nat} : ∀ {j : Nat}, i < j → j < c.down.length → (c.down.getD i (0, 0)).1 < (c.down.getD j (0, 0)).1
  | 0, h, _ => by omega
  | j + 1, h, hj => by
    have h1 := hc.rise j hj
    rcases Nat.lt_or_ge i j with h2 | h2
    · have := crs_lt hc h2 (by omega); omega
    · have : i = j := by omega
      subst this; exact h1
theorem rfit_iff {h : Hand} (hk : HandOk h) {c : Chord} (hc : ChordOk c) {g : Grip} : RFit h c g ↔ FitG h c g := by
  constructor
  · intro hr
    have hfin : ∀ i, i < c.down.length → (1 ≤ g.fingers.getD i 0 ∧ g.fingers.getD i 0 ≤ h.low.length) ∧ rchB h g.pos (g.fingers.getD i 0 - 1).toNat (c.down.getD i (0, 0)).2 = true := fun i hi => by
      have := hr.rch i hi
      rw [rrchB, Bool.and_eq_true, Bool.and_eq_true, decide_eq_true_eq, decide_eq_true_eq] at this
      exact this
    refine ⟨hr.pos, hr.len, fun i hi => (hfin i hi).1, fun i hi => (hfin i hi).2, fun i hi k hki => ?_, fun f hf => ?_⟩
    · obtain ⟨h1, h2, h3⟩ := hr.apt i hi k hki
      have h4 := crs_lt hc hki hi
      rw [agrB]
      split
      · rename_i h5; rw [decide_eq_true_eq]; exact h1 h5
      · split
        · rename_i h5; rw [decide_eq_true_eq]; exact h2 h5
        · rename_i h5 h6
          try rw [if_pos h4]
          rw [decide_eq_true_eq]
          by_cases e : g.fingers.getD k 0 = g.fingers.getD i 0
          · omega
          · have := (h3 (by omega)).1 e; omega
    · intro h1 h2
      obtain ⟨o1, o2, o3⟩ := lsF_ok h1
      have hlt : fsF g.fingers f < lsF g.fingers f := by omega
      have h4 := fsF_first h1
      have hb := hr.len
      obtain ⟨a1, a2, a3⟩ := hr.apt (lsF g.fingers f) (by omega) (fsF g.fingers f) hlt
      rw [h4, o3] at a1 a2 a3
      have heq : (c.down.getD (fsF g.fingers f) (0, 0)).2 = (c.down.getD (lsF g.fingers f) (0, 0)).2 := by
        rcases Int.lt_trichotomy (c.down.getD (fsF g.fingers f) (0, 0)).2 (c.down.getD (lsF g.fingers f) (0, 0)).2 with h5 | h5 | h5
        · have := a1 h5; omega
        · exact h5
        · have := a2 h5; omega
      obtain ⟨b1, b2, b3⟩ := (a3 heq).2 rfl
      rw [show (((f + 1 : Nat) : Int) - 1).toNat = f by omega] at b1
      exact ⟨b1, heq, b2, b3⟩
  · intro hs
    refine ⟨hs.pos, hs.len, fun i hi => ?_, fun i hi k hki => ?_⟩
    · rw [rrchB, decide_eq_true (hs.fin i hi).1, decide_eq_true (hs.fin i hi).2, hs.rch i hi]; rfl
    · have h1 := hs.agr i hi k hki
      have h4 := crs_lt hc hki hi
      rw [agrB] at h1
      refine ⟨fun h5 => ?_, fun h5 => ?_, fun h5 => ?_⟩
      · rw [if_pos h5, decide_eq_true_eq] at h1; exact h1
      · rw [if_neg (by omega), if_pos h5, decide_eq_true_eq] at h1; exact h1
      · rw [if_neg (by omega), if_neg (by omega), if_pos h4, decide_eq_true_eq] at h1
        refine ⟨fun hne => by omega, fun heq => ?_⟩
        have hfk := hs.fin k (by omega)
        have hlen := hs.len
        obtain ⟨f, hf⟩ : ∃ f : Nat, g.fingers.getD k 0 = ((f + 1 : Nat) : Int) := ⟨(g.fingers.getD k 0 - 1).toNat, by omega⟩
        have hfi : g.fingers.getD i 0 = ((f + 1 : Nat) : Int) := by omega
        have hfn : f < h.low.length := by omega
        have hfs : fsF g.fingers f < g.fingers.length := (gI_lt 0).2 ⟨k, by omega, by rw [hf]; simp⟩
        have hle : fsF g.fingers f ≤ k := by
          rcases Nat.lt_or_ge k (fsF g.fingers f) with h6 | h6
          · exact absurd hf (fsF_before h6)
          · exact h6
        have hge : i ≤ lsF g.fingers f := by
          rcases Nat.lt_or_ge (lsF g.fingers f) i with h6 | h6
          · exact absurd hfi (lastU_after (by omega) h6 (by omega))
          · exact h6
        obtain ⟨o1, o2, o3⟩ := lsF_ok hfs
        obtain ⟨b1, b2, b3, b4⟩ := hs.spn f hfn hfs (by omega)
        have same : ∀ a b, a < b → b < c.down.length → g.fingers.getD a 0 = g.fingers.getD b 0 → (c.down.getD a (0, 0)).2 = (c.down.getD b (0, 0)).2 := fun a b hab hb he => by
          have h7 := hs.agr b hb a hab
          rw [agrB] at h7
          rcases Int.lt_trichotomy (c.down.getD a (0, 0)).2 (c.down.getD b (0, 0)).2 with h8 | h8 | h8
          · rw [if_pos h8, decide_eq_true_eq] at h7; omega
          · exact h8
          · rw [if_neg (by omega), if_pos h8, decide_eq_true_eq] at h7; omega
        have e1 : (c.down.getD (fsF g.fingers f) (0, 0)).2 = (c.down.getD k (0, 0)).2 := by
          rcases Nat.lt_or_ge (fsF g.fingers f) k with h6 | h6
          · exact same _ _ h6 (by omega) ((fsF_first hfs).trans hf.symm)
          · rw [Nat.le_antisymm hle h6]
        have m1 : (c.down.getD (fsF g.fingers f) (0, 0)).1 ≤ (c.down.getD k (0, 0)).1 := by
          rcases Nat.lt_or_ge (fsF g.fingers f) k with h6 | h6
          · have := crs_lt hc h6 (by omega); omega
          · rw [Nat.le_antisymm hle h6]; omega
        have m2 : (c.down.getD i (0, 0)).1 ≤ (c.down.getD (lsF g.fingers f) (0, 0)).1 := by
          rcases Nat.lt_or_ge i (lsF g.fingers f) with h6 | h6
          · have := crs_lt hc h6 (by omega); omega
          · rw [Nat.le_antisymm hge h6]; omega
        rw [hf, show (((f + 1 : Nat) : Int) - 1).toNat = f by omega]
        refine ⟨b1, fun o ho hoo => b3 o ho ⟨by omega, by omega⟩, fun j h6 h7 h8 => b4 j (by omega) (by omega) (by omega)⟩

set_option maxHeartbeats 2000000 in
theorem rfits_fn (h : Hand) (hk : HandOk h) (c : Chord) (hc : ChordOk c) (hf : FitC c) (g : Grip) (hg : g.fingers.length ≤ 17592186044416) : Fn Try.prog Gd 80 [h.val, c.val, g.val] (vbool (fitB h c g)) := by
  refine Fn.of_vx0 k_theorboref06_Fits (by simp) (by rw [V.pures, pure_hand, V.pures, pure_chord, V.pures, pure_grip]; rfl) ?_
  have hb1 := hf.1
  have n4 := hk.n4
  have ht := hk.top
  have fb : ∀ {b : Bool}, (b = true ↔ RFit h c g) → Value.bool b = Value.bool (fitB h c g) := fun {b} hb => by
    rw [rfit_iff hk hc] at hb
    congr 1
    cases e : fitB h c g
    · cases b
      · rfl
      · rw [fit_true.2 (hb.1 rfl)] at e; cases e
    · exact hb.2 (fit_true.1 e)
  have bad : Hid (¬ RFit h c g → Value.bool false = Value.bool (fitB h c g)) := ⟨fun hn => fb ⟨fun h => (by cases h), fun h => absurd h hn⟩⟩
  have good : Hid (RFit h c g → Value.bool true = Value.bool (fitB h c g)) := ⟨fun hn => fb ⟨fun _ => hn, fun _ => rfl⟩⟩
  clear fb
  generalize fitB h c g = B at bad good ⊢
  have R1 := fun v fret hp hf => rreach_fn h hk g.pos v fret hp hf
  have A1 := fun i k hik hkl f g' hv => rapart_fn h hk c hf i k hik hkl f g' hv
  unfold Hand.val at R1
  unfold Hand.val Chord.val Chord.cells at A1
  unfold c_theorboref06_Fits Hand.val Chord.val Chord.cells Grip.val Grip.cells
  by_cases p1 : g.pos < 1
  · repeat' (with_reducible first | refine x_ops ?_ | refine wk ?_ | ((first | refine gd1 ?_ ?_ | refine gd2 ?_ ?_ | refine gd3 ?_ ?_) <;> (first | exact @False.elim _ | intro hc)))
    exact finV_lit vv (bad.out fun hs => by have := hs.pos; omega)
  by_cases p2 : h.top < g.pos
  · repeat' (with_reducible first | refine x_ops ?_ | refine wk ?_ | ((first | refine gd1 ?_ ?_ | refine gd2 ?_ ?_ | refine gd3 ?_ ?_) <;> (first | exact @False.elim _ | intro hc)))
    exact finV_lit vv (bad.out fun hs => by have := hs.pos; omega)
  by_cases hlen : g.fingers.length = c.down.length
  case neg =>
    have e1 : ((g.fingers.length : Int) == (c.down.length : Int)) = false := by simp; omega
    repeat' (with_reducible first | refine x_ops ?_ | refine wk ?_ | ((first | refine gd1 ?_ ?_ | refine gd2 ?_ ?_ | refine gd3 ?_ ?_) <;> (first | exact @False.elim _ | intro hc)))
    exact finV_lit vv (bad.out fun hs => hlen hs.len)
  have e1 : ((g.fingers.length : Int) == (c.down.length : Int)) = true := by rw [hlen]; simp
  replace hlen := Hid.mk hlen
  replace R1 := fun v fret hf => R1 v fret (by omega) hf
  repeat' (with_reducible first | refine x_ops ?_ | refine wk ?_ | ((first | refine gd1 ?_ ?_ | refine gd2 ?_ ?_ | refine gd3 ?_ ?_) <;> (first | exact @False.elim _ | intro hc)))
  refine x_loopF w_theorboref06_Fits_p11 (by kernel_rfl) c.down.length (fun k t => t 7 = vint (k : Int) ∧ ∀ i, i < k → rrchB h g.pos (g.fingers.getD i 0) (c.down.getD i (0, 0)).2 = true ∧
    ∀ k, k < i → AptP h c k i (g.fingers.getD k 0) (g.fingers.getD i 0)) ?_ ?_
  · exact ⟨vv, fun i h => by omega⟩
  rintro i t hi ⟨h7, hI⟩
  by_cases hlt : i < c.down.length
  · have hli : i < g.fingers.length := by rw [hlen.out]; exact hlt
    have g1 := ints_at hli
    have c2 : (i : Int) < (g.fingers.length : Int) := by omega
    have c3 : (i : Int) < (c.down.length : Int) := by omega
    have g2 := pls_len c.down
    have g3 := pls_at1 hlt
    have w2 := w_add1 (k := i) (by omega)
    have hfr := hc.each i hlt
    have R2 := R1 (g.fingers.getD i 0) (c.down.getD i (0, 0)).2 (by omega)
    clear hfr R1
    cases d2 : rrchB h g.pos (g.fingers.getD i 0) (c.down.getD i (0, 0)).2
    · rw [d2] at R2
      repeat' (with_reducible first | refine x_ops ?_ | refine wk ?_ | (with_reducible refine xc (R2) ?_) | ((first | refine gd1 ?_ ?_ | refine gd2 ?_ ?_ | refine gd3 ?_ ?_) <;> (first | exact @False.elim _ | intro hc)))
      exact finV_lit vv (bad.out fun hs => by rw [hs.rch i hlt] at d2; cases d2)
    rw [d2] at R2
    repeat' (with_reducible first | refine x_ops ?_ | refine wk ?_ | (with_reducible refine xc (R2) ?_) | ((first | refine gd1 ?_ ?_ | refine gd2 ?_ ?_ | refine gd3 ?_ ?_) <;> (first | exact @False.elim _ | intro hc)))
    refine x_loopF w_theorboref06_Fits_p6 (by kernel_rfl) i (fun k t => t 8 = vint (k : Int) ∧ ∀ j, j < k → AptP h c j i (g.fingers.getD j 0) (g.fingers.getD i 0)) ?_ ?_
    · exact ⟨vv, fun i h => by omega⟩
    rintro q t' hq ⟨h8, hJ⟩
    by_cases hql : q < i
    · have g4 := ints_at (l := g.fingers) (k := q) (by omega)
      have c4 : (q : Int) < (i : Int) := by omega
      have c6 : (q : Int) < (g.fingers.length : Int) := by omega
      have w3 := w_add1 (k := q) (by omega)
      have hv : 1 ≤ g.fingers.getD q 0 ∧ g.fingers.getD q 0 ≤ (h.low.length : Int) := by
        have := (hI q hql).1
        rw [rrchB, Bool.and_eq_true, Bool.and_eq_true, decide_eq_true_eq, decide_eq_true_eq] at this
        exact this.1
      have A2 := A1 q i hql hlt (g.fingers.getD q 0) (g.fingers.getD i 0) hv
      clear hv A1
      cases d3 : aptB h c q i (g.fingers.getD q 0) (g.fingers.getD i 0)
      · rw [d3] at A2
        repeat' (with_reducible first | refine x_ops ?_ | refine wk ?_ | (with_reducible refine xc (A2) ?_) | ((first | refine gd1 ?_ ?_ | refine gd2 ?_ ?_ | refine gd3 ?_ ?_) <;> (first | exact @False.elim _ | intro hc)))
        exact finV_lit vv (bad.out fun hs => by rw [apt_true.2 (hs.apt i hlt q hql)] at d3; cases d3)
      · rw [d3] at A2
        repeat' (with_reducible first | refine x_ops ?_ | refine wk ?_ | (with_reducible refine xc (A2) ?_) | ((first | refine gd1 ?_ ?_ | refine gd2 ?_ ?_ | refine gd3 ?_ ?_) <;> (first | exact @False.elim _ | intro hc)))
        refine nf (by omega) ⟨vv, fun j h => ?_⟩ rfl
        by_cases e : j = q
        · subst e; exact apt_true.1 d3
        · exact hJ j (by omega)
    · have c4 : ¬ (q : Int) < (i : Int) := by omega
      repeat' (with_reducible first | refine x_ops ?_ | refine wk ?_ | ((first | refine gd1 ?_ ?_ | refine gd2 ?_ ?_ | refine gd3 ?_ ?_) <;> (first | exact @False.elim _ | intro hc)))
      refine nf (by omega) ⟨vv, fun j h => ?_⟩ rfl
      by_cases e : j = i
      · subst e; exact ⟨d2, fun k hk => hJ k (by omega)⟩
      · exact hI j (by omega)
  · have c2 : ¬ (i : Int) < (c.down.length : Int) := by omega
    repeat' (with_reducible first | refine x_ops ?_ | refine wk ?_ | ((first | refine gd1 ?_ ?_ | refine gd2 ?_ ?_ | refine gd3 ?_ ?_) <;> (first | exact @False.elim _ | intro hc)))
    exact finV_lit vv (good.out ⟨by omega, hlen.out, fun j hj => (hI j (by omega)).1, fun j hj => (hI j (by omega)).2⟩)
end Go.Proofs.Ytojjdkoglhecbaa
