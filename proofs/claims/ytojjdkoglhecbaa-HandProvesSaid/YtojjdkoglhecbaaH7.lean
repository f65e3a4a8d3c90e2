/- Chords of the reference, on values. -/
import Derived.Test.YtojjdkoglhecbaaH6
namespace Go.Proofs.Ytojjdkoglhecbaa
open Go.RowKit
set_option linter.unusedSimpArgs false
set_option linter.unusedVariables false

theorem place_fn (c : Chord) (co : Int) (hl : c.down.length ≤ 8796093022208) : Fn Try.prog Gd 68 [c.val, vint co] (.agg [vint (plA c.down co).1, vint (plA c.down co).2]) := by
  refine Fn.of_vx0 k_theorboref06_place (by simp) (by rw [V.pures, pure_chord]; rfl) ?_
  unfold c_theorboref06_place Chord.val Chord.cells
  repeat' (with_reducible first | refine x_ops ?_ | refine wk ?_ | ((first | refine gd1 ?_ ?_ | refine gd2 ?_ ?_ | refine gd3 ?_ ?_) <;> (first | exact @False.elim _ | intro hc)))
  refine x_loopF w_theorboref06_place_p4 (by kernel_rfl) c.down.length (fun k t => t 5 = vint (k : Int) ∧ ∀ i, i < k → (c.down.getD i (0, 0)).1 ≠ co) ?_ ?_
  · exact ⟨vv, fun i h => by omega⟩
  rintro k t hk ⟨h5, hI⟩
  by_cases hlt : k < c.down.length
  · have g1 := pls_take hlt
    have g2 := pls_len c.down
    have g3 := pls_at0 hlt
    have c2 : (k : Int) < (c.down.length : Int) := by omega
    have c3 : k * 2 + 2 ≤ c.down.length * 2 := by omega
    have w2 := w_add1 (k := k) (by omega)
    repeat' (with_reducible first | refine x_ops ?_ | refine wk ?_ | ((first | refine gd1 ?_ ?_ | refine gd2 ?_ ?_ | refine gd3 ?_ ?_) <;> (first | exact @False.elim _ | intro hc)))
    · have e : plA c.down co = c.down.getD k (0, 0) := by rw [plA, fI_eq hI hlt (eq_of_beq hc)]
      rw [e]
      exact finV_dry rfl vv
    · refine nf (by omega) ⟨vv, fun i h => ?_⟩ rfl
      by_cases hi : i = k
      · subst hi; simpa using hc
      · exact hI i (by omega)
  · have c1 : ¬ ((k : Int) < (c.down.length : Int)) := by omega
    repeat' (with_reducible first | refine x_ops ?_ | refine wk ?_ | ((first | refine gd1 ?_ ?_ | refine gd2 ?_ ?_ | refine gd3 ?_ ?_) <;> (first | exact @False.elim _ | intro hc)))
    have e : plA c.down co = (0, 0) := plA_none (by rw [fI_none fun i hi => hI i (by omega)]; omega)
    rw [e]
    exact finV_dry rfl vv

/-- The courses of places. -/
def crsOf (l : List (Int × Int)) : List Int := l.map (·.1)
theorem crsOf_len (l : List (Int × Int)) : (crsOf l).length = l.length := List.length_map _
theorem crsOf_at (l : List (Int × Int)) (i : Nat) : (crsOf l).getD i 0 = (l.getD i (0, 0)).1 := by
  rw [crsOf, List.getD_eq_getElem?_getD, List.getElem?_map, List.getD_eq_getElem?_getD]
  cases l[i]? <;> rfl

set_option maxHeartbeats 2000000 in
theorem good_fn (c : Chord) (hl : FitC c) : Fn Try.prog Gd 67 [c.val] (vbool (rgtB c)) := by
  refine Fn.of_vx0 k_theorboref06_Good (by simp) (by rw [V.pures, pure_chord]; rfl) ?_
  have D1 := fun co => place_fn c co hl.1
  have A0 := ascend_fn (crsOf c.down) (by rw [crsOf_len]; exact hl.big.1)
  have A1 := ascend_fn c.held hl.big.2.1
  have A2 := ascend_fn c.opn hl.big.2.2
  have hl1 := hl.1
  have hlb := hl.big
  unfold Chord.val Chord.cells at D1
  unfold c_theorboref06_Good Chord.val Chord.cells
  repeat' (with_reducible first | refine x_ops ?_ | refine wk ?_ | ((first | refine gd1 ?_ ?_ | refine gd2 ?_ ?_ | refine gd3 ?_ ?_) <;> (first | exact @False.elim _ | intro hc)))
  refine x_loopW w_theorboref06_Good_p5 (by kernel_rfl) c.down.length (fun k t m => t 4 = vint (k : Int) ∧ (∃ tok, t 3 = .sl k ((crsOf (c.down.take k)).map vint) tok ∧ Apb m tok k 3 1) ∧ m.obj 0 = some (.box [tPs c.down, tIs c.held, tIs c.opn] 47) ∧ 0 < m.next ∧
    ∀ i, i < k → 1 ≤ (c.down.getD i (0, 0)).2 ∧ (c.down.getD i (0, 0)).2 ≤ 18) ?_ ?_
  · exact ⟨vv, ⟨.exact, vv, .inl rfl⟩, vv, by ((refine ve ?_; try exact True.intro)); try omega, fun i h => by omega⟩
  rintro k t m hk ⟨h4, ⟨tok, h3, hap⟩, hm, hn, hI⟩
  by_cases hlt : k < c.down.length
  · have g1 := pls_take hlt
    have g2 := pls_len c.down
    have g3 := pls_at0 hlt
    have g4 := pls_at1 hlt
    have c2 : (k : Int) < (c.down.length : Int) := by omega
    have c3 : k * 2 + 2 ≤ c.down.length * 2 := by omega
    have w2 := w_add1 (k := k) (by omega)
    repeat' (with_reducible first | refine x_ops ?_ | refine wk ?_ | ((first | refine gd1 ?_ ?_ | refine gd2 ?_ ?_ | refine gd3 ?_ ?_) <;> (first | exact @False.elim _ | intro hc)))
    · exact finV_lit vv (rgt_bad fun hk => by have := (hk.each k hlt).2; omega)
    · exact finV_lit vv (rgt_bad fun hk => by have := (hk.each k hlt).2; omega)
    refine x_appb (xs := (crsOf (c.down.take k)).map vint) (ys := [vint (c.down.getD k (0, 0)).1]) vw vw (hap.mono (fun _ _ _ => rfl) (Nat.le_add_right _ _)) ?_ rfl (by omega) (by unfold Go.maxLen; omega) (by show m.next + 8 < m.next + 10; omega) ?_
    · rw [List.length_map, crsOf_len, List.length_take]; omega
    intro tok' m' hap' hn' hbox hobj
    have ho := hbox 0 _ _ hm (by show ¬ 0 = m.next + 8; omega)
    replace hn' : m'.next = m.next + 10 := hn'
    clear hbox hobj hap
    repeat' (with_reducible first | refine x_ops ?_ | refine wk ?_ | ((first | refine gd1 ?_ ?_ | refine gd2 ?_ ?_ | refine gd3 ?_ ?_) <;> (first | exact @False.elim _ | intro hc)))
    refine nx (by omega) ⟨vv, ⟨tok', ?_, hap'.mono (fun _ _ _ => rfl) (Nat.le_of_eq hn')⟩, ho, by ((refine ve ?_; try exact True.intro)); omega, fun i h => ?_⟩
    · ((refine ve ?_; try exact True.intro))
      rw [crsOf, crsOf, List.take_succ_eq_append_getElem hlt, List.map_append, List.map_append, List.getD_eq_getElem?_getD, List.getElem?_eq_getElem hlt]
      rfl
    · by_cases hi : i = k
      · subst hi; omega
      · exact hI i (by omega)
  have hkl : k = c.down.length := by omega
  subst hkl
  rw [List.take_length] at h3
  have hcl := crsOf_len c.down
  have c1 : ¬ ((c.down.length : Int) < (c.down.length : Int)) := by omega
  clear hlt hk hl1 hap
  replace hI := Hid.mk hI
  have up : ∀ l : List Int, risB l = true → (∀ i, i < l.length → 1 ≤ l.getD i 0 ∧ l.getD i 0 ≤ 14) → crsB l = true := fun l h1 h2 => by
    rw [crsB, h1, allB_true fun i hi => decide_eq_true (h2 i hi)]; rfl
  have dn : ∀ l : List Int, crsB l = true → risB l = true ∧ ∀ i, i < l.length → 1 ≤ l.getD i 0 ∧ l.getD i 0 ≤ 14 := fun l h => by
    rw [crsB, Bool.and_eq_true] at h
    exact ⟨h.1, fun i hi => of_decide_eq_true (allB_iff.1 h.2 i hi)⟩
  replace up := Hid.mk up
  replace dn := Hid.mk dn
  cases a0 : crsB (crsOf c.down)
  · repeat' (with_reducible first | refine x_ops ?_ | refine wk ?_ | (with_reducible refine xc (A0) ?_) | ((first | refine gd1 ?_ ?_ | refine gd2 ?_ ?_ | refine gd3 ?_ ?_) <;> (first | exact @False.elim _ | intro hc)))
    refine finV_lit vv (rgt_bad fun hk => ?_)
    rw [up.out _ (allB_true fun i hi => ?_) (fun i hi => ?_)] at a0
    · cases a0
    · rw [crsOf_len] at hi
      rw [decide_eq_true_eq, crsOf_at, crsOf_at]; exact hk.rise i (by omega)
    · rw [crsOf_len] at hi
      rw [crsOf_at]; exact (hk.each i hi).1
  cases a1 : crsB c.held
  · repeat' (with_reducible first | refine x_ops ?_ | refine wk ?_ | (with_reducible refine xc (A0) ?_) | (with_reducible refine xc (A1) ?_) | ((first | refine gd1 ?_ ?_ | refine gd2 ?_ ?_ | refine gd3 ?_ ?_) <;> (first | exact @False.elim _ | intro hc)))
    refine finV_lit vv (rgt_bad fun hk => ?_)
    rw [up.out _ hk.rh (fun i hi => ?_)] at a1
    · cases a1
    · have h1 := hk.held i hi
      have h2 := (hk.each _ h1).1
      rwa [fI_at h1] at h2
  cases a2 : crsB c.opn
  · repeat' (with_reducible first | refine x_ops ?_ | refine wk ?_ | (with_reducible refine xc (A0) ?_) | (with_reducible refine xc (A1) ?_) | (with_reducible refine xc (A2) ?_) | ((first | refine gd1 ?_ ?_ | refine gd2 ?_ ?_ | refine gd3 ?_ ?_) <;> (first | exact @False.elim _ | intro hc)))
    refine finV_lit vv (rgt_bad fun hk => ?_)
    rw [up.out _ hk.ro (fun i hi => (hk.opn i hi).1)] at a2
    cases a2
  repeat' (with_reducible first | refine x_ops ?_ | refine wk ?_ | (with_reducible refine xc (A0) ?_) | (with_reducible refine xc (A1) ?_) | (with_reducible refine xc (A2) ?_) | ((first | refine gd1 ?_ ?_ | refine gd2 ?_ ?_ | refine gd3 ?_ ?_) <;> (first | exact @False.elim _ | intro hc)))
  replace a0 := dn.out _ a0
  replace a1 := dn.out _ a1
  replace a2 := dn.out _ a2
  have e1 : ∀ i, i < c.down.length → 1 ≤ (c.down.getD i (0, 0)).1 ∧ (c.down.getD i (0, 0)).1 ≤ 14 := fun i hi => by
    have := a0.2 i (by rw [crsOf_len]; exact hi); rwa [crsOf_at] at this
  replace a0 := Hid.mk a0
  replace a1 := Hid.mk a1
  replace a2 := Hid.mk a2
  replace e1 := Hid.mk e1
  refine x_loopF w_theorboref06_Good_p11 (by kernel_rfl) c.held.length (fun k t => t 5 = vint (k : Int) ∧ ∀ i, i < k → fI c.down (c.held.getD i 0) < c.down.length) ?_ ?_
  · exact ⟨vv, fun i h => by omega⟩
  rintro q t' hq ⟨h5, hJ⟩
  by_cases hlt : q < c.held.length
  · have g1 := ints_at hlt
    have c2 : (q : Int) < (c.held.length : Int) := by omega
    have w2 := w_add1 (k := q) (by omega)
    repeat' (with_reducible first | refine x_ops ?_ | refine wk ?_ | (with_reducible refine xc (D1 _) ?_) | ((first | refine gd1 ?_ ?_ | refine gd2 ?_ ?_ | refine gd3 ?_ ?_) <;> (first | exact @False.elim _ | intro hc)))
    · refine finV_lit vv (rgt_bad fun hk => ?_)
      have h1 := hk.held q hlt
      have h2 := (e1.out _ h1).1
      have h3 := plA_found h1
      rw [fI_at h1] at h2
      have h4 := eq_of_beq hc
      omega
    · refine nf (by omega) ⟨vv, fun i h => ?_⟩ rfl
      by_cases hi : i = q
      · subst hi
        refine Decidable.not_not.1 fun h => ?_
        rw [plA_none h] at hc
        simp at hc
      · exact hJ i (by omega)
  have hJ := Hid.mk fun i (h : i < c.held.length) => hJ i (by omega)
  have c4 : ¬ ((q : Int) < (c.held.length : Int)) := by omega
  clear hlt hq
  repeat' (with_reducible first | refine x_ops ?_ | refine wk ?_ | ((first | refine gd1 ?_ ?_ | refine gd2 ?_ ?_ | refine gd3 ?_ ?_) <;> (first | exact @False.elim _ | intro hc)))
  refine x_loopF w_theorboref06_Good_p16 (by kernel_rfl) c.opn.length (fun k t => t 6 = vint (k : Int) ∧ ∀ i, i < k → fI c.down (c.opn.getD i 0) = c.down.length) ?_ ?_
  · exact ⟨vv, fun i h => by omega⟩
  rintro p t2 hp ⟨h6, hL⟩
  by_cases hlt : p < c.opn.length
  · have g1 := ints_at hlt
    have c2 : (p : Int) < (c.opn.length : Int) := by omega
    have w2 := w_add1 (k := p) (by omega)
    repeat' (with_reducible first | refine x_ops ?_ | refine wk ?_ | (with_reducible refine xc (D1 _) ?_) | ((first | refine gd1 ?_ ?_ | refine gd2 ?_ ?_ | refine gd3 ?_ ?_) <;> (first | exact @False.elim _ | intro hc)))
    · refine finV_lit vv (rgt_bad fun hk => ?_)
      have h1 := (hk.opn p hlt).2
      rw [plA_none (by omega)] at hc
      simp at hc
    · refine nf (by omega) ⟨vv, fun i h => ?_⟩ rfl
      by_cases hi : i = p
      · subst hi
        rcases Nat.lt_or_ge (fI c.down (c.opn.getD i 0)) c.down.length with h1 | h1
        · have h2 := (e1.out _ h1).1
          have h3 := plA_found h1
          rw [fI_at h1] at h2
          have h4 : (plA c.down (c.opn.getD i 0)).1 = 0 := by simpa using hc
          omega
        · exact Nat.le_antisymm (fI_le _ _) h1
      · exact hL i (by omega)
  have hL := fun i (h : i < c.opn.length) => hL i (by omega)
  have c5 : ¬ ((p : Int) < (c.opn.length : Int)) := by omega
  clear hlt hp
  repeat' (with_reducible first | refine x_ops ?_ | refine wk ?_ | ((first | refine gd1 ?_ ?_ | refine gd2 ?_ ?_ | refine gd3 ?_ ?_) <;> (first | exact @False.elim _ | intro hc)))
  refine finV_lit vv (rgt_good ⟨fun i hi => ⟨e1.out i hi, hI.out i hi⟩, fun i hi => ?_, a1.out.1, a2.out.1, hJ.out, fun i hi => ⟨a2.out.2 i hi, hL i hi⟩⟩)
  have := of_decide_eq_true (allB_iff.1 a0.out.1 i (by rw [crsOf_len]; omega))
  rwa [crsOf_at, crsOf_at] at this
end Go.Proofs.Ytojjdkoglhecbaa
