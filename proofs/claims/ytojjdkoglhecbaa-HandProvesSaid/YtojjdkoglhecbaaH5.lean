/- What a right chord is: the program, on values. -/
import Derived.Test.YtojjdkoglhecbaaH4
namespace Go.Proofs.Ytojjdkoglhecbaa
open Go.RowKit
set_option linter.unusedSimpArgs false
set_option linter.unusedVariables false

/-- A valid chord. -/
structure ChordOk (c : Chord) : Prop where
  each : ∀ i, i < c.down.length → (1 ≤ (c.down.getD i (0, 0)).1 ∧ (c.down.getD i (0, 0)).1 ≤ 14) ∧ 1 ≤ (c.down.getD i (0, 0)).2 ∧ (c.down.getD i (0, 0)).2 ≤ 18
  rise : ∀ i, i + 1 < c.down.length → (c.down.getD i (0, 0)).1 < (c.down.getD (i + 1) (0, 0)).1
  rh : risB c.held = true
  ro : risB c.opn = true
  held : ∀ i, i < c.held.length → fI c.down (c.held.getD i 0) < c.down.length
  opn : ∀ i, i < c.opn.length → (1 ≤ c.opn.getD i 0 ∧ c.opn.getD i 0 ≤ 14) ∧ fI c.down (c.opn.getD i 0) = c.down.length
noncomputable def rgtB (c : Chord) : Bool := @decide (ChordOk c) (Classical.propDecidable _)
theorem rgt_bad {c : Chord} (hn : ¬ ChordOk c) : Value.bool false = Value.bool (rgtB c) := by unfold rgtB; simp [hn]
theorem rgt_good {c : Chord} (hn : ChordOk c) : Value.bool true = Value.bool (rgtB c) := by unfold rgtB; simp [hn]
/-- The course before. -/
def lastC (l : List (Int × Int)) (k : Nat) : Int := if k = 0 then 0 else (l.getD (k - 1) (0, 0)).1
theorem lastC_succ (l : List (Int × Int)) (k : Nat) : lastC l (k + 1) = (l.getD k (0, 0)).1 := by rw [lastC, if_neg (by omega)]; rfl
theorem lt_len {c : Chord} {co : Int} : dnI c.down co < 0 ↔ ¬ fI c.down co < c.down.length := by
  rw [dnI]
  split
  · rename_i h; exact ⟨fun h' => by omega, fun h' => absurd h h'⟩
  · rename_i h; exact ⟨fun _ => h, fun _ => by omega⟩

set_option maxHeartbeats 1000000 in
theorem right_fn (c : Chord) (hl : c.down.length ≤ 4611686018427387904 ∧ c.held.length ≤ 4611686018427387904 ∧ c.opn.length ≤ 4611686018427387904) : Fn Try.prog Gd 65 [c.val] (vbool (rgtB c)) := by
  refine Fn.of_vx0 k_hand_right (by simp) (by rw [V.pures, pure_chord]; rfl) ?_
  have D1 := fun co => down_fn c co hl.1
  unfold Chord.val Chord.cells at D1
  have R1 := rising_fn c.held hl.2.1
  have R2 := rising_fn c.opn hl.2.2
  obtain ⟨hl1, hl2, hl3⟩ := hl
  unfold c_hand_right Chord.val Chord.cells
  repeat' (with_reducible first | refine x_ops ?_ | refine wk ?_ | ((first | refine gd1 ?_ ?_ | refine gd2 ?_ ?_ | refine gd3 ?_ ?_) <;> (first | exact @False.elim _ | intro hc)))
  refine x_loopW w_hand_right_p6 (by kernel_rfl) c.down.length (fun k t m => t 13 = vint (k : Int) ∧ t 3 = vint (lastC c.down k) ∧ m.obj 0 = some (.box [tPs c.down, tIs c.held, tIs c.opn] 47) ∧ 0 < m.next ∧
    ∀ i, i < k → (lastC c.down i < (c.down.getD i (0, 0)).1 ∧ (c.down.getD i (0, 0)).1 ≤ 14) ∧ 1 ≤ (c.down.getD i (0, 0)).2 ∧ (c.down.getD i (0, 0)).2 ≤ 18) ?_ ?_
  · exact ⟨vv, vv, vv, by ((refine ve ?_; try exact True.intro)); try omega, fun i h => by omega⟩
  rintro k t m hk ⟨h13, h3, hm, hn, hI⟩
  by_cases hlt : k < c.down.length
  · have g1 := pls_take hlt
    have g2 := pls_len c.down
    have c2 : (k : Int) < (c.down.length : Int) := by omega
    have c3 : k * 2 + 2 ≤ c.down.length * 2 := by omega
    have w2 := w_add1 (k := k) (by omega)
    have lst : Hid (ChordOk c → lastC c.down k < (c.down.getD k (0, 0)).1) := ⟨fun hk => by
      rw [lastC]
      split
      · have := hk.each k hlt; omega
      · have := hk.rise (k - 1) (by omega)
        rwa [Nat.sub_add_cancel (by omega)] at this⟩
    cases d1 : (decide (1 ≤ (c.down.getD k (0, 0)).2) && decide ((c.down.getD k (0, 0)).2 ≤ 18))
    all_goals
      repeat' (with_reducible first | refine x_ops ?_ | refine wk ?_ | (with_reducible refine xc (within_fn _ _ _) ?_) | ((first | refine gd1 ?_ ?_ | refine gd2 ?_ ?_ | refine gd3 ?_ ?_) <;> (first | exact @False.elim _ | intro hc)))
      all_goals first
        | (refine nx (by omega) ⟨vv, by ((refine ve ?_; try exact True.intro)); rw [lastC_succ], by exact vw, by ((refine ve ?_; try exact True.intro)); omega, fun i h => ?_⟩
           by_cases hi : i = k
           · subst hi
             simp only [Bool.and_eq_true, decide_eq_true_eq] at d1
             exact ⟨by omega, d1⟩
           · exact hI i (by omega))
        | (refine finV_lit vv (rgt_bad fun hk => ?_)
           have h5 := hk.each k hlt
           first
             | omega
             | (rw [decide_eq_true h5.2.1, decide_eq_true h5.2.2] at d1; cases d1; done)
             | (have := lst.out hk
                omega))
  have hI := fun i (h : i < c.down.length) => hI i (by omega)
  have c1 : ¬ ((k : Int) < (c.down.length : Int)) := by omega
  clear hlt hk
  have e1 : ∀ i, i < c.down.length → (1 ≤ (c.down.getD i (0, 0)).1 ∧ (c.down.getD i (0, 0)).1 ≤ 14) ∧ 1 ≤ (c.down.getD i (0, 0)).2 ∧ (c.down.getD i (0, 0)).2 ≤ 18 := by
    intro i hi
    refine ⟨⟨?_, (hI i hi).1.2⟩, (hI i hi).2⟩
    induction i with
    | zero => have := (hI 0 hi).1.1; rw [lastC, if_pos rfl] at this; omega
    | succ i ih => have := (hI (i + 1) hi).1.1; rw [lastC_succ] at this; have := ih (by omega); omega
  have e2 : ∀ i, i + 1 < c.down.length → (c.down.getD i (0, 0)).1 < (c.down.getD (i + 1) (0, 0)).1 := fun i hi => by
    have := (hI (i + 1) hi).1.1; rwa [lastC_succ] at this
  replace e1 := Hid.mk e1
  replace e2 := Hid.mk e2
  clear hI
  cases rh : risB c.held
  · repeat' (with_reducible first | refine x_ops ?_ | refine wk ?_ | (with_reducible refine xc (R1) ?_) | ((first | refine gd1 ?_ ?_ | refine gd2 ?_ ?_ | refine gd3 ?_ ?_) <;> (first | exact @False.elim _ | intro hc)))
    exact finV_lit vv (rgt_bad fun hk => by rw [hk.rh] at rh; cases rh)
  cases ro : risB c.opn
  · repeat' (with_reducible first | refine x_ops ?_ | refine wk ?_ | (with_reducible refine xc (R1) ?_) | (with_reducible refine xc (R2) ?_) | ((first | refine gd1 ?_ ?_ | refine gd2 ?_ ?_ | refine gd3 ?_ ?_) <;> (first | exact @False.elim _ | intro hc)))
    exact finV_lit vv (rgt_bad fun hk => by rw [hk.ro] at ro; cases ro)
  repeat' (with_reducible first | refine x_ops ?_ | refine wk ?_ | (with_reducible refine xc (R1) ?_) | (with_reducible refine xc (R2) ?_) | ((first | refine gd1 ?_ ?_ | refine gd2 ?_ ?_ | refine gd3 ?_ ?_) <;> (first | exact @False.elim _ | intro hc)))
  refine x_loopF w_hand_right_p13 (by kernel_rfl) c.held.length (fun k t => t 48 = vint (k : Int) ∧ ∀ i, i < k → fI c.down (c.held.getD i 0) < c.down.length) ?_ ?_
  · exact ⟨vv, fun i h => by omega⟩
  rintro q t' hq ⟨h48, hJ⟩
  by_cases hlt : q < c.held.length
  · have g1 := ints_at hlt
    have c2 : (q : Int) < (c.held.length : Int) := by omega
    have w2 := w_add1 (k := q) (by omega)
    repeat' (with_reducible first | refine x_ops ?_ | refine wk ?_ | (with_reducible refine xc (D1 _) ?_) | ((first | refine gd1 ?_ ?_ | refine gd2 ?_ ?_ | refine gd3 ?_ ?_) <;> (first | exact @False.elim _ | intro hc)))
    · refine finV_lit vv (rgt_bad fun hk => ?_)
      exact lt_len.1 hc (hk.held q hlt)
    · refine nf (by omega) ⟨vv, fun i h => ?_⟩ rfl
      by_cases hi : i = q
      · subst hi; exact Decidable.not_not.1 fun h => hc (lt_len.2 h)
      · exact hJ i (by omega)
  have hJ := Hid.mk fun i (h : i < c.held.length) => hJ i (by omega)
  have c4 : ¬ ((q : Int) < (c.held.length : Int)) := by omega
  clear hlt hq
  repeat' (with_reducible first | refine x_ops ?_ | refine wk ?_ | ((first | refine gd1 ?_ ?_ | refine gd2 ?_ ?_ | refine gd3 ?_ ?_) <;> (first | exact @False.elim _ | intro hc)))
  refine x_loopF w_hand_right_p19 (by kernel_rfl) c.opn.length (fun k t => t 60 = vint (k : Int) ∧ ∀ i, i < k → (1 ≤ c.opn.getD i 0 ∧ c.opn.getD i 0 ≤ 14) ∧ ¬ fI c.down (c.opn.getD i 0) < c.down.length) ?_ ?_
  · exact ⟨vv, fun i h => by omega⟩
  rintro p t2 hp ⟨h60, hL⟩
  by_cases hlt : p < c.opn.length
  · have g1 := ints_at hlt
    have c2 : (p : Int) < (c.opn.length : Int) := by omega
    have w2 := w_add1 (k := p) (by omega)
    cases d1 : (decide (1 ≤ c.opn.getD p 0) && decide (c.opn.getD p 0 ≤ 14))
    all_goals
      repeat' (with_reducible first | refine x_ops ?_ | refine wk ?_ | (with_reducible refine xc (within_fn _ _ _) ?_) | (with_reducible refine xc (D1 _) ?_) | ((first | refine gd1 ?_ ?_ | refine gd2 ?_ ?_ | refine gd3 ?_ ?_) <;> (first | exact @False.elim _ | intro hc)))
      all_goals first
        | (refine nf (by omega) ⟨vv, fun i h => ?_⟩ rfl
           by_cases hi : i = p
           · subst hi
             simp only [Bool.and_eq_true, decide_eq_true_eq] at d1
             exact ⟨d1, lt_len.1 (by omega)⟩
           · exact hL i (by omega))
        | (refine finV_lit vv (rgt_bad fun hk => ?_)
           have h5 := hk.opn p hlt
           first
             | (rw [decide_eq_true h5.1.1, decide_eq_true h5.1.2] at d1; cases d1; done)
             | (have := (lt_len (c := c) (co := c.opn.getD p 0)).2 (by omega)
                omega))
  have hL := fun i (h : i < c.opn.length) => hL i (by omega)
  have c5 : ¬ ((p : Int) < (c.opn.length : Int)) := by omega
  clear hlt hp
  repeat' (with_reducible first | refine x_ops ?_ | refine wk ?_ | ((first | refine gd1 ?_ ?_ | refine gd2 ?_ ?_ | refine gd3 ?_ ?_) <;> (first | exact @False.elim _ | intro hc)))
  refine finV_lit vv (rgt_good ⟨e1.out, e2.out, rh, ro, hJ.out, fun i hi => ⟨(hL i hi).1, ?_⟩⟩)
  have := (hL i hi).2
  have := fI_le c.down (c.opn.getD i 0)
  omega
end Go.Proofs.Ytojjdkoglhecbaa
