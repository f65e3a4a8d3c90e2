/- The grips are in order and different; what fits, once more: plain. What fits by the chapter, and which grip comes before another, on values. fits of the laws, on values. fits of the laws, on values: the whole. The law HandGripsFit, on values. -/
import Derived.Test.YtojjdkoglhecbaaNA
namespace Go.Proofs.Ytojjdkoglhecbaa
open Go.RowKit

/-- The first number that differs is less. -/
def lexB : List Int → List Int → Bool
  | x :: l, y :: r => if x = y then lexB l r else decide (x < y)
  | _, _ => false
/-- A grip comes before another one. -/
def befB (a b : Grip) : Bool := if a.pos = b.pos then lexB a.fingers b.fingers else decide (a.pos < b.pos)
theorem lexB_app (F : List Int) {x y : Int} (h : x < y) (l r : List Int) : lexB (F ++ x :: l) (F ++ y :: r) = true := by
  induction F with
  | nil => rw [List.nil_append, List.nil_append, lexB, if_neg (by omega)]; simpa using h
  | cons a F ih => rw [List.cons_append, List.cons_append, lexB, if_pos rfl, ih]
theorem lexB_at : ∀ {a b : List Int} {i : Nat}, (∀ j, j < i → a.getD j 0 = b.getD j 0) → i < a.length → i < b.length → a.getD i 0 ≠ b.getD i 0 → lexB a b = decide (a.getD i 0 < b.getD i 0)
  | [], _, i, _, h, _, _ => by simp at h
  | _ :: _, [], i, _, _, h, _ => by simp at h
  | x :: a, y :: b, 0, _, _, _, hn => by rw [lexB, if_neg (by simpa using hn)]; rfl
  | x :: a, y :: b, i + 1, he, h1, h2, hn => by
    have h0 : x = y := by simpa using he 0 (by omega)
    rw [lexB, if_pos h0, lexB_at (i := i) (fun j hj => by simpa using he (j + 1) (by omega)) (by simpa using h1) (by simpa using h2) (by simpa using hn)]
    simp
theorem lexB_none : ∀ {a b : List Int} {i : Nat}, (∀ j, j < i → a.getD j 0 = b.getD j 0) → a.length ≤ i ∨ b.length ≤ i → lexB a b = false
  | [], _, _, _, _ => by rw [lexB]; intro _ _ _ _ h; cases h
  | _ :: _, [], _, _, _ => by rw [lexB]; intro _ _ _ _ _ h; cases h
  | x :: a, y :: b, 0, _, h => by simp at h
  | x :: a, y :: b, i + 1, he, h => by
    have h0 : x = y := by simpa using he 0 (by omega)
    rw [lexB, if_pos h0, lexB_none (i := i) (fun j hj => by simpa using he (j + 1) (by omega)) (by simpa using h)]
theorem fitT_sorted (h : Hand) (c : Chord) (pos : Int) : ∀ (k : Nat) (F : List Int), (fitT h c pos k F).Pairwise (fun a b => befB a b = true)
  | 0, F => by rw [fitT]; split <;> simp
  | k + 1, F => by
    rw [fitT, List.pairwise_flatMap]
    refine ⟨fun f _ => fitT_sorted h c pos k _, List.pairwise_lt_range.imp fun {a b} hab x hx y hy => ?_⟩
    obtain ⟨t, _, _, rfl, _⟩ := fitT_mem.1 hx
    obtain ⟨t', _, _, rfl, _⟩ := fitT_mem.1 hy
    rw [befB, if_pos rfl]
    show lexB (F ++ [((a + 1 : Nat) : Int)] ++ t) (F ++ [((b + 1 : Nat) : Int)] ++ t') = true
    rw [List.append_assoc, List.append_assoc]
    exact lexB_app F (by omega) _ _
theorem grpA_sorted (h : Hand) (c : Chord) : (grpA h c).Pairwise (fun a b => befB a b = true) := by
  rw [grpA, fitP, List.pairwise_flatMap]
  refine ⟨fun p _ => fitT_sorted h c _ _ _, List.pairwise_lt_range.imp fun {a b} hab x hx y hy => ?_⟩
  obtain ⟨t, _, _, rfl, _⟩ := fitT_mem.1 hx
  obtain ⟨t', _, _, rfl, _⟩ := fitT_mem.1 hy
  rw [befB, if_neg (by show ¬ ((a + 1 : Nat) : Int) = ((b + 1 : Nat) : Int); omega)]
  show decide (((a + 1 : Nat) : Int) < ((b + 1 : Nat) : Int)) = true
  rw [decide_eq_true_eq]; omega
theorem grpA_bef {h : Hand} {c : Chord} {i : Nat} (h0 : 0 < i) (hi : i < (grpA h c).length) : befB ((grpA h c).getD (i - 1) noG) ((grpA h c).getD i noG) = true := by
  have := List.pairwise_iff_getElem.1 (grpA_sorted h c) (i - 1) i (by omega) hi (by omega)
  rw [List.getD_eq_getElem?_getD, List.getD_eq_getElem?_getD, List.getElem?_eq_getElem hi, List.getElem?_eq_getElem (by omega : i - 1 < (grpA h c).length)]
  exact this

/-- Nothing between two places of one fret is in the way. -/
def ClrP (c : Chord) (a b : Int × Int) : Prop := (∀ o, o < c.opn.length → ¬ (a.1 < c.opn.getD o 0 ∧ c.opn.getD o 0 < b.1)) ∧
  ∀ d, d < c.down.length → ¬ ((a.1 < (c.down.getD d (0, 0)).1 ∧ (c.down.getD d (0, 0)).1 < b.1) ∧ (c.down.getD d (0, 0)).2 < a.2)
noncomputable def clrB (c : Chord) (a b : Int × Int) : Bool := @decide (ClrP c a b) (Classical.propDecidable _)
theorem clr_true {c : Chord} {a b : Int × Int} : clrB c a b = true ↔ ClrP c a b := by unfold clrB; simp
theorem clr_bad {c : Chord} {a b : Int × Int} (h : ¬ ClrP c a b) : clrB c a b = false := by unfold clrB; simpa using h
/-- Two fingers are as the chapter wants them. -/
def LawP (h : Hand) (c : Chord) (F : List Int) (p q : Nat) : Prop :=
  ((c.down.getD p (0, 0)).2 < (c.down.getD q (0, 0)).2 → F.getD p 0 < F.getD q 0) ∧
  ((c.down.getD p (0, 0)).2 = (c.down.getD q (0, 0)).2 → F.getD p 0 ≠ F.getD q 0 → (c.down.getD q (0, 0)).1 < (c.down.getD p (0, 0)).1 → F.getD p 0 < F.getD q 0) ∧
  (F.getD p 0 = F.getD q 0 → (c.down.getD p (0, 0)).1 < (c.down.getD q (0, 0)).1 → (c.down.getD p (0, 0)).2 = (c.down.getD q (0, 0)).2 ∧ h.barre.getD (F.getD p 0 - 1).toNat false = true ∧ ClrP c (c.down.getD p (0, 0)) (c.down.getD q (0, 0)))
/-- A grip that fits, as the chapter has it. -/
structure LawFit (h : Hand) (c : Chord) (g : Grip) : Prop where
  pos : 1 ≤ g.pos ∧ g.pos ≤ h.top
  len : g.fingers.length = c.down.length
  rch : ∀ i, i < c.down.length → (1 ≤ g.fingers.getD i 0 ∧ g.fingers.getD i 0 ≤ h.low.length) ∧ g.pos + h.low.getD (g.fingers.getD i 0 - 1).toNat 0 ≤ (c.down.getD i (0, 0)).2 ∧ (c.down.getD i (0, 0)).2 ≤ g.pos + h.high.getD (g.fingers.getD i 0 - 1).toNat 0
  prs : ∀ p, p < c.down.length → ∀ q, q < c.down.length → LawP h c g.fingers p q
theorem crs_idx {c : Chord} (hc : ChordOk c) {i j : Nat} (hi : i < c.down.length) (hj : j < c.down.length) : (c.down.getD i (0, 0)).1 < (c.down.getD j (0, 0)).1 ↔ i < j := by
  rcases Nat.lt_trichotomy i j with h1 | h1 | h1
  · exact ⟨fun _ => h1, fun _ => crs_lt hc h1 hj⟩
  · subst h1; exact ⟨fun h => by omega, fun h => by omega⟩
  · have := crs_lt hc h1 hi; exact ⟨fun h => by omega, fun h => by omega⟩
theorem lawfit_iff {h : Hand} (hk : HandOk h) {c : Chord} (hc : ChordOk c) {g : Grip} : LawFit h c g ↔ FitG h c g := by
  rw [← rfit_iff hk hc]
  constructor
  · intro hl
    refine ⟨hl.pos, hl.len, fun i hi => ?_, fun i hi k hki => ?_⟩
    · obtain ⟨h1, h2, h3⟩ := hl.rch i hi
      rw [rrchB, rchB, Bool.and_eq_true, Bool.and_eq_true, Bool.and_eq_true]
      simp only [decide_eq_true_eq]
      exact ⟨h1, h2, h3⟩
    · have hkl : k < c.down.length := by omega
      have p1 := hl.prs k hkl i hi
      have p2 := hl.prs i hi k hkl
      have hcr := crs_lt hc hki hi
      refine ⟨p1.1, fun hf => p2.1 hf, fun he => ⟨fun hne => p2.2.1 he.symm (fun e => hne e.symm) hcr, fun hef => ?_⟩⟩
      obtain ⟨_, q2, q3, q4⟩ := p1.2.2 hef hcr
      refine ⟨q2, q3, fun j hj1 hj2 => ?_⟩
      by_cases e : j = k
      · subst e; omega
      · exact fun hlt => q4 j (by omega) ⟨⟨crs_lt hc (by omega) (by omega), crs_lt hc hj2 hi⟩, hlt⟩
  · intro hr
    refine ⟨hr.pos, hr.len, fun i hi => ?_, fun p hp q hq => ?_⟩
    · have := hr.rch i hi
      rw [rrchB, rchB, Bool.and_eq_true, Bool.and_eq_true, Bool.and_eq_true] at this
      simp only [decide_eq_true_eq] at this
      exact ⟨this.1, this.2.1, this.2.2⟩
    · rcases Nat.lt_trichotomy p q with h1 | h1 | h1
      · obtain ⟨a1, a2, a3⟩ := hr.apt q hq p h1
        have hcr := crs_lt hc h1 hq
        refine ⟨a1, fun _ _ hcx => by omega, fun hef _ => ?_⟩
        have heq : (c.down.getD p (0, 0)).2 = (c.down.getD q (0, 0)).2 := by
          rcases Int.lt_trichotomy (c.down.getD p (0, 0)).2 (c.down.getD q (0, 0)).2 with h2 | h2 | h2
          · have := a1 h2; omega
          · exact h2
          · have := a2 h2; omega
        obtain ⟨b1, b2, b3⟩ := (a3 heq).2 hef
        refine ⟨heq, b1, b2, fun d hd hh => ?_⟩
        have d1 := (crs_idx hc hp hd).1 hh.1.1
        have d2 := (crs_idx hc hd hq).1 hh.1.2
        exact b3 d (by omega) d2 hh.2
      · subst h1; exact ⟨fun h => by omega, fun _ _ h => by omega, fun _ h => by omega⟩
      · obtain ⟨a1, a2, a3⟩ := hr.apt p hp q h1
        have hcr := crs_lt hc h1 hp
        exact ⟨a2, fun he hne _ => (a3 he.symm).1 fun e => hne e.symm, fun _ hcx => by omega⟩
noncomputable def lawB (h : Hand) (c : Chord) (g : Grip) : Bool := @decide (LawFit h c g) (Classical.propDecidable _)
theorem law_bad {h : Hand} {c : Chord} {g : Grip} (hn : ¬ LawFit h c g) : Value.bool false = Value.bool (lawB h c g) := by unfold lawB; simp [hn]
theorem law_good {h : Hand} {c : Chord} {g : Grip} (hn : LawFit h c g) : Value.bool true = Value.bool (lawB h c g) := by unfold lawB; simp [hn]
theorem lawB_fit {h : Hand} (hk : HandOk h) {c : Chord} (hc : ChordOk c) {g : Grip} : lawB h c g = fitB h c g := by
  have e := lawfit_iff hk hc (g := g)
  have e1 : lawB h c g = true ↔ LawFit h c g := by unfold lawB; simp
  rw [Bool.eq_iff_iff, e1, fit_true, e]
end Go.Proofs.Ytojjdkoglhecbaa
namespace Go.Proofs.Ytojjdkoglhecbaa
open Go.RowKit
set_option linter.unusedSimpArgs false
set_option linter.unusedVariables false

set_option maxHeartbeats 1000000 in
theorem clear_fn (c : Chord) (hf : FitC c) (a b : Int × Int) : Fn Try.prog Gd 73 [c.val, .agg (plE a), .agg (plE b)] (vbool (clrB c a b)) := by
  refine Fn.of_vx0 k_theorbolaw06_clear (by simp) (by rw [V.pures, pure_chord]; rfl) ?_
  have hb := hf.big
  have hb1 := hb.1
  have hb2 := hb.2.2
  clear hb
  unfold c_theorbolaw06_clear Chord.val Chord.cells plE
  repeat' (with_reducible first | refine x_ops ?_ | refine wk ?_ | ((first | refine gd1 ?_ ?_ | refine gd2 ?_ ?_ | refine gd3 ?_ ?_) <;> (first | exact @False.elim _ | intro hc)))
  refine x_loopF w_theorbolaw06_clear_p6 (by kernel_rfl) c.opn.length (fun k t => t 14 = vint (k : Int) ∧ ∀ o, o < k → ¬ (a.1 < c.opn.getD o 0 ∧ c.opn.getD o 0 < b.1)) ?_ ?_
  · exact ⟨vv, fun i h => by omega⟩
  rintro k t hk ⟨h14, hI⟩
  by_cases hlt : k < c.opn.length
  · have g1 := ints_at hlt
    have c2 : (k : Int) < (c.opn.length : Int) := by omega
    have w2 := w_add1 (k := k) (by omega)
    replace hI := Hid.mk hI
    by_cases hbad : a.1 < c.opn.getD k 0 ∧ c.opn.getD k 0 < b.1
    · have e9 := Hid.mk (clr_bad (c := c) (a := a) (b := b) fun hh => hh.1 k hlt hbad)
      obtain ⟨d1, d2⟩ := hbad
      repeat' (with_reducible first | refine x_ops ?_ | refine wk ?_ | ((first | refine gd1 ?_ ?_ | refine gd2 ?_ ?_ | refine gd3 ?_ ?_) <;> (first | exact @False.elim _ | intro hc)))
      exact finV_lit vv (by rw [e9.out])
    · have hgood : Hid (∀ o, o < k + 1 → ¬ (a.1 < c.opn.getD o 0 ∧ c.opn.getD o 0 < b.1)) := ⟨fun o ho => by
        by_cases e : o = k
        · subst e; exact hbad
        · exact hI.out o (by omega)⟩
      by_cases d1 : a.1 < c.opn.getD k 0
      · have d2 : ¬ c.opn.getD k 0 < b.1 := fun h => hbad ⟨d1, h⟩
        clear hbad
        repeat' (with_reducible first | refine x_ops ?_ | refine wk ?_ | ((first | refine gd1 ?_ ?_ | refine gd2 ?_ ?_ | refine gd3 ?_ ?_) <;> (first | exact @False.elim _ | intro hc)))
        exact nf (by omega) ⟨vv, hgood.out⟩ rfl
      · clear hbad
        repeat' (with_reducible first | refine x_ops ?_ | refine wk ?_ | ((first | refine gd1 ?_ ?_ | refine gd2 ?_ ?_ | refine gd3 ?_ ?_) <;> (first | exact @False.elim _ | intro hc)))
        exact nf (by omega) ⟨vv, hgood.out⟩ rfl
  have hO : Hid (∀ o, o < c.opn.length → ¬ (a.1 < c.opn.getD o 0 ∧ c.opn.getD o 0 < b.1)) := ⟨fun o ho => hI o (by omega)⟩
  have c1 : ¬ (k : Int) < (c.opn.length : Int) := by omega
  clear hlt hk hI
  repeat' (with_reducible first | refine x_ops ?_ | refine wk ?_ | ((first | refine gd1 ?_ ?_ | refine gd2 ?_ ?_ | refine gd3 ?_ ?_) <;> (first | exact @False.elim _ | intro hc)))
  refine x_loopW w_theorbolaw06_clear_p13 (by kernel_rfl) c.down.length (fun k t m => t 32 = vint (k : Int) ∧ (m.obj 1 = some (.box [vint a.1, vint a.2] 92) ∧ m.obj 2 = some (.box [vint b.1, vint b.2] 92)) ∧ 3 ≤ m.next ∧
      ∀ d, d < k → ¬ ((a.1 < (c.down.getD d (0, 0)).1 ∧ (c.down.getD d (0, 0)).1 < b.1) ∧ (c.down.getD d (0, 0)).2 < a.2)) ?_ ?_
  · exact ⟨vv, ⟨vv, vv⟩, by ((refine ve ?_; try exact True.intro)); first | done | omega, fun i h => by omega⟩
  rintro q t2 m hq ⟨h32, ⟨o1, o2⟩, hn, hI⟩
  have n1 : 1 < m.next := by omega
  have n2 : 2 < m.next := by omega
  have x1 : ¬ 1 = m.next + 2 := by omega
  have x2 : ¬ 2 = m.next + 2 := by omega
  have hn4 : 3 ≤ m.next + 4 := by omega
  replace hI := Hid.mk hI
  by_cases hlt : q < c.down.length
  · have g1 := pls_take hlt
    have g2 := pls_len c.down
    have c2 : (q : Int) < (c.down.length : Int) := by omega
    have c3 : q * 2 + 2 ≤ c.down.length * 2 := by omega
    have w2 := w_add1 (k := q) (by omega)
    generalize hpq : c.down.getD q (0, 0) = x at *
    by_cases hbad : (a.1 < x.1 ∧ x.1 < b.1) ∧ x.2 < a.2
    · have e9 := Hid.mk (clr_bad (c := c) (a := a) (b := b) fun hh => hh.2 q hlt (by rw [hpq]; exact hbad))
      obtain ⟨⟨d1, d2⟩, d3⟩ := hbad
      replace hpq := Hid.mk hpq
      repeat' (with_reducible first | refine x_ops ?_ | refine wk ?_ | ((first | refine gd1 ?_ ?_ | refine gd2 ?_ ?_ | refine gd3 ?_ ?_) <;> (first | exact @False.elim _ | intro hc)))
      exact finV_lit vv (by rw [e9.out])
    · have hgood : Hid (∀ d, d < q + 1 → ¬ ((a.1 < (c.down.getD d (0, 0)).1 ∧ (c.down.getD d (0, 0)).1 < b.1) ∧ (c.down.getD d (0, 0)).2 < a.2)) := ⟨fun o ho => by
        by_cases e : o = q
        · subst e; rw [hpq]; exact hbad
        · exact hI.out o (by omega)⟩
      replace hpq := Hid.mk hpq
      by_cases d1 : a.1 < x.1
      · by_cases d2 : x.1 < b.1
        · have d3 : ¬ x.2 < a.2 := fun h => hbad ⟨⟨d1, d2⟩, h⟩
          clear hbad
          repeat' (with_reducible first | refine x_ops ?_ | refine wk ?_ | ((first | refine gd1 ?_ ?_ | refine gd2 ?_ ?_ | refine gd3 ?_ ?_) <;> (first | exact @False.elim _ | intro hc)))
          exact nx (by omega) ⟨vv, ⟨vw, vw⟩, by ((refine ve ?_; try exact True.intro)), hgood.out⟩
        · clear hbad
          repeat' (with_reducible first | refine x_ops ?_ | refine wk ?_ | ((first | refine gd1 ?_ ?_ | refine gd2 ?_ ?_ | refine gd3 ?_ ?_) <;> (first | exact @False.elim _ | intro hc)))
          exact nx (by omega) ⟨vv, ⟨vw, vw⟩, by ((refine ve ?_; try exact True.intro)), hgood.out⟩
      · clear hbad
        repeat' (with_reducible first | refine x_ops ?_ | refine wk ?_ | ((first | refine gd1 ?_ ?_ | refine gd2 ?_ ?_ | refine gd3 ?_ ?_) <;> (first | exact @False.elim _ | intro hc)))
        exact nx (by omega) ⟨vv, ⟨vw, vw⟩, by ((refine ve ?_; try exact True.intro)), hgood.out⟩
  · have e9 := Hid.mk (clr_true.2 ⟨hO.out, fun d hd => hI.out d (by omega)⟩)
    have c5 : ¬ (q : Int) < (c.down.length : Int) := by omega
    repeat' (with_reducible first | refine x_ops ?_ | refine wk ?_ | ((first | refine gd1 ?_ ?_ | refine gd2 ?_ ?_ | refine gd3 ?_ ?_) <;> (first | exact @False.elim _ | intro hc)))
    exact finV_lit vv (by rw [e9.out])

theorem before_fn (a b : Grip) (ha : a.fingers.length ≤ 17592186044416) : Fn Try.prog Gd 36 [a.val, b.val] (vbool (befB a b)) := by
  refine Fn.of_vx0 k_theorbolaw06_before (by simp) (by rw [V.pures, pure_grip, V.pures, pure_grip]; rfl) ?_
  unfold c_theorbolaw06_before Grip.val Grip.cells befB
  by_cases hp : a.pos = b.pos
  case neg =>
    have e1 : (a.pos == b.pos) = false := by simpa using hp
    rw [if_neg hp]
    clear hp
    repeat' (with_reducible first | refine x_ops ?_ | refine wk ?_ | ((first | refine gd1 ?_ ?_ | refine gd2 ?_ ?_ | refine gd3 ?_ ?_) <;> (first | exact @False.elim _ | intro hc)))
    all_goals exact finV_lit vv rfl
  have e1 : (b.pos == b.pos) = true := by simp
  rw [if_pos hp]
  repeat' (with_reducible first | refine x_ops ?_ | refine wk ?_ | ((first | refine gd1 ?_ ?_ | refine gd2 ?_ ?_ | refine gd3 ?_ ?_) <;> (first | exact @False.elim _ | intro hc)))
  refine x_loopF w_theorbolaw06_before_p5 (by kernel_rfl) a.fingers.length (fun k t => t 5 = vint (k : Int) ∧ ∀ j, j < k → a.fingers.getD j 0 = b.fingers.getD j 0) ?_ ?_
  · exact ⟨vv, fun i h => by omega⟩
  rintro k t hk ⟨h5, hI⟩
  replace hI := Hid.mk hI
  by_cases h1 : k < a.fingers.length
  · have c1 : (k : Int) < (a.fingers.length : Int) := by omega
    by_cases h2 : k < b.fingers.length
    · have c2 : (k : Int) < (b.fingers.length : Int) := by omega
      have g1 := ints_at h1
      have g2 := ints_at h2
      have w2 := w_add1 (k := k) (by omega)
      by_cases he : a.fingers.getD k 0 = b.fingers.getD k 0
      · have e2 : (a.fingers.getD k 0 == b.fingers.getD k 0) = true := by simpa using he
        have hgood : Hid (∀ j, j < k + 1 → a.fingers.getD j 0 = b.fingers.getD j 0) := ⟨fun j hj => by
          by_cases e : j = k
          · subst e; exact he
          · exact hI.out j (by omega)⟩
        clear he
        repeat' (with_reducible first | refine x_ops ?_ | refine wk ?_ | ((first | refine gd1 ?_ ?_ | refine gd2 ?_ ?_ | refine gd3 ?_ ?_) <;> (first | exact @False.elim _ | intro hc)))
        exact nf (by omega) ⟨vv, hgood.out⟩ rfl
      · have e2 : (a.fingers.getD k 0 == b.fingers.getD k 0) = false := by simpa using he
        have e9 := Hid.mk (lexB_at hI.out h1 h2 he)
        clear he
        repeat' (with_reducible first | refine x_ops ?_ | refine wk ?_ | ((first | refine gd1 ?_ ?_ | refine gd2 ?_ ?_ | refine gd3 ?_ ?_) <;> (first | exact @False.elim _ | intro hc)))
        exact finV_lit vv (by rw [e9.out])
    · have c2 : ¬ (k : Int) < (b.fingers.length : Int) := by omega
      have e9 := Hid.mk (lexB_none (i := k) hI.out (.inr (by omega)))
      repeat' (with_reducible first | refine x_ops ?_ | refine wk ?_ | ((first | refine gd1 ?_ ?_ | refine gd2 ?_ ?_ | refine gd3 ?_ ?_) <;> (first | exact @False.elim _ | intro hc)))
      exact finV_lit vv (by rw [e9.out])
  · have c1 : ¬ (k : Int) < (a.fingers.length : Int) := by omega
    have e9 := Hid.mk (lexB_none (i := k) hI.out (.inl (by omega)))
    repeat' (with_reducible first | refine x_ops ?_ | refine wk ?_ | ((first | refine gd1 ?_ ?_ | refine gd2 ?_ ?_ | refine gd3 ?_ ?_) <;> (first | exact @False.elim _ | intro hc)))
    exact finV_lit vv (by rw [e9.out])
end Go.Proofs.Ytojjdkoglhecbaa
namespace Go.Proofs.Ytojjdkoglhecbaa
open Go.RowKit
set_option linter.unusedSimpArgs false
set_option linter.unusedVariables false

/-- What the chapter wants of two places. -/
def LPq (h : Hand) (c : Chord) (a b : Int × Int) (f : Nat) (e : Int) : Prop := (a.2 < b.2 → ((f + 1 : Nat) : Int) < e) ∧ (a.2 = b.2 → ((f + 1 : Nat) : Int) ≠ e → b.1 < a.1 → ((f + 1 : Nat) : Int) < e) ∧
  (((f + 1 : Nat) : Int) = e → a.1 < b.1 → a.2 = b.2 ∧ h.barre.getD f false = true ∧ clrB c a b = true)
/-- What comes of two places. -/
def PairQ (m : Mm) (p : Prop) (x : VX) (s : St) : Prop := s.m = m ∧ ((x = .nrm ∧ p) ∨ (x = .ret ∧ ¬ p ∧ s.t 6 = vbool false))
theorem pair_nrm {m : Mm} {p : Prop} {s : St} (h1 : s.m = m) (h2 : p) : PairQ m p .nrm s := ⟨h1, .inl ⟨rfl, h2⟩⟩
theorem pair_ret {m : Mm} {p : Prop} {s : St} (h1 : s.m = m) (h2 : ¬ p) (h3 : s.t 6 = vbool false) : PairQ m p .ret s := ⟨h1, .inr ⟨rfl, h2, h3⟩⟩
set_option maxHeartbeats 2000000 in
theorem fits_pair (h : Hand) (c : Chord) (a b : Int × Int) (f : Nat) (e : Int) (hfl : f < h.barre.length) (hn4 : h.barre.length ≤ 4) (CQ : Fn Try.prog Gd 73 [c.val, .agg (plE a), .agg (plE b)] (vbool (clrB c a b))) {t : Nat → V} {m : Mm} {i j : Nat}
    (h3 : t 3 = .ptr 0 0) (h4 : t 4 = .ptr 1 0) (h11 : t 11 = vint ((f + 1 : Nat) : Int)) (h13 : t 13 = vint e) (h14 : t 14 = .ptr i 0) (h15 : t 15 = .ptr j 0)
    (o0 : m.obj 0 = some (.box [tIs h.low, tIs h.high, tBs h.barre, vint h.top, vint h.jump, vint h.shift, vint h.lift, vint h.bar, vint h.stretch, vint h.slide] 25))
    (o1 : m.obj 1 = some (.box [tPs c.down, tIs c.held, tIs c.opn] 47)) (oi : m.obj i = some (.box [vint a.1, vint a.2] 92)) (oj : m.obj j = some (.box [vint b.1, vint b.2] 92)) :
    c_theorbolaw06_fits_p12.vx Try.prog Gd (PairQ m (LPq h c a b f e)) ⟨t, m⟩ := by
  have gB := bools_at hfl
  have cB : (f : Int) < (h.barre.length : Int) := by omega
  have w3 : IntKind.i64.wrap (((f + 1 : Nat) : Int) - 1) = (f : Int) := by rw [w_in (by omega)]; omega
  unfold plE at CQ
  unfold Chord.val Chord.cells at CQ
  obtain ⟨lp, hlp⟩ : ∃ lp, lp = LPq h c a b f e := ⟨_, rfl⟩
  rw [← hlp]
  unfold LPq at hlp
  generalize h.barre.getD f false = bb at *
  generalize clrB c a b = cc at *
  obtain ⟨kb, hkb⟩ : ∃ kb : Nat, kb = if (bb && cc) = true then 1 else 0 := ⟨_, rfl⟩
  have hlp2 : lp ↔ (a.2 < b.2 → ((f + 1 : Nat) : Int) < e) ∧ (a.2 = b.2 → ((f + 1 : Nat) : Int) ≠ e → b.1 < a.1 → ((f + 1 : Nat) : Int) < e) ∧ (((f + 1 : Nat) : Int) = e → a.1 < b.1 → a.2 = b.2 ∧ kb = 1) := by
    rw [hlp, hkb]
    cases bb <;> cases cc <;> simp
  replace hlp2 := Hid.mk hlp2
  clear hlp
  obtain ⟨B1, hB1⟩ : ∃ B1 : Bool, B1 = decide (a.2 < b.2 ∧ e ≤ ((f + 1 : Nat) : Int) ∨ a.2 = b.2 ∧ ((f + 1 : Nat) : Int) ≠ e ∧ b.1 < a.1 ∧ e ≤ ((f + 1 : Nat) : Int)) := ⟨_, rfl⟩
  obtain ⟨B2, hB2⟩ : ∃ B2 : Bool, B2 = decide (((f + 1 : Nat) : Int) = e ∧ a.1 < b.1 ∧ (a.2 ≠ b.2 ∨ kb = 0)) := ⟨_, rfl⟩
  replace hB1 := Hid.mk hB1
  replace hB2 := Hid.mk hB2
  replace hkb := Hid.mk hkb
  have tri : ∀ x y : Int, (x < y ∧ (x == y) = false) ∨ (¬ x < y ∧ (x == y) = false) ∨ (¬ x < y ∧ (x == y) = true) := fun x y => by
    rw [beq_eq_false_iff_ne, beq_iff_eq]; omega
  have tri2 : ∀ x y : Int, (x == y) = false ∨ (x == y) = true := fun x y => by cases x == y <;> simp
  have eqs : Hid (∀ x y : Int, ((x == y) = true → x = y) ∧ ((x == y) = false → x ≠ y)) := ⟨fun x y => ⟨fun e => by simpa using e, fun e => by simpa using e⟩⟩
  unfold c_theorbolaw06_fits_p12
  refine x_seq ?_
  refine x_join 1427247692622883131321728727393007195115225088 kr (Sl 149 (vbool B1)) ?_ ?_
  · rcases tri a.2 b.2 with ⟨d1, d2⟩ | ⟨d1, d2⟩ | ⟨d1, d2⟩ <;> rcases tri2 ((f + 1 : Nat) : Int) e with d3 | d3
    all_goals
      have f2 := (eqs.out a.2 b.2)
      have f3 := (eqs.out ((f + 1 : Nat) : Int) e)
      simp only [d2, d3, true_imp_iff, reduceCtorEq, false_imp_iff, and_true, true_and] at f2 f3
      replace f2 := Hid.mk f2
      replace f3 := Hid.mk f3
      clear tri tri2 CQ gB
      repeat' (with_reducible first | refine x_ops ?_ | refine wk ?_ | ((first | refine gd1 ?_ ?_ | refine gd2 ?_ ?_ | refine gd3 ?_ ?_) <;> (first | exact @False.elim _ | intro hc)))
      all_goals
        refine jn rfl ?_
        show _ = _
        ((refine ve ?_; try exact True.intro))
        rw [hB1.out]
        have f2 := f2.out
        have f3 := f3.out
        congr 2
        symm
        first
          | (rw [decide_eq_true_eq]; omega)
          | (rw [decide_eq_false_iff_not]; omega)
          | (rw [decide_eq_decide]; omega)
  rintro t1 h149
  unfold Sl at h149
  cases B1
  case true =>
    have hbad : Hid (¬ lp) := ⟨fun hl => by
      have h1 := hlp2.out.1 hl
      have h2 := of_decide_eq_true hB1.out.symm
      omega⟩
    clear CQ gB tri tri2
    repeat' (with_reducible first | refine x_ops ?_ | refine wk ?_ | ((first | refine gd1 ?_ ?_ | refine gd2 ?_ ?_ | refine gd3 ?_ ?_) <;> (first | exact @False.elim _ | intro hc)))
    exact pair_ret rfl hbad.out vv
  have hn1 := Hid.mk (of_decide_eq_false hB1.out.symm)
  clear hB1 hB2
  rcases tri2 a.2 b.2 with d2 | d2 <;> rcases tri2 ((f + 1 : Nat) : Int) e with d3 | d3 <;> cases bb <;> cases cc
  all_goals
    have f2 := (eqs.out a.2 b.2)
    have f3 := (eqs.out ((f + 1 : Nat) : Int) e)
    simp only [d2, d3, true_imp_iff, reduceCtorEq, false_imp_iff, and_true, true_and] at f2 f3
    have hk := hkb.out
    simp at hk
    replace f2 := Hid.mk f2
    replace f3 := Hid.mk f3
    replace hk := Hid.mk hk
    clear tri tri2
    repeat' (with_reducible first | refine x_ops ?_ | refine wk ?_ | (with_reducible refine xc (CQ) ?_) | ((first | refine gd1 ?_ ?_ | refine gd2 ?_ ?_ | refine gd3 ?_ ?_) <;> (first | exact @False.elim _ | intro hc)))
    all_goals
      have f2 := f2.out
      have f3 := f3.out
      have hk := hk.out
      have hn1 := hn1.out
      first
        | (refine pair_ret rfl (fun hl => ?_) vv
           have h1 := hlp2.out.1 hl
           omega)
        | (refine pair_nrm rfl (hlp2.out.2 ⟨fun _ => ?_, fun _ _ _ => ?_, fun _ _ => ?_⟩) <;> omega)
end Go.Proofs.Ytojjdkoglhecbaa
namespace Go.Proofs.Ytojjdkoglhecbaa
open Go.RowKit
set_option linter.unusedSimpArgs false
set_option linter.unusedVariables false

section
variable {P : Program} {G : Ground}
/-- What a piece of code comes to, by the memory that it begins with. -/
theorem x_sumM {a : VC} {Q : VX → St → Prop} {s : St} (w : Nat) (hw : inMask w a = true) (R : Mm → VX → (Nat → V) → Mm → Prop) (h1 : a.vx P G (fun e s' => R s.m e s'.t s'.m) s) (h2 : ∀ e t m, R s.m e t m → Q e ⟨mix w t s.t, m⟩) : a.vx P G Q s := x_sum w hw (R := R s.m) h1 h2
end
set_option maxRecDepth 10000 in
set_option maxHeartbeats 8000000 in
theorem lfits_fn (h : Hand) (hk : HandOk h) (c : Chord) (hf : FitC c) (h14 : c.down.length ≤ 14) (g : Grip) (hg : g.fingers.length ≤ 17592186044416) : Fn Try.prog Gd 35 [h.val, c.val, g.val] (vbool (lawB h c g)) := by
  refine Fn.of_vx0 k_theorbolaw06_fits (by simp) (by rw [V.pures, pure_hand, V.pures, pure_chord, V.pures, pure_grip]; rfl) ?_
  have htop := hk.top
  have hn4 := hk.n4
  have hnh := hk.nh
  have hnb := hk.nb
  have gP := pls_len c.down
  unfold c_theorbolaw06_fits Hand.val Chord.val Chord.cells Grip.val Grip.cells
  by_cases hp : 1 ≤ g.pos ∧ g.pos ≤ h.top
  case neg =>
    have hp' : g.pos < 1 ∨ ¬ g.pos < 1 ∧ h.top < g.pos := by omega
    have e9 := Hid.mk (law_bad (h := h) (c := c) (g := g) fun hs => hp hs.pos)
    clear hp
    rcases hp' with d1 | ⟨d1, d2⟩
    · repeat' (with_reducible first | refine x_ops ?_ | refine wk ?_ | ((first | refine gd1 ?_ ?_ | refine gd2 ?_ ?_ | refine gd3 ?_ ?_) <;> (first | exact @False.elim _ | intro hc)))
      exact finV_lit vv e9.out
    · repeat' (with_reducible first | refine x_ops ?_ | refine wk ?_ | ((first | refine gd1 ?_ ?_ | refine gd2 ?_ ?_ | refine gd3 ?_ ?_) <;> (first | exact @False.elim _ | intro hc)))
      exact finV_lit vv e9.out
  have d1 : ¬ g.pos < 1 := by omega
  have d2 : ¬ h.top < g.pos := by omega
  have hp0 := Hid.mk hp
  clear hp
  by_cases hl : g.fingers.length = c.down.length
  case neg =>
    have e1 : ((g.fingers.length : Int) == (c.down.length : Int)) = false := by simp; omega
    have e9 := Hid.mk (law_bad (h := h) (c := c) (g := g) fun hs => hl hs.len)
    clear hl
    repeat' (with_reducible first | refine x_ops ?_ | refine wk ?_ | ((first | refine gd1 ?_ ?_ | refine gd2 ?_ ?_ | refine gd3 ?_ ?_) <;> (first | exact @False.elim _ | intro hc)))
    exact finV_lit vv e9.out
  have e1 : ((g.fingers.length : Int) == (c.down.length : Int)) = true := by simp; omega
  have hl0 := Hid.mk hl
  have hnh0 := Hid.mk hnh
  have hnb0 := Hid.mk hnb
  clear hl hnh hnb
  repeat' (with_reducible first | refine x_ops ?_ | refine wk ?_ | ((first | refine gd1 ?_ ?_ | refine gd2 ?_ ?_ | refine gd3 ?_ ?_) <;> (first | exact @False.elim _ | intro hc)))
  clear d1 d2 e1
  refine x_gen (fun t => t 3 = .ptr 0 0 ∧ t 4 = .ptr 1 0 ∧ t 5 = .ptr 2 0 ∧ t 7 = vint (h.low.length : Int) ∧ t 39 = tIs g.fingers ∧ t 40 = vint (g.fingers.length : Int) ∧ t 41 = vint 0) ⟨vv, vv, vv, vv, vw, vv, vv⟩ ?_
  rintro t0 ⟨z3, z4, z5, z7, z39, z40, z41⟩
  refine x_loopF w_theorbolaw06_fits_p7 (by kernel_rfl) g.fingers.length (fun k t => t 41 = vint (k : Int) ∧ ∀ i, i < k → (1 ≤ g.fingers.getD i 0 ∧ g.fingers.getD i 0 ≤ h.low.length) ∧ g.pos + h.low.getD (g.fingers.getD i 0 - 1).toNat 0 ≤ (c.down.getD i (0, 0)).2 ∧ (c.down.getD i (0, 0)).2 ≤ g.pos + h.high.getD (g.fingers.getD i 0 - 1).toNat 0) ?_ ?_
  · exact ⟨vw, fun i h => by omega⟩
  rintro i t hi ⟨h41, hI⟩
  replace hI := Hid.mk hI
  by_cases hlt : i < g.fingers.length
  · have hlc : i < c.down.length := by have := hl0.out; omega
    have g1 := ints_at hlt
    have g2 := pls_at1 hlc
    have c2 : (i : Int) < (g.fingers.length : Int) := by omega
    have c3 : (i : Int) < (c.down.length : Int) := by omega
    have w2 := w_add1 (k := i) (by omega)
    have bad := Hid.mk fun (hn : ¬ ((1 ≤ g.fingers.getD i 0 ∧ g.fingers.getD i 0 ≤ h.low.length) ∧ g.pos + h.low.getD (g.fingers.getD i 0 - 1).toNat 0 ≤ (c.down.getD i (0, 0)).2 ∧ (c.down.getD i (0, 0)).2 ≤ g.pos + h.high.getD (g.fingers.getD i 0 - 1).toNat 0)) => law_bad (h := h) (c := c) (g := g) fun hs => hn (hs.rch i hlc)
    by_cases hr : 1 ≤ g.fingers.getD i 0 ∧ g.fingers.getD i 0 ≤ h.low.length
    case neg =>
      have hr' : g.fingers.getD i 0 < 1 ∨ ¬ g.fingers.getD i 0 < 1 ∧ (h.low.length : Int) < g.fingers.getD i 0 := by omega
      have e9 := Hid.mk (bad.out fun hh => hr hh.1)
      clear hr
      rcases hr' with d1 | ⟨d1, d2⟩
      · repeat' (with_reducible first | refine x_ops ?_ | refine wk ?_ | ((first | refine gd1 ?_ ?_ | refine gd2 ?_ ?_ | refine gd3 ?_ ?_) <;> (first | exact @False.elim _ | intro hc)))
        exact finV_lit vv e9.out
      · repeat' (with_reducible first | refine x_ops ?_ | refine wk ?_ | ((first | refine gd1 ?_ ?_ | refine gd2 ?_ ?_ | refine gd3 ?_ ?_) <;> (first | exact @False.elim _ | intro hc)))
        exact finV_lit vv e9.out
    obtain ⟨f, hfe⟩ : ∃ f : Nat, g.fingers.getD i 0 = ((f + 1 : Nat) : Int) := ⟨(g.fingers.getD i 0 - 1).toNat, by omega⟩
    have hfl : f < h.low.length := by omega
    have hel := hk.each f hfl
    have g3 := ints_at hfl
    have g4 := ints_at (l := h.high) (k := f) (by have := hnh0.out; omega)
    have d1 : ¬ ((f + 1 : Nat) : Int) < 1 := by omega
    have d2 : ¬ (h.low.length : Int) < ((f + 1 : Nat) : Int) := by omega
    have c4 : (f : Int) < (h.low.length : Int) := by omega
    have c5 : (f : Int) < (h.high.length : Int) := by have := hnh0.out; omega
    have w3 : IntKind.i64.wrap (((f + 1 : Nat) : Int) - 1) = (f : Int) := by rw [w_in (by omega)]; omega
    have hpp := hp0.out
    have w4 : IntKind.i64.wrap (g.pos + h.low.getD f 0) = g.pos + h.low.getD f 0 := w_in (by omega)
    have w5 : IntKind.i64.wrap (g.pos + h.high.getD f 0) = g.pos + h.high.getD f 0 := w_in (by omega)
    rw [hfe] at g1
    have hgood : Hid ((1 ≤ g.fingers.getD i 0 ∧ g.fingers.getD i 0 ≤ h.low.length) ∧ g.pos + h.low.getD (g.fingers.getD i 0 - 1).toNat 0 ≤ (c.down.getD i (0, 0)).2 ∧ (c.down.getD i (0, 0)).2 ≤ g.pos + h.high.getD (g.fingers.getD i 0 - 1).toNat 0 ↔ g.pos + h.low.getD f 0 ≤ (c.down.getD i (0, 0)).2 ∧ (c.down.getD i (0, 0)).2 ≤ g.pos + h.high.getD f 0) := ⟨by
      rw [hfe, show (((f + 1 : Nat) : Int) - 1).toNat = f by omega]
      exact ⟨fun hh => hh.2, fun hh => ⟨by omega, hh⟩⟩⟩
    clear hr hpp hel hfe
    by_cases d3 : (c.down.getD i (0, 0)).2 < g.pos + h.low.getD f 0
    · have e9 := Hid.mk (bad.out fun hh => by have := hgood.out.1 hh; omega)
      repeat' (with_reducible first | refine x_ops ?_ | refine wk ?_ | ((first | refine gd1 ?_ ?_ | refine gd2 ?_ ?_ | refine gd3 ?_ ?_) <;> (first | exact @False.elim _ | intro hc)))
      exact finV_lit vv e9.out
    by_cases d4 : g.pos + h.high.getD f 0 < (c.down.getD i (0, 0)).2
    · have e9 := Hid.mk (bad.out fun hh => by have := hgood.out.1 hh; omega)
      repeat' (with_reducible first | refine x_ops ?_ | refine wk ?_ | ((first | refine gd1 ?_ ?_ | refine gd2 ?_ ?_ | refine gd3 ?_ ?_) <;> (first | exact @False.elim _ | intro hc)))
      exact finV_lit vv e9.out
    have e9 := Hid.mk (hgood.out.2 ⟨by omega, by omega⟩)
    repeat' (with_reducible first | refine x_ops ?_ | refine wk ?_ | ((first | refine gd1 ?_ ?_ | refine gd2 ?_ ?_ | refine gd3 ?_ ?_) <;> (first | exact @False.elim _ | intro hc)))
    refine nf hlt ⟨vv, fun j hj => ?_⟩ rfl
    by_cases e : j = i
    · subst e; exact e9.out
    · exact hI.out j (by omega)
  have hR : Hid (∀ i, i < c.down.length → (1 ≤ g.fingers.getD i 0 ∧ g.fingers.getD i 0 ≤ h.low.length) ∧ g.pos + h.low.getD (g.fingers.getD i 0 - 1).toNat 0 ≤ (c.down.getD i (0, 0)).2 ∧ (c.down.getD i (0, 0)).2 ≤ g.pos + h.high.getD (g.fingers.getD i 0 - 1).toNat 0) := ⟨fun j hj => hI.out j (by have := hl0.out; omega)⟩
  have c1 : ¬ (i : Int) < (g.fingers.length : Int) := by omega
  clear hlt hI hi
  repeat' (with_reducible first | refine x_ops ?_ | refine wk ?_ | ((first | refine gd1 ?_ ?_ | refine gd2 ?_ ?_ | refine gd3 ?_ ?_) <;> (first | exact @False.elim _ | intro hc)))
  clear c1
  refine x_gen (fun t => t 3 = .ptr 0 0 ∧ t 4 = .ptr 1 0 ∧ t 5 = .ptr 2 0 ∧ t 91 = tIs g.fingers ∧ t 92 = vint (g.fingers.length : Int) ∧ t 93 = vint 0) ⟨vw, vw, vw, vw, vw, vv⟩ ?_
  clear z3 z4 z5 z7 z39 z40 z41
  rintro t1 ⟨z3, z4, z5, z91, z92, z93⟩
  refine x_loopW w_theorbolaw06_fits_p23 (by kernel_rfl) g.fingers.length (fun p t m => t 93 = vint (p : Int) ∧ (m.obj 0 = some (.box [tIs h.low, tIs h.high, tBs h.barre, vint h.top, vint h.jump, vint h.shift, vint h.lift, vint h.bar, vint h.stretch, vint h.slide] 25) ∧
      m.obj 1 = some (.box [tPs c.down, tIs c.held, tIs c.opn] 47) ∧ m.obj 2 = some (.box [vint g.pos, tIs g.fingers] 53)) ∧ 3 ≤ m.next ∧ ∀ p', p' < p → ∀ q, q < c.down.length → LawP h c g.fingers p' q) ?_ ?_
  · exact ⟨vw, ⟨vv, vv, vv⟩, by ((refine ve ?_; try exact True.intro)); first | done | omega, fun i h => by omega⟩
  rintro p t3 m hpl ⟨h93, ⟨o0, o1, o2⟩, hn, hI⟩
  replace hI := Hid.mk hI
  by_cases hpt : p < g.fingers.length
  case neg =>
    have c1 : ¬ (p : Int) < (g.fingers.length : Int) := by omega
    have e9 := Hid.mk (law_good (h := h) (c := c) (g := g) ⟨hp0.out, hl0.out, hR.out, fun p' hp' => hI.out p' (by have := hl0.out; omega)⟩)
    repeat' (with_reducible first | refine x_ops ?_ | refine wk ?_ | ((first | refine gd1 ?_ ?_ | refine gd2 ?_ ?_ | refine gd3 ?_ ?_) <;> (first | exact @False.elim _ | intro hc)))
    exact finV_lit vv e9.out
  have c1 : (p : Int) < (g.fingers.length : Int) := by omega
  have hpc : p < c.down.length := by have := hl0.out; omega
  have g1 := ints_at hpt
  have n2 : 2 < m.next := by omega
  have wp := w_add1 (k := p) (by omega)
  repeat' (with_reducible first | refine x_ops ?_ | refine wk ?_ | ((first | refine gd1 ?_ ?_ | refine gd2 ?_ ?_ | refine gd3 ?_ ?_) <;> (first | exact @False.elim _ | intro hc)))
  refine x_gen (fun t => t 3 = .ptr 0 0 ∧ t 4 = .ptr 1 0 ∧ t 5 = .ptr 2 0 ∧ t 91 = tIs g.fingers ∧ t 92 = vint (g.fingers.length : Int) ∧ t 93 = vint (p : Int) ∧ t 10 = vint (p : Int) ∧ t 11 = vint (g.fingers.getD p 0) ∧ t 99 = tIs g.fingers ∧ t 100 = vint (g.fingers.length : Int) ∧ t 101 = vint 0) ⟨vw, vw, vw, vw, vw, vw, vw, vw, vw, vw, vv⟩ ?_
  clear z3 z4 z5 z91 z92 z93 h93
  rintro t2 ⟨z3, z4, z5, z91, z92, z93, z10, z11, z99, z100, z101⟩
  refine x_loopW w_theorbolaw06_fits_p17 (by kernel_rfl) g.fingers.length (fun q t m => t 101 = vint (q : Int) ∧ (m.obj 0 = some (.box [tIs h.low, tIs h.high, tBs h.barre, vint h.top, vint h.jump, vint h.shift, vint h.lift, vint h.bar, vint h.stretch, vint h.slide] 25) ∧
      m.obj 1 = some (.box [tPs c.down, tIs c.held, tIs c.opn] 47) ∧ m.obj 2 = some (.box [vint g.pos, tIs g.fingers] 53)) ∧ 3 ≤ m.next ∧ ∀ q', q' < q → LawP h c g.fingers p q') ?_ ?_
  · exact ⟨vw, ⟨vw, vw, vw⟩, by ((refine ve ?_; try exact True.intro)); first | done | omega, fun i h => by omega⟩
  clear o0 o1 o2 hn n2
  rintro q t4 m2 hql ⟨h101, ⟨o0, o1, o2⟩, hn, hJ⟩
  replace hJ := Hid.mk hJ
  have n0 : 0 < m2.next := by omega
  have n1 : 1 < m2.next := by omega
  have n2 : 2 < m2.next := by omega
  by_cases hqt : q < g.fingers.length
  case neg =>
    have c6 : ¬ (q : Int) < (g.fingers.length : Int) := by omega
    have hrow : Hid (∀ p', p' < p + 1 → ∀ q, q < c.down.length → LawP h c g.fingers p' q) := ⟨fun p' hp' q' hq' => by
      by_cases e : p' = p
      · subst e; exact hJ.out q' (by have := hl0.out; omega)
      · exact hI.out p' (by omega) q' hq'⟩
    clear hqt hql
    repeat' (with_reducible first | refine x_ops ?_ | refine wk ?_ | ((first | refine gd1 ?_ ?_ | refine gd2 ?_ ?_ | refine gd3 ?_ ?_) <;> (first | exact @False.elim _ | intro hc)))
    exact nx hpt ⟨vv, ⟨vw, vw, vw⟩, by ((refine ve ?_; try exact True.intro)); first | done | omega, hrow.out⟩
  have c6 : (q : Int) < (g.fingers.length : Int) := by omega
  have hqc : q < c.down.length := by have := hl0.out; omega
  have g2 := ints_at hqt
  have g3 := pls_take hpc
  have g4 := pls_take hqc
  have c7 : (p : Int) < (c.down.length : Int) := by omega
  have c8 : (q : Int) < (c.down.length : Int) := by omega
  have c9 : p * 2 + 2 ≤ c.down.length * 2 := by omega
  have c10 : q * 2 + 2 ≤ c.down.length * 2 := by omega
  have wq := w_add1 (k := q) (by omega)
  have x0 : ¬ 0 = m2.next + 10 := by omega
  have x1 : ¬ 1 = m2.next + 10 := by omega
  have x2 : ¬ 2 = m2.next + 10 := by omega
  have y0 : ¬ 0 = m2.next + 11 := by omega
  have y1 : ¬ 1 = m2.next + 11 := by omega
  have y2 : ¬ 2 = m2.next + 11 := by omega
  have CQ := clear_fn c hf (c.down.getD p (0, 0)) (c.down.getD q (0, 0))
  obtain ⟨f, hfe⟩ : ∃ f : Nat, g.fingers.getD p 0 = ((f + 1 : Nat) : Int) ∧ f < h.low.length := ⟨(g.fingers.getD p 0 - 1).toNat, by have := (hR.out p hpc).1; omega⟩
  obtain ⟨hfe, hfl⟩ := hfe
  have hfl2 : f < h.barre.length := by have := hnb0.out; omega
  have hn42 : h.barre.length ≤ 4 := by have := hnb0.out; omega
  have bad := Hid.mk fun (hn : ¬ LawP h c g.fingers p q) => law_bad (h := h) (c := c) (g := g) fun hs => hn (hs.prs p hpc q hqc)
  have next : Hid (LawP h c g.fingers p q → ∀ q', q' < q + 1 → LawP h c g.fingers p q') := ⟨fun hh q' hq' => by
    by_cases e : q' = q
    · subst e; exact hh
    · exact hJ.out q' (by omega)⟩
  have hlaw : Hid (LawP h c g.fingers p q ↔ ((c.down.getD p (0, 0)).2 < (c.down.getD q (0, 0)).2 → ((f + 1 : Nat) : Int) < g.fingers.getD q 0) ∧
      ((c.down.getD p (0, 0)).2 = (c.down.getD q (0, 0)).2 → ((f + 1 : Nat) : Int) ≠ g.fingers.getD q 0 → (c.down.getD q (0, 0)).1 < (c.down.getD p (0, 0)).1 → ((f + 1 : Nat) : Int) < g.fingers.getD q 0) ∧
      (((f + 1 : Nat) : Int) = g.fingers.getD q 0 → (c.down.getD p (0, 0)).1 < (c.down.getD q (0, 0)).1 → (c.down.getD p (0, 0)).2 = (c.down.getD q (0, 0)).2 ∧ h.barre.getD f false = true ∧ clrB c (c.down.getD p (0, 0)) (c.down.getD q (0, 0)) = true)) := ⟨by
    rw [LawP, hfe, show (((f + 1 : Nat) : Int) - 1).toNat = f by omega, clr_true]⟩
  rw [hfe] at g1 z11
  have LP : Hid (LawP h c g.fingers p q ↔ LPq h c (c.down.getD p (0, 0)) (c.down.getD q (0, 0)) f (g.fingers.getD q 0)) := ⟨hlaw.out⟩
  clear hfe hR hql hpl hlaw
  replace CQ := Hid.mk CQ
  replace hfl := Hid.mk hfl
  replace hfl2 := Hid.mk hfl2
  replace hn42 := Hid.mk hn42
  generalize c.down.getD p (0, 0) = a at *
  generalize c.down.getD q (0, 0) = b at *
  generalize g.fingers.getD q 0 = e at *
  repeat' (with_reducible first | refine x_ops ?_ | refine wk ?_ | ((first | refine gd1 ?_ ?_ | refine gd2 ?_ ?_ | refine gd3 ?_ ?_) <;> (first | exact @False.elim _ | intro hc)))
  with_reducible refine x_sumM 12259964326927110866783699467465916226893425036201295936 ?hw (fun M x t m => PairQ M (LPq h c a b f e) x ⟨t, m⟩) ?h1 ?h2
  case hw => exact kr
  case h1 => exact fits_pair h c a b f e hfl2.out hn42.out CQ.out vw vw vw vw vw vw vw vw vw vw
  rintro x t5 m5 ⟨hm5, hc5⟩
  dsimp only at hm5
  subst hm5
  have hn14 : 3 ≤ m2.next + 14 := by omega
  rcases hc5 with ⟨rfl, hp5⟩ | ⟨rfl, hp5, h6⟩
  · have hnx := Hid.mk (next.out (LP.out.2 hp5))
    replace hp5 := Hid.mk hp5
    repeat' (with_reducible first | refine x_ops ?_ | refine wk ?_ | ((first | refine gd1 ?_ ?_ | refine gd2 ?_ ?_ | refine gd3 ?_ ?_) <;> (first | exact @False.elim _ | intro hc)))
    exact nx hqt ⟨vv, ⟨vw, vw, vw⟩, by simp only [put_next]; omega, hnx.out⟩
  · have e9 := Hid.mk (bad.out fun hl => hp5 (LP.out.1 hl))
    dsimp only at h6
    replace hp5 := Hid.mk hp5
    repeat' (with_reducible first | refine x_ops ?_ | refine wk ?_ | ((first | refine gd1 ?_ ?_ | refine gd2 ?_ ?_ | refine gd3 ?_ ?_) <;> (first | exact @False.elim _ | intro hc)))
    exact finV_lit vw e9.out
end Go.Proofs.Ytojjdkoglhecbaa
namespace Go.Proofs.Ytojjdkoglhecbaa
open Go.RowKit
set_option linter.unusedSimpArgs false
set_option linter.unusedVariables false

theorem in_take {L : List Grip} {i : Nat} (hi : i < L.length) (g : Grip) : decide (g ∈ L.take (i + 1)) = (decide (g ∈ L.take i) || decide (L.getD i noG = g)) := by
  rw [List.take_succ_eq_append_getElem hi, List.getD_eq_getElem?_getD, List.getElem?_eq_getElem hi, Bool.eq_iff_iff]
  simp only [List.mem_append, List.mem_singleton, Option.getD_some, decide_eq_true_eq, Bool.or_eq_true]
  exact ⟨fun h => h.imp id Eq.symm, fun h => h.imp id Eq.symm⟩
theorem sl_one (L : List Grip) {i : Nat} (hi : i < L.length) : vslc 2 true true (.sl L.length (L.flatMap Grip.cells) .no) [.lit (.int .i64 (i : Int)), .lit (.int .i64 ((i + 1 : Nat) : Int))] = some (.sl 1 [.lit (.int .i64 (L.getD i noG).pos), tIs (L.getD i noG).fingers] .no) := by
  have g1 := gs_take hi
  simp only [vslc, bnds, if_true]
  rw [if_pos ⟨Int.natCast_nonneg _, by omega, by omega⟩]
  simp only [Int.toNat_natCast, show i + 1 - i = 1 by omega, Nat.one_mul, g1]
  rfl
set_option maxHeartbeats 4000000 in
theorem handgripsfit_fn (h : Hand) (c : Chord) (hf : FitC c) (g : Grip) (hg : g.fingers.length ≤ 17592186044416) : Fn Try.prog Gd 7 [h.val, c.val, g.val] (vbool true) := by
  refine Fn.of_vx0 k_theorbolaw06_HandGripsFit (by simp) (by rw [V.pures, pure_hand, V.pures, pure_chord, V.pures, pure_grip]; rfl) ?_
  have C1 := Grips_fn h c hf
  have C2 := rcheck_fn h
  have W := works_fn
  unfold c_theorbolaw06_HandGripsFit Hand.val Chord.val Chord.cells Grip.val Grip.cells
  unfold Hand.val Chord.val Chord.cells tGs grR at C1
  by_cases he : chkE h = 0
  case neg =>
    rw [if_neg he] at C1
    rw [chk_bad he] at C2
    clear he
    unfold Hand.val at C2
    repeat' (with_reducible first | refine x_ops ?_ | refine wk ?_ | (with_reducible refine xc (C1) ?_) | (with_reducible refine xc (C2) ?_) | (with_reducible refine xc (W) ?_) | ((first | refine gd1 ?_ ?_ | refine gd2 ?_ ?_ | refine gd3 ?_ ?_) <;> (first | exact @False.elim _ | intro hc)))
    exact finV_lit vv rfl
  have hk := chk_ok he
  rw [if_pos he] at C1
  rw [he] at C2
  clear he
  cases hr : rgtB c
  · rw [hr, if_neg (by simp)] at C1
    clear hr hk
    unfold Hand.val at C2
    repeat' (with_reducible first | refine x_ops ?_ | refine wk ?_ | (with_reducible refine xc (C1) ?_) | (with_reducible refine xc (C2) ?_) | (with_reducible refine xc (W) ?_) | ((first | refine gd1 ?_ ?_ | refine gd2 ?_ ?_ | refine gd3 ?_ ?_) <;> (first | exact @False.elim _ | intro hc)))
    exact finV_lit vv rfl
  rw [hr, if_pos rfl] at C1
  have hc := rgt_ok hr
  clear hr
  by_cases hl : (grpA h c).length ≤ 200
  case neg =>
    rw [if_neg hl] at C1
    clear hl hk hc
    unfold Hand.val at C2
    repeat' (with_reducible first | refine x_ops ?_ | refine wk ?_ | (with_reducible refine xc (C1) ?_) | (with_reducible refine xc (C2) ?_) | (with_reducible refine xc (W) ?_) | ((first | refine gd1 ?_ ?_ | refine gd2 ?_ ?_ | refine gd3 ?_ ?_) <;> (first | exact @False.elim _ | intro hc)))
    exact finV_lit vv rfl
  rw [if_pos hl] at C1
  have h14 := chord_len hc
  have LF := fun x hx => lfits_fn h hk c hf h14 x hx
  have hmem := Hid.mk fun x : Grip => grpA_mem (h := h) (c := c) (g := x)
  have hbef := Hid.mk fun i h0 hi => grpA_bef (h := h) (c := c) (i := i) h0 hi
  have hlaw := Hid.mk fun x : Grip => lawB_fit hk hc (g := x)
  have hlen := Hid.mk fun (x : Grip) (hx : x ∈ grpA h c) => (grpA_mem.1 hx).len
  obtain ⟨L, hL⟩ : ∃ L, L = grpA h c := ⟨_, rfl⟩
  rw [← hL] at C1 hl hmem hbef hlen
  clear hL
  unfold Hand.val at C2 LF
  unfold Chord.val Chord.cells Grip.val Grip.cells at LF
  dsimp only at C1
  replace hk := Hid.mk hk
  replace hc := Hid.mk hc
  repeat' (with_reducible first | refine x_ops ?_ | refine wk ?_ | (with_reducible refine xc (C1) ?_) | (with_reducible refine xc (C2) ?_) | ((first | refine gd1 ?_ ?_ | refine gd2 ?_ ?_ | refine gd3 ?_ ?_) <;> (first | exact @False.elim _ | intro hc)))
  refine x_gen (fun t => t 3 = .ptr 0 0 ∧ t 4 = .ptr 1 0 ∧ t 5 = .ptr 2 0 ∧ t 7 = .sl L.length (L.flatMap Grip.cells) .no ∧ t 9 = vbool false ∧ t 10 = vint 0) ⟨vv, vv, vv, vv, vv, vv⟩ ?_
  rintro t0 ⟨z3, z4, z5, z7, z9, z10⟩
  refine x_loopF w_theorbolaw06_HandGripsFit_p7 (by kernel_rfl) L.length (fun i t => t 10 = vint (i : Int) ∧ t 9 = vbool (decide (g ∈ L.take i))) ?_ ?_
  · exact ⟨vw, by rw [List.take_zero]; exact vw⟩
  rintro i t hi ⟨h10, h9⟩
  by_cases hlt : i < L.length
  case neg =>
    have hil : i = L.length := by omega
    subst hil
    have c1 : ¬ (L.length : Int) < (L.length : Int) := by omega
    have L1 := LF g hg
    have e9 : decide (g ∈ L.take L.length) = lawB h c g := by
      rw [List.take_of_length_le (Nat.le_refl _), hlaw.out, Bool.eq_iff_iff, decide_eq_true_eq, hmem.out, fit_true]
    rw [e9] at h9
    have e8 : (lawB h c g == lawB h c g) = true := by simp
    generalize lawB h c g = b at *
    clear e9 LF C1 C2
    repeat' (with_reducible first | refine x_ops ?_ | refine wk ?_ | (with_reducible refine xc (L1) ?_) | (with_reducible refine xc (W) ?_) | ((first | refine gd1 ?_ ?_ | refine gd2 ?_ ?_ | refine gd3 ?_ ?_) <;> (first | exact @False.elim _ | intro hc)))
    all_goals exact finV_lit vv rfl
  have c1 : (i : Int) < (L.length : Int) := by omega
  have hx : L.getD i noG ∈ L := by
    rw [List.getD_eq_getElem?_getD, List.getElem?_eq_getElem hlt]; exact List.getElem_mem _
  have hxl := hlen.out _ hx
  have L1 := LF (L.getD i noG) (by omega)
  have e1 : lawB h c (L.getD i noG) = true := by rw [hlaw.out, fit_true]; exact (hmem.out _).1 hx
  rw [e1] at L1
  have SG := samegrips_fn [L.getD i noG] [g] ⟨by simp, fun y hy => by rw [List.mem_singleton] at hy; subst hy; omega⟩
  rw [tGs, tGs, List.flatMap_cons, List.flatMap_nil, List.append_nil, List.flatMap_cons, List.flatMap_nil, List.append_nil, show decide ([L.getD i noG] = [g]) = decide (L.getD i noG = g) from decide_eq_decide.2 ⟨fun e => by injection e, fun e => by rw [e]⟩] at SG
  unfold Grip.cells at SG
  have hin := Hid.mk (in_take hlt g)
  have hs1 := sl_one L hlt
  have g1 := gs_take hlt
  have g2 := gs_len L
  have c3 : i * 2 + 2 ≤ L.length * 2 := by omega
  have w2 := w_add1 (k := i) (by omega)
  have hb : Hid (0 < i → befB (L.getD (i - 1) noG) (L.getD i noG) = true) := ⟨fun h0 => hbef.out i h0 hlt⟩
  replace hlt := Hid.mk hlt
  clear LF C1 C2 hx e1
  by_cases h0 : 0 < i
  · have c4 : (0 : Int) < (i : Int) := by omega
    have B1 := before_fn (L.getD (i - 1) noG) (L.getD i noG) (by
      have hy : L.getD (i - 1) noG ∈ L := by
        rw [List.getD_eq_getElem?_getD, List.getElem?_eq_getElem (by have := hlt.out; omega : i - 1 < L.length)]; exact List.getElem_mem _
      have := hlen.out _ hy
      omega)
    rw [hb.out h0] at B1
    have g3 := gs_take (l := L) (k := i - 1) (by have := hlt.out; omega)
    have c5 : ((i - 1 : Nat) : Int) < (L.length : Int) := by omega
    have c6 : (i - 1) * 2 + 2 ≤ L.length * 2 := by omega
    have w1 := w_sub1 h0 (by omega)
    unfold Grip.val Grip.cells at B1
    clear h0
    generalize L.getD (i - 1) noG = y at *
    generalize L.getD i noG = x at *
    cases hd : decide (g ∈ L.take i)
    · rw [hd] at h9
      repeat' (with_reducible first | refine x_ops ?_ | refine wk ?_ | (with_reducible refine xc (L1) ?_) | (with_reducible refine xc (B1) ?_) | (with_reducible refine xc (SG) ?_) | ((first | refine gd1 ?_ ?_ | refine gd2 ?_ ?_ | refine gd3 ?_ ?_) <;> (first | exact @False.elim _ | intro hc)))
      exact nf hlt.out ⟨vv, by rw [hin.out, hd, Bool.false_or]; exact vv⟩ rfl
    · rw [hd] at h9
      repeat' (with_reducible first | refine x_ops ?_ | refine wk ?_ | (with_reducible refine xc (L1) ?_) | (with_reducible refine xc (B1) ?_) | (with_reducible refine xc (SG) ?_) | ((first | refine gd1 ?_ ?_ | refine gd2 ?_ ?_ | refine gd3 ?_ ?_) <;> (first | exact @False.elim _ | intro hc)))
      exact nf hlt.out ⟨vv, by rw [hin.out, hd, Bool.true_or]; exact vv⟩ rfl
  · have c4 : ¬ (0 : Int) < (i : Int) := by omega
    clear h0
    generalize L.getD i noG = x at *
    cases hd : decide (g ∈ L.take i)
    · rw [hd] at h9
      repeat' (with_reducible first | refine x_ops ?_ | refine wk ?_ | (with_reducible refine xc (L1) ?_) | (with_reducible refine xc (SG) ?_) | ((first | refine gd1 ?_ ?_ | refine gd2 ?_ ?_ | refine gd3 ?_ ?_) <;> (first | exact @False.elim _ | intro hc)))
      exact nf hlt.out ⟨vv, by rw [hin.out, hd, Bool.false_or]; exact vv⟩ rfl
    · rw [hd] at h9
      repeat' (with_reducible first | refine x_ops ?_ | refine wk ?_ | (with_reducible refine xc (L1) ?_) | (with_reducible refine xc (SG) ?_) | ((first | refine gd1 ?_ ?_ | refine gd2 ?_ ?_ | refine gd3 ?_ ?_) <;> (first | exact @False.elim _ | intro hc)))
      exact nf hlt.out ⟨vv, by rw [hin.out, hd, Bool.true_or]; exact vv⟩ rfl
end Go.Proofs.Ytojjdkoglhecbaa
