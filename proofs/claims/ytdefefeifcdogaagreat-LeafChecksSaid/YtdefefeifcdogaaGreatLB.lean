/- A valid hand and valid rules, of both. -/
import Derived.Test.YtdefefeifcdogaaGreatLA
namespace Go.Proofs.YtdefefeifcdogaaGreat
open Go.RowKit
set_option linter.unusedSimpArgs false
set_option linter.unusedVariables false

theorem within_fn (n a b : Int) : Fn Tryz.prog Gd 149 [vint n, vint a, vint b] (vbool (decide (a ≤ n) && decide (n ≤ b))) := by
  refine Fn.of_vx0 k_hand_within (by simp) rfl ?_
  unfold c_hand_within
  repeat' (with_reducible first | refine x_ops ?_ | refine wk ?_ | ((first | refine gd1 ?_ ?_ | refine gd2 ?_ ?_ | refine gd3 ?_ ?_) <;> (first | exact @False.elim _ | intro hc)))
  all_goals refine finV_lit vv ?_
  all_goals simp only [Bool.true_and, Bool.false_and]
theorem lwithin_fn (n a b : Int) : Fn Tryz.prog Gd 76 [vint n, vint a, vint b] (vbool (decide (a ≤ n) && decide (n ≤ b))) := by
  refine Fn.of_vx0 k_leaf_within (by simp) rfl ?_
  unfold c_leaf_within
  repeat' (with_reducible first | refine x_ops ?_ | refine wk ?_ | ((first | refine gd1 ?_ ?_ | refine gd2 ?_ ?_ | refine gd3 ?_ ?_) <;> (first | exact @False.elim _ | intro hc)))
  all_goals refine finV_lit vv ?_
  all_goals simp only [Bool.true_and, Bool.false_and]
/-- It does not fall. -/
def ascB (l : List Int) : Bool := allB (l.length - 1) fun i => decide (l.getD i 0 ≤ l.getD (i + 1) 0)
theorem issorted_fn (l : List Int) (hl : l.length ≤ 4611686018427387904) : Fn Tryz.prog Gd 150 [tIs l] (vbool (ascB l)) := by
  refine Fn.of_vx0 k_slices_IsSorted_int_int (by simp) (by rw [V.pures, pure_tIs]; rfl) ?_
  unfold c_slices_IsSorted_int_int tIs
  repeat' (with_reducible first | refine x_ops ?_ | refine wk ?_ | ((first | refine gd1 ?_ ?_ | refine gd2 ?_ ?_ | refine gd3 ?_ ?_) <;> (first | exact @False.elim _ | intro hc)))
  refine x_loopW w_slices_IsSorted_int_int_p4 (by kernel_rfl) l.length (fun k t m => t 3 = vint ((l.length : Int) - 1 - k) ∧ ∀ i, l.length - 1 - k ≤ i → i + 1 < l.length → l.getD i 0 ≤ l.getD (i + 1) 0) ?_ ?_
  · refine ⟨?_, fun i h1 h2 => by omega⟩
    (refine ve ?_; try exact True.intro)
    rw [w_in (by omega)]; simp
  · rintro k t m hk ⟨h3, hI⟩
    by_cases hlt : k + 1 < l.length
    · obtain ⟨j, hj⟩ : ∃ j : Nat, ((l.length : Int) - 1 - k) = ((j + 1 : Nat) : Int) := ⟨l.length - 2 - k, by omega⟩
      rw [hj] at h3
      have g1 := ints_at (l := l) (k := j + 1) (by omega)
      have g2 := ints_at (l := l) (k := j) (by omega)
      have c1 : (0 : Int) < ((j + 1 : Nat) : Int) := by omega
      have c2 : ((j + 1 : Nat) : Int) < (l.length : Int) := by omega
      have c3 : (j : Int) < (l.length : Int) := by omega
      have w1 : IntKind.i64.wrap (((j + 1 : Nat) : Int) - 1) = (j : Int) := by rw [w_in (by omega)]; omega
      repeat' (with_reducible first | refine x_ops ?_ | refine wk ?_ | (with_reducible refine xc (less_fn _ _) ?_) | ((first | refine gd1 ?_ ?_ | refine gd2 ?_ ?_ | refine gd3 ?_ ?_) <;> (first | exact @False.elim _ | intro hc)))
      · refine finV_lit vv ?_
        rw [ascB, allB_false (i := j) (by omega)]
        rw [decide_eq_false_iff_not]; omega
      · refine nx (by omega) ⟨by ((refine ve ?_; try exact True.intro)); congr 2; omega, fun i h1 h2 => ?_⟩
        by_cases hi : i = j
        · subst hi; omega
        · exact hI i (by omega) h2
    · have c1 : ¬ ((0 : Int) < (l.length : Int) - 1 - k) := by omega
      repeat' (with_reducible first | refine x_ops ?_ | refine wk ?_ | ((first | refine gd1 ?_ ?_ | refine gd2 ?_ ?_ | refine gd3 ?_ ?_) <;> (first | exact @False.elim _ | intro hc)))
      refine finV_lit vv ?_
      rw [ascB, allB_true]
      intro i hi
      simp
      exact hI i (by omega) (by omega)

theorem pure_tBs (l : List Bool) : (tBs l).pure = true := by rw [tBs, V.pure]; intro t h; cases h
theorem bools_at {l : List Bool} {k : Nat} (h : k < l.length) : (l.map vbool)[k]? = some (V.lit (.bool (l.getD k false))) := by
  rw [List.getElem?_map, List.getD_eq_getElem?_getD, List.getElem?_eq_getElem h]; rfl
structure Hand where
  low : List Int
  high : List Int
  barre : List Bool
  top : Int
  jump : Int
  shift : Int
  lift : Int
  bar : Int
  stretch : Int
  slide : Int
def Hand.val (h : Hand) : V := .agg [tIs h.low, tIs h.high, tBs h.barre, vint h.top, vint h.jump, vint h.shift, vint h.lift, vint h.bar, vint h.stretch, vint h.slide]
theorem pure_hand (h : Hand) : h.val.pure = true := by
  rw [Hand.val, V.pure]
  simp only [V.pures, pure_tIs, pure_tBs, vint, V.pure, Bool.and_self]
/-- A valid hand. -/
structure HandOk (h : Hand) : Prop where
  n1 : 1 ≤ h.low.length
  n4 : h.low.length ≤ 4
  nh : h.high.length = h.low.length
  nb : h.barre.length = h.low.length
  each : ∀ i, i < h.low.length → 0 ≤ h.low.getD i 0 ∧ h.low.getD i 0 ≤ h.high.getD i 0 ∧ h.high.getD i 0 ≤ 8
  al : ascB h.low = true
  ah : ascB h.high = true
  top : 1 ≤ h.top ∧ h.top ≤ 18
  jump : 0 ≤ h.jump ∧ h.jump ≤ 18
  shift : 0 ≤ h.shift ∧ h.shift ≤ 1000
  lift : 0 ≤ h.lift ∧ h.lift ≤ 1000
  bar : 0 ≤ h.bar ∧ h.bar ≤ 1000
  stretch : 0 ≤ h.stretch ∧ h.stretch ≤ 1000
  slide : 0 ≤ h.slide ∧ h.slide ≤ 1000
/-- The weights. -/
def Hand.ws (h : Hand) : List Int := [h.shift, h.lift, h.bar, h.stretch, h.slide]
theorem HandOk.ws {h : Hand} (hk : HandOk h) (i : Nat) (hi : i < 5) : 0 ≤ h.ws.getD i 0 ∧ h.ws.getD i 0 ≤ 1000 := by
  have : i = 0 ∨ i = 1 ∨ i = 2 ∨ i = 3 ∨ i = 4 := by omega
  rcases this with rfl | rfl | rfl | rfl | rfl
  · exact hk.shift
  · exact hk.lift
  · exact hk.bar
  · exact hk.stretch
  · exact hk.slide
open Classical in
noncomputable def chkE (h : Hand) : Int := if HandOk h then 0 else 60
theorem chkE_bad {h : Hand} (hn : ¬ HandOk h) : Value.int .i64 60 = Value.int .i64 (chkE h) := by rw [chkE, if_neg hn]
theorem chkE_good {h : Hand} (hn : HandOk h) : Value.int .i64 0 = Value.int .i64 (chkE h) := by rw [chkE, if_pos hn]

set_option maxHeartbeats 1000000 in
theorem hcheck_fn (h : Hand) : Fn Tryz.prog Gd 75 [h.val] (vint (chkE h)) := by
  refine Fn.of_vx0 k_hand_Check (by simp) (by rw [V.pures, pure_hand]; rfl) ?_
  unfold c_hand_Check Hand.val
  by_cases hn : 1 ≤ h.low.length ∧ h.low.length ≤ 4
  case neg =>
    have d1 : (decide ((1 : Int) ≤ (h.low.length : Int)) && decide ((h.low.length : Int) ≤ 4)) = false := by simp; omega
    repeat' (with_reducible first | refine x_ops ?_ | refine wk ?_ | (with_reducible refine xc (within_fn _ _ _) ?_) | ((first | refine gd1 ?_ ?_ | refine gd2 ?_ ?_ | refine gd3 ?_ ?_) <;> (first | exact @False.elim _ | intro hc)))
    all_goals refine finV_lit vv (chkE_bad fun hk => ?_)
    all_goals exact absurd ⟨hk.n1, hk.n4⟩ hn
  obtain ⟨hn1, hn4⟩ := hn
  have d1 : (decide ((1 : Int) ≤ (h.low.length : Int)) && decide ((h.low.length : Int) ≤ 4)) = true := by simp; omega
  by_cases hh : h.high.length = h.low.length
  case neg =>
    have d2 : ((h.high.length : Int) == (h.low.length : Int)) = false := by simp; omega
    repeat' (with_reducible first | refine x_ops ?_ | refine wk ?_ | (with_reducible refine xc (within_fn _ _ _) ?_) | ((first | refine gd1 ?_ ?_ | refine gd2 ?_ ?_ | refine gd3 ?_ ?_) <;> (first | exact @False.elim _ | intro hc)))
    all_goals refine finV_lit vv (chkE_bad fun hk => ?_)
    all_goals exact absurd hk.nh hh
  have d2 : ((h.high.length : Int) == (h.low.length : Int)) = true := by rw [hh]; simp
  replace hh := Hid.mk hh
  by_cases hb : h.barre.length = h.low.length
  case neg =>
    have d3 : ((h.barre.length : Int) == (h.low.length : Int)) = false := by simp; omega
    repeat' (with_reducible first | refine x_ops ?_ | refine wk ?_ | (with_reducible refine xc (within_fn _ _ _) ?_) | ((first | refine gd1 ?_ ?_ | refine gd2 ?_ ?_ | refine gd3 ?_ ?_) <;> (first | exact @False.elim _ | intro hc)))
    all_goals refine finV_lit vv (chkE_bad fun hk => ?_)
    all_goals exact absurd hk.nb hb
  have d3 : ((h.barre.length : Int) == (h.low.length : Int)) = true := by rw [hb]; simp
  replace hb := Hid.mk hb
  repeat' (with_reducible first | refine x_ops ?_ | refine wk ?_ | (with_reducible refine xc (within_fn _ _ _) ?_) | ((first | refine gd1 ?_ ?_ | refine gd2 ?_ ?_ | refine gd3 ?_ ?_) <;> (first | exact @False.elim _ | intro hc)))
  refine x_loopF w_hand_Check_p6 (by kernel_rfl) h.low.length (fun k t => t 28 = vint (k : Int) ∧ ∀ i, i < k → 0 ≤ h.low.getD i 0 ∧ h.low.getD i 0 ≤ h.high.getD i 0 ∧ h.high.getD i 0 ≤ 8) ?_ ?_
  · exact ⟨vv, fun i h => by omega⟩
  rintro k t hk ⟨h28, hI⟩
  by_cases hlt : k < h.low.length
  · have g1 := ints_at (l := h.low) (k := k) (by omega)
    have hh1 := hh.out
    have g2 := ints_at (l := h.high) (k := k) (by omega)
    have c3 : (k : Int) < (h.high.length : Int) := by omega
    clear hh1
    have c2 : (k : Int) < (h.low.length : Int) := by omega
    have w2 := w_add1 (k := k) (by omega)
    repeat' (with_reducible first | refine x_ops ?_ | refine wk ?_ | ((first | refine gd1 ?_ ?_ | refine gd2 ?_ ?_ | refine gd3 ?_ ?_) <;> (first | exact @False.elim _ | intro hc)))
    all_goals first
      | (refine nf (by omega) ⟨vv, fun i h => ?_⟩ rfl
         by_cases hi : i = k
         · subst hi; exact ⟨by omega, by omega, by omega⟩
         · exact hI i (by omega))
      | (refine finV_lit vv (chkE_bad fun hk => ?_)
         have := hk.each k hlt
         omega)
  have hI : ∀ i, i < h.low.length → 0 ≤ h.low.getD i 0 ∧ h.low.getD i 0 ≤ h.high.getD i 0 ∧ h.high.getD i 0 ≤ 8 := fun i hi => hI i (by omega)
  have c1 : ¬ ((k : Int) < (h.low.length : Int)) := by omega
  have I1 := issorted_fn h.low (by omega)
  have I2 := issorted_fn h.high (by rw [hh.out]; omega)
  clear hlt hk
  cases al : ascB h.low <;> cases ah : ascB h.high <;> cases d4 : (decide (1 ≤ h.top) && decide (h.top ≤ 18)) <;> cases d5 : (decide (0 ≤ h.jump) && decide (h.jump ≤ 18))
  case true.true.true.true =>
    repeat' (with_reducible first | refine x_ops ?_ | refine wk ?_ | (with_reducible refine xc (within_fn _ _ _) ?_) | (with_reducible refine xc (I1) ?_) | (with_reducible refine xc (I2) ?_) | ((first | refine gd1 ?_ ?_ | refine gd2 ?_ ?_ | refine gd3 ?_ ?_) <;> (first | exact @False.elim _ | intro hc)))
    refine x_loopF w_hand_Check_p13 (by kernel_rfl) 5 (fun k t => t 93 = vint (k : Int) ∧ ∀ i, i < k → 0 ≤ (Hand.ws h).getD i 0 ∧ (Hand.ws h).getD i 0 ≤ 1000) ?_ ?_
    · exact ⟨vv, fun i h => by omega⟩
    rintro q t' hq ⟨h93, hJ⟩
    by_cases hlt : q < 5
    · have g1 : [V.lit (.int .i64 h.shift), V.lit (.int .i64 h.lift), V.lit (.int .i64 h.bar), V.lit (.int .i64 h.stretch), V.lit (.int .i64 h.slide)][q]? = some (V.lit (.int .i64 ((Hand.ws h).getD q 0))) := ints_at (l := Hand.ws h) (k := q) hlt
      have c2 : (q : Int) < 5 := by omega
      have w2 := w_add1 (k := q) (by omega)
      cases d6 : (decide (0 ≤ (Hand.ws h).getD q 0) && decide ((Hand.ws h).getD q 0 ≤ 1000))
      · repeat' (with_reducible first | refine x_ops ?_ | refine wk ?_ | (with_reducible refine xc (within_fn _ _ _) ?_) | ((first | refine gd1 ?_ ?_ | refine gd2 ?_ ?_ | refine gd3 ?_ ?_) <;> (first | exact @False.elim _ | intro hc)))
        refine finV_lit vv (chkE_bad fun hk => ?_)
        have := hk.ws q hlt
        rw [decide_eq_true this.1, decide_eq_true this.2] at d6
        cases d6
      · repeat' (with_reducible first | refine x_ops ?_ | refine wk ?_ | (with_reducible refine xc (within_fn _ _ _) ?_) | ((first | refine gd1 ?_ ?_ | refine gd2 ?_ ?_ | refine gd3 ?_ ?_) <;> (first | exact @False.elim _ | intro hc)))
        refine nf (by omega) ⟨vv, fun i h => ?_⟩ rfl
        by_cases hi : i = q
        · subst hi; simpa only [Bool.and_eq_true, decide_eq_true_eq] using d6
        · exact hJ i (by omega)
    · have c3 : ¬ ((q : Int) < 5) := by omega
      repeat' (with_reducible first | refine x_ops ?_ | refine wk ?_ | (with_reducible refine xc (within_fn _ _ _) ?_) | ((first | refine gd1 ?_ ?_ | refine gd2 ?_ ?_ | refine gd3 ?_ ?_) <;> (first | exact @False.elim _ | intro hc)))
      have hq5 : q = 5 := by omega
      refine finV_lit vv (chkE_good ?_)
      simp only [Bool.and_eq_true, decide_eq_true_eq] at d4 d5
      have hJ := fun i (hi : i < 5) => hJ i (by omega)
      exact ⟨hn1, hn4, hh.out, hb.out, hI, al, ah, d4, d5, hJ 0 (by decide), hJ 1 (by decide), hJ 2 (by decide), hJ 3 (by decide), hJ 4 (by decide)⟩
  all_goals
    repeat' (with_reducible first | refine x_ops ?_ | refine wk ?_ | (with_reducible refine xc (within_fn _ _ _) ?_) | (with_reducible refine xc (I1) ?_) | (with_reducible refine xc (I2) ?_) | ((first | refine gd1 ?_ ?_ | refine gd2 ?_ ?_ | refine gd3 ?_ ?_) <;> (first | exact @False.elim _ | intro hc)))
    all_goals refine finV_lit vv (chkE_bad fun hk => ?_)
    all_goals first
      | (have := hk.al; simp_all; done)
      | (have := hk.ah; simp_all; done)
      | (have := hk.top; simp at d4; omega)
      | (have := hk.jump; simp at d5; omega)
set_option maxHeartbeats 1000000 in
theorem rhcheck_fn (h : Hand) : Fn Tryz.prog Gd 77 [h.val] (vint (chkE h)) := by
  refine Fn.of_vx0 k_theorboref06_Check (by simp) (by rw [V.pures, pure_hand]; rfl) ?_
  unfold c_theorboref06_Check Hand.val
  repeat' (with_reducible first | refine x_ops ?_ | refine wk ?_ | ((first | refine gd1 ?_ ?_ | refine gd2 ?_ ?_ | refine gd3 ?_ ?_) <;> (first | exact @False.elim _ | intro hc)))
  all_goals first
    | (refine finV_lit vv (chkE_bad fun hk => ?_)
       have h1 := hk.n1
       have h2 := hk.n4
       have h3 := hk.nh
       have h4 := hk.nb
       try simp only [beq_eq_false_iff_ne, beq_iff_eq] at *
       omega)
    | skip
  rename_i e1 e2 hh
  have hb : h.barre.length = h.low.length := by have := eq_of_beq hc; omega
  replace hh : h.high.length = h.low.length := by have := eq_of_beq hh; omega
  clear hc
  have hn1 : 1 ≤ h.low.length := by omega
  have hn4 : h.low.length ≤ 4 := by omega
  clear e1 e2
  refine x_loopF w_theorboref06_Check_p5 (by kernel_rfl) h.low.length (fun k t => t 4 = vint (k : Int) ∧ ∀ i, i < k → (0 ≤ h.low.getD i 0 ∧ h.low.getD i 0 ≤ h.high.getD i 0 ∧ h.high.getD i 0 ≤ 8) ∧ (0 < i → h.low.getD (i - 1) 0 ≤ h.low.getD i 0 ∧ h.high.getD (i - 1) 0 ≤ h.high.getD i 0)) ?_ ?_
  · exact ⟨vv, fun i h => by omega⟩
  rintro k t hk ⟨h4, hI⟩
  by_cases hlt : k < h.low.length
  · have g1 := ints_at (l := h.low) (k := k) (by omega)
    have g2 := ints_at (l := h.high) (k := k) (by omega)
    have c2 : (k : Int) < (h.low.length : Int) := by omega
    have w2 := w_add1 (k := k) (by omega)
    by_cases hk0 : 0 < k
    · have g3 := ints_at (l := h.low) (k := k - 1) (by omega)
      have g4 := ints_at (l := h.high) (k := k - 1) (by omega)
      have c3 : ((k - 1 : Nat) : Int) < (h.low.length : Int) := by omega
      have c4 : (0 : Int) < (k : Int) := by omega
      have w1 := w_sub1 hk0 (by omega)
      repeat' (with_reducible first | refine x_ops ?_ | refine wk ?_ | ((first | refine gd1 ?_ ?_ | refine gd2 ?_ ?_ | refine gd3 ?_ ?_) <;> (first | exact @False.elim _ | intro hc)))
      all_goals first
        | (refine nf (by omega) ⟨vv, fun i h => ?_⟩ rfl
           by_cases hi : i = k
           · subst hi; exact ⟨by omega, fun _ => by omega⟩
           · exact hI i (by omega))
        | (refine finV_lit vv (chkE_bad fun hk => ?_)
           have h5 := hk.each k hlt
           have h6 := allB_iff.1 hk.al (k - 1) (by omega)
           have h7 := allB_iff.1 hk.ah (k - 1) (by omega)
           rw [decide_eq_true_eq, Nat.sub_add_cancel hk0] at h6 h7
           omega)
    · have hk1 : ¬ (0 : Int) < (k : Int) := by omega
      repeat' (with_reducible first | refine x_ops ?_ | refine wk ?_ | ((first | refine gd1 ?_ ?_ | refine gd2 ?_ ?_ | refine gd3 ?_ ?_) <;> (first | exact @False.elim _ | intro hc)))
      all_goals first
        | (refine nf (by omega) ⟨vv, fun i h => ?_⟩ rfl
           have hi : i = k := by omega
           subst hi; exact ⟨by omega, fun h => by omega⟩)
        | (refine finV_lit vv (chkE_bad fun hk => ?_)
           have h5 := hk.each k hlt
           omega)
  have hI : ∀ i, i < h.low.length → (0 ≤ h.low.getD i 0 ∧ h.low.getD i 0 ≤ h.high.getD i 0 ∧ h.high.getD i 0 ≤ 8) ∧ (0 < i → h.low.getD (i - 1) 0 ≤ h.low.getD i 0 ∧ h.high.getD (i - 1) 0 ≤ h.high.getD i 0) := fun i hi => hI i (by omega)
  have c1 : ¬ ((k : Int) < (h.low.length : Int)) := by omega
  clear hlt hk
  repeat' (with_reducible first | refine x_ops ?_ | refine wk ?_ | ((first | refine gd1 ?_ ?_ | refine gd2 ?_ ?_ | refine gd3 ?_ ?_) <;> (first | exact @False.elim _ | intro hc)))
  all_goals first
    | (refine finV_lit vv (chkE_bad fun hk => ?_)
       have h5 := hk.top
       have h6 := hk.jump
       omega)
    | skip
  rename_i t1 t2 j1
  refine x_loopF w_theorboref06_Check_p13 (by kernel_rfl) 5 (fun k t => t 124 = vint (k : Int) ∧ ∀ i, i < k → 0 ≤ (Hand.ws h).getD i 0 ∧ (Hand.ws h).getD i 0 ≤ 1000) ?_ ?_
  · exact ⟨vv, fun i h => by omega⟩
  rintro q t' hq ⟨h124, hJ⟩
  by_cases hlt : q < 5
  · have g1 : [V.lit (.int .i64 h.shift), V.lit (.int .i64 h.lift), V.lit (.int .i64 h.bar), V.lit (.int .i64 h.stretch), V.lit (.int .i64 h.slide)][q]? = some (V.lit (.int .i64 ((Hand.ws h).getD q 0))) := ints_at (l := Hand.ws h) (k := q) hlt
    have c2 : (q : Int) < 5 := by omega
    have w2 := w_add1 (k := q) (by omega)
    repeat' (with_reducible first | refine x_ops ?_ | refine wk ?_ | ((first | refine gd1 ?_ ?_ | refine gd2 ?_ ?_ | refine gd3 ?_ ?_) <;> (first | exact @False.elim _ | intro hc)))
    all_goals first
      | (refine finV_lit vv (chkE_bad fun hk => ?_)
         have := hk.ws q hlt
         omega)
      | (refine nf (by omega) ⟨vv, fun i h => ?_⟩ rfl
         by_cases hi : i = q
         · subst hi; omega
         · exact hJ i (by omega))
  · have c3 : ¬ ((q : Int) < 5) := by omega
    repeat' (with_reducible first | refine x_ops ?_ | refine wk ?_ | ((first | refine gd1 ?_ ?_ | refine gd2 ?_ ?_ | refine gd3 ?_ ?_) <;> (first | exact @False.elim _ | intro hc)))
    have hq5 : q = 5 := by omega
    refine finV_lit vv (chkE_good ?_)
    have hJ := fun i (hi : i < 5) => hJ i (by omega)
    refine ⟨hn1, hn4, hh, hb, fun i hi => (hI i hi).1, allB_true fun i hi => ?_, allB_true fun i hi => ?_, by omega, by omega, hJ 0 (by decide), hJ 1 (by decide), hJ 2 (by decide), hJ 3 (by decide), hJ 4 (by decide)⟩
    · rw [decide_eq_true_eq]
      have := ((hI (i + 1) (by omega)).2 (by omega)).1
      simpa using this
    · rw [decide_eq_true_eq]
      have := ((hI (i + 1) (by omega)).2 (by omega)).2
      simpa using this
end Go.Proofs.YtdefefeifcdogaaGreat
