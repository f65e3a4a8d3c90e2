/- What Grips of the reference answers, on values; the law HandGrips. -/
import Derived.Test.YtojjdkoglhecbaaN5
import Derived.Test.YtojjdkoglhecbaaXw
import Derived.Test.YtojjdkoglhecbaaH7
namespace Go.Proofs.Ytojjdkoglhecbaa
open Go.RowKit
set_option linter.unusedSimpArgs false
set_option linter.unusedVariables false

set_option maxHeartbeats 2000000 in
theorem rall_fn (h : Hand) (hk : HandOk h) (c : Chord) (hf : FitC c) (hc : ChordOk c) : Fn Try.prog Gd 72 [h.val, c.val] (tGs ((grpA h c).take 201)) := by
  refine Fn.of_vx0 k_theorboref06_all (by simp) (by rw [V.pures, pure_hand, V.pures, pure_chord]; rfl) ?_
  have htop := hk.top
  unfold c_theorboref06_all Hand.val Chord.val Chord.cells tGs
  repeat' (first | with_reducible refine x_ops ?_ | refine wk ?_ | ((first | refine gd1 ?_ ?_ | refine gd2 ?_ ?_ | refine gd3 ?_ ?_) <;> (first | with_reducible exact @False.elim _ | intro hc)))
  refine x_loopW w_theorboref06_all_p3 (by kernel_rfl) h.top.toNat (fun p t m => t 6 = vint ((p + 1 : Nat) : Int) ∧ (∃ tok, t 5 = .sl ((fitP h c p).take 201).length (((fitP h c p).take 201).flatMap Grip.cells) tok ∧ Apb m tok ((fitP h c p).take 201).length 53 2) ∧ 2 ≤ m.next ∧
      m.obj 0 = some (.box [tIs h.low, tIs h.high, tBs h.barre, vint h.top, vint h.jump, vint h.shift, vint h.lift, vint h.bar, vint h.stretch, vint h.slide] 25) ∧ m.obj 1 = some (.box [tPs c.down, tIs c.held, tIs c.opn] 47)) ?_ ?_
  · exact ⟨vv, ⟨.exact, vv, .inl rfl⟩, by ((refine ve ?_; try exact True.intro)); first | done | omega, vv, vv⟩
  rintro p t m hp ⟨h6, ⟨tk, h5, hap⟩, hn, o0, o1⟩
  have n0 : 0 < m.next := by omega
  have n1 : 1 < m.next := by omega
  have hap0 := Hid.mk hap
  clear hap
  by_cases hpt : p < h.top.toNat
  case neg =>
    have hpe : p = h.top.toNat := by omega
    subst hpe
    have c1 : ¬ ((h.top.toNat + 1 : Nat) : Int) ≤ h.top := by omega
    unfold grpA
    generalize (fitP h c h.top.toNat).take 201 = L at *
    repeat' (first | with_reducible refine x_ops ?_ | refine wk ?_ | ((first | refine gd1 ?_ ?_ | refine gd2 ?_ ?_ | refine gd3 ?_ ?_) <;> (first | with_reducible exact @False.elim _ | intro hc)))
    exact finV_ret vv (.sl _ _ _)
  have c1 : ((p + 1 : Nat) : Int) ≤ h.top := by omega
  have w1 := w_add1 (k := p + 1) (by omega)
  have hL : (fitP h c (p + 1)).take 201 = ((fitP h c p).take 201 ++ fitT h c ((p + 1 : Nat) : Int) c.down.length []).take 201 := by
    rw [fitP_succ]
    by_cases hg : ((fitP h c p).take 201).length ≤ 200
    · exact (tk_more hg).symm
    · rw [← tk_full hg, List.take_append_of_le_length (by omega), List.take_of_length_le (tk_len _)]
  replace hL := Hid.mk hL
  have PS := rext_sfn h hk c hf hc ((p + 1 : Nat) : Int) (by omega) c.down.length [] ((fitP h c p).take 201) m .exact tk (by simp) (fun i hi => by simp at hi) (tk_len _)
    (fun e => by have := fitP0_len (h := h) e p; rw [List.length_take]; omega) hap0.out
  have hk0 : Hid (tk ≠ .own 0 ∧ tk ≠ .own 1) := ⟨by
    rcases hap0.out with h1 | ⟨t, h1, _, h3⟩
    · rw [h1]; exact ⟨(fun e => by cases e), (fun e => by cases e)⟩
    · rw [h1]; exact ⟨(fun e => by injection e with e; subst e; rw [o0] at h3; cases h3), (fun e => by injection e with e; subst e; rw [o1] at h3; cases h3)⟩⟩
  repeat' (first | with_reducible refine x_ops ?_ | refine wk ?_ | ((first | refine gd1 ?_ ?_ | refine gd2 ?_ ?_ | refine gd3 ?_ ?_) <;> (first | with_reducible exact @False.elim _ | intro hc)))
  refine x_scallR (Post := ExPost m tk (((fitP h c p).take 201 ++ fitT h c ((p + 1 : Nat) : Int) c.down.length []).take 201)) [h.val, c.val, vint ((p + 1 : Nat) : Int), .sl 0 [] .exact, .sl ((fitP h c p).take 201).length (((fitP h c p).take 201).flatMap Grip.cells) tk] ?_ PS (ExPost.some _ _ _) ?_
  · simp only [Hand.val, Chord.val, Chord.cells]; exact vw
  rintro r m4 ⟨tk2, rfl, hap4, hn4, hkeep4, hown4⟩
  have p0 := (hkeep4 _ n0 hk0.out.1).trans o0
  have p1 := (hkeep4 _ n1 hk0.out.2).trans o1
  have hn5 : 2 ≤ m4.next := by omega
  replace hap4 := Hid.mk hap4
  clear hkeep4 hown4 PS o0 o1
  repeat' (first | with_reducible refine x_ops ?_ | refine wk ?_ | ((first | refine gd1 ?_ ?_ | refine gd2 ?_ ?_ | refine gd3 ?_ ?_) <;> (first | with_reducible exact @False.elim _ | intro hc)))
  exact nx hpt ⟨vv, ⟨tk2, by rw [hL.out]; exact vv, by rw [hL.out]; exact hap4.out⟩, hn5, p0, p1⟩
set_option maxHeartbeats 1000000 in
theorem rGrips_fn (h : Hand) (c : Chord) (hf : FitC c) : Fn Try.prog Gd 33 [h.val, c.val] (.tup [tGs (grR h c).1, vint (grR h c).2]) := by
  refine Fn.of_vx0 k_theorboref06_Grips (by simp) (by rw [V.pures, pure_hand, V.pures, pure_chord]; rfl) ?_
  have C1 := rcheck_fn h
  have C2 := good_fn c hf
  unfold grR
  unfold c_theorboref06_Grips Hand.val Chord.val Chord.cells tGs
  by_cases he : chkE h = 0
  case neg =>
    rw [if_neg he]
    rw [chk_bad he] at C1
    clear he
    unfold Hand.val at C1
    repeat' (first | with_reducible refine x_ops ?_ | refine wk ?_ | (with_reducible refine xc (C1) ?_) | ((first | refine gd1 ?_ ?_ | refine gd2 ?_ ?_ | refine gd3 ?_ ?_) <;> (first | with_reducible exact @False.elim _ | intro hc)))
    exact finV_ret vv (.tup (.cons (.sl _ _ _) (.cons (.lit _) .nil)))
  have hk := chk_ok he
  rw [if_pos he]
  rw [he] at C1
  clear he
  cases hr : rgtB c
  · rw [hr] at C2
    rw [if_neg (by simp)]
    clear hr hk
    unfold Hand.val at C1
    unfold Chord.val Chord.cells at C2
    repeat' (first | with_reducible refine x_ops ?_ | refine wk ?_ | (with_reducible refine xc (C1) ?_) | (with_reducible refine xc (C2) ?_) | ((first | refine gd1 ?_ ?_ | refine gd2 ?_ ?_ | refine gd3 ?_ ?_) <;> (first | with_reducible exact @False.elim _ | intro hc)))
    exact finV_ret vv (.tup (.cons (.sl _ _ _) (.cons (.lit _) .nil)))
  rw [hr] at C2
  rw [if_pos rfl]
  have C3 := rall_fn h hk c hf (rgt_ok hr)
  clear hr hk
  unfold Hand.val at C1 C3
  unfold Chord.val Chord.cells at C2 C3
  unfold tGs at C3
  by_cases hl : (grpA h c).length ≤ 200
  · rw [if_pos hl]
    rw [List.take_of_length_le (by omega)] at C3
    have c1 : ¬ (200 : Int) < ((grpA h c).length : Int) := by omega
    clear hl
    generalize grpA h c = L at *
    repeat' (first | with_reducible refine x_ops ?_ | refine wk ?_ | (with_reducible refine xc (C1) ?_) | (with_reducible refine xc (C2) ?_) | (with_reducible refine xc (C3) ?_) | ((first | refine gd1 ?_ ?_ | refine gd2 ?_ ?_ | refine gd3 ?_ ?_) <;> (first | with_reducible exact @False.elim _ | intro hc)))
    exact finV_ret vv (.tup (.cons (.sl _ _ _) (.cons (.lit _) .nil)))
  · rw [if_neg hl]
    have c1 : (200 : Int) < (((grpA h c).take 201).length : Int) := by rw [List.length_take]; omega
    clear hl
    generalize (grpA h c).take 201 = L at *
    repeat' (first | with_reducible refine x_ops ?_ | refine wk ?_ | (with_reducible refine xc (C1) ?_) | (with_reducible refine xc (C2) ?_) | (with_reducible refine xc (C3) ?_) | ((first | refine gd1 ?_ ?_ | refine gd2 ?_ ?_ | refine gd3 ?_ ?_) <;> (first | with_reducible exact @False.elim _ | intro hc)))
    exact finV_ret vv (.tup (.cons (.sl _ _ _) (.cons (.lit _) .nil)))

theorem gs_at0 {l : List Grip} {k : Nat} (h : k < l.length) : (l.flatMap Grip.cells)[k * 2]? = some (V.lit (.int .i64 (l.getD k noG).pos)) := by
  have := flat_at (j := 0) gs_l noG h (by decide); rw [Nat.add_zero] at this; rw [this]; rfl
theorem gs_at1 {l : List Grip} {k : Nat} (h : k < l.length) : (l.flatMap Grip.cells)[k * 2 + 1]? = some (tIs (l.getD k noG).fingers) := by
  rw [flat_at (j := 1) gs_l noG h (by decide)]; rfl
deriving instance DecidableEq for Grip
/-- The same grips. -/
theorem samegrips_fn (a b : List Grip) (ha : FitsG a) : Fn Try.prog Gd 34 [tGs a, tGs b] (vbool (decide (a = b))) := by
  refine Fn.of_vx0 k_theorbolaw06_SameGrips (by simp) (by rw [V.pures, pure_tGs, V.pures, pure_tGs]; rfl) ?_
  have hal := ha.1
  unfold c_theorbolaw06_SameGrips tGs
  by_cases hab : a.length = b.length
  case neg =>
    have hab' : ((a.length : Int) == (b.length : Int)) = false := by simp; omega
    repeat' (first | with_reducible refine x_ops ?_ | refine wk ?_ | ((first | refine gd1 ?_ ?_ | refine gd2 ?_ ?_ | refine gd3 ?_ ?_) <;> (first | with_reducible exact @False.elim _ | intro hc)))
    exact finV_lit vv (by rw [decide_eq_false]; rintro rfl; exact hab rfl)
  have hab' : ((a.length : Int) == (a.length : Int)) = true := by simp
  have hab2 := hab.symm
  clear hab
  repeat' (first | with_reducible refine x_ops ?_ | refine wk ?_ | ((first | refine gd1 ?_ ?_ | refine gd2 ?_ ?_ | refine gd3 ?_ ?_) <;> (first | with_reducible exact @False.elim _ | intro hc)))
  refine x_loopF w_theorbolaw06_SameGrips_p5 (by kernel_rfl) a.length (fun k t => t 5 = vint (k : Int) ∧ ∀ i, i < k → a.getD i noG = b.getD i noG) ?_ ?_
  · exact ⟨vv, fun i h => by omega⟩
  rintro k t hk ⟨h5, hI⟩
  by_cases hlt : k < a.length
  · have g1 := gs_at0 hlt
    have g2 := gs_at0 (l := b) (k := k) (by omega)
    have g3 := gs_at1 hlt
    have g4 := gs_at1 (l := b) (k := k) (by omega)
    have g5 := gs_len a
    have g6 := gs_len b
    have c2 : (k : Int) < (a.length : Int) := by omega
    have w2 := w_add1 (k := k) (by omega)
    have SI := sameints_fn (a.getD k noG).fingers (b.getD k noG).fingers (by have := ha.at k; omega)
    have hlast : Hid (a.getD k noG = b.getD k noG ↔ (a.getD k noG).pos = (b.getD k noG).pos ∧ (a.getD k noG).fingers = (b.getD k noG).fingers) := ⟨by
      constructor
      · intro e; rw [e]; exact ⟨rfl, rfl⟩
      · intro ⟨e1, e2⟩
        cases ha' : a.getD k noG; cases hb' : b.getD k noG
        rw [ha', hb'] at e1 e2; simp only at e1 e2; rw [e1, e2]⟩
    have bad : Hid (a.getD k noG ≠ b.getD k noG → decide (a = b) = false) := ⟨fun hne => by rw [decide_eq_false]; rintro rfl; exact hne rfl⟩
    by_cases hp : (a.getD k noG).pos = (b.getD k noG).pos
    · by_cases hq : (a.getD k noG).fingers = (b.getD k noG).fingers
      · rw [decide_eq_true hq] at SI
        have hgood := Hid.mk (hlast.out.2 ⟨hp, hq⟩)
        have hp' : ((a.getD k noG).pos == (b.getD k noG).pos) = true := by rw [hp]; simp
        clear hp hq
        repeat' (first | with_reducible refine x_ops ?_ | refine wk ?_ | (with_reducible refine xc (SI) ?_) | ((first | refine gd1 ?_ ?_ | refine gd2 ?_ ?_ | refine gd3 ?_ ?_) <;> (first | with_reducible exact @False.elim _ | intro hc)))
        refine nf (by omega) ⟨vv, fun i h => ?_⟩ rfl
        by_cases hi : i = k
        · subst hi; exact hgood.out
        · exact hI i (by omega)
      · rw [decide_eq_false hq] at SI
        have hp' : ((a.getD k noG).pos == (b.getD k noG).pos) = true := by rw [hp]; simp
        have hb := Hid.mk (bad.out fun e => hq (hlast.out.1 e).2)
        clear hp hq
        repeat' (first | with_reducible refine x_ops ?_ | refine wk ?_ | (with_reducible refine xc (SI) ?_) | ((first | refine gd1 ?_ ?_ | refine gd2 ?_ ?_ | refine gd3 ?_ ?_) <;> (first | with_reducible exact @False.elim _ | intro hc)))
        exact finV_lit vv (by rw [hb.out])
    · have hp' : ((a.getD k noG).pos == (b.getD k noG).pos) = false := by simpa using hp
      have hb := Hid.mk (bad.out fun e => hp (hlast.out.1 e).1)
      clear hp
      repeat' (first | with_reducible refine x_ops ?_ | refine wk ?_ | (with_reducible refine xc (SI) ?_) | ((first | refine gd1 ?_ ?_ | refine gd2 ?_ ?_ | refine gd3 ?_ ?_) <;> (first | with_reducible exact @False.elim _ | intro hc)))
      exact finV_lit vv (by rw [hb.out])
  · have c1 : ¬ ((k : Int) < (a.length : Int)) := by omega
    repeat' (first | with_reducible refine x_ops ?_ | refine wk ?_ | ((first | refine gd1 ?_ ?_ | refine gd2 ?_ ?_ | refine gd3 ?_ ?_) <;> (first | with_reducible exact @False.elim _ | intro hc)))
    refine finV_lit vv ?_
    rw [decide_eq_true]
    refine List.ext_getElem hab2.symm fun i h1 h2 => ?_
    have := hI i (by omega)
    simpa [List.getD_eq_getElem?_getD, h1, h2] using this
theorem grR_fits (h : Hand) (c : Chord) (hf : FitC c) : FitsG (grR h c).1 := by
  unfold grR
  split <;> (try split) <;> (try split)
  · rename_i h1
    refine ⟨by show (grpA h c).length ≤ _; omega, fun g hg => ?_⟩
    have := (grpA_mem.1 hg).len
    have := hf.1
    omega
  all_goals exact ⟨by simp, fun g hg => by cases hg⟩
theorem handgrips_fn (h : Hand) (c : Chord) (hf : FitC c) : Fn Try.prog Gd 6 [h.val, c.val] (vbool true) := by
  refine Fn.of_vx0 k_theorbolaw06_HandGrips (by simp) (by rw [V.pures, pure_hand, V.pures, pure_chord]; rfl) ?_
  have C1 := Grips_fn h c hf
  have C2 := rGrips_fn h c hf
  have C3 := samegrips_fn (grR h c).1 (grR h c).1 (grR_fits h c hf)
  rw [decide_eq_true rfl] at C3
  have C4 := works_fn
  generalize grR h c = r at *
  unfold tGs at C1 C2 C3
  unfold Hand.val at C1 C2
  unfold Chord.val Chord.cells at C1 C2
  unfold c_theorbolaw06_HandGrips Hand.val Chord.val Chord.cells
  repeat' (first | with_reducible refine x_ops ?_ | refine wk ?_ | (with_reducible refine xc (C1) ?_) | (with_reducible refine xc (C2) ?_) | (with_reducible refine xc (C3) ?_) | (with_reducible refine xc (C4) ?_) | ((first | refine gd1 ?_ ?_ | refine gd2 ?_ ?_ | refine gd3 ?_ ?_) <;> (first | with_reducible exact @False.elim _ | intro hc)))
  exact finV_lit vv rfl
end Go.Proofs.Ytojjdkoglhecbaa
