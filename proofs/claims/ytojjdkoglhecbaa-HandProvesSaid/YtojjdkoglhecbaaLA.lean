/- What each chord of a fingering costs: definitions, on values. The error of a hand and a sequence, program and reference, on values. What each chord of a fingering costs: the reference, on values. What each chord of a fingering costs: the program, on values. What a fingering costs, and which chord costs most: program and reference, on values. The law HandValid, on values. -/
import Derived.Test.YtojjdkoglhecbaaK6
import Derived.Test.YtojjdkoglhecbaaP5
import Derived.Test.YtojjdkoglhecbaaH8
import Derived.Test.YtojjdkoglhecbaaJ6
import Derived.Test.YtojjdkoglhecbaaK4
import Derived.Test.YtojjdkoglhecbaaJ1
import Derived.Test.YtojjdkoglhecbaaXw
namespace Go.Proofs.Ytojjdkoglhecbaa
open Go.RowKit
set_option linter.unusedSimpArgs false
set_option linter.unusedVariables false

/-- No grip. -/
def noG : Grip := ⟨0, []⟩
/-- A list of grips. -/
def tGs (l : List Grip) : V := .sl l.length (l.flatMap Grip.cells) .no
theorem pure_tGs (l : List Grip) : (tGs l).pure = true := by rw [tGs, V.pure]; intro t h; cases h
theorem gs_l (x : Grip) : x.cells.length = 2 := rfl
theorem gs_len (l : List Grip) : (l.flatMap Grip.cells).length = l.length * 2 := flat_len gs_l l
theorem gs_take {l : List Grip} {k : Nat} (h : k < l.length) : ((l.flatMap Grip.cells).drop (k * 2)).take 2 = [vint (l.getD k noG).pos, tIs (l.getD k noG).fingers] := flat_take gs_l noG h
/-- The lengths fit. -/
def FitsG (l : List Grip) : Prop := l.length ≤ 17592186044416 ∧ ∀ g ∈ l, g.fingers.length ≤ 17592186044416
theorem FitsG.at {l : List Grip} (h : FitsG l) (k : Nat) : (l.getD k noG).fingers.length ≤ 17592186044416 := by
  rw [List.getD_eq_getElem?_getD]
  rcases Nat.lt_or_ge k l.length with hk | hk
  · rw [List.getElem?_eq_getElem hk]; exact h.2 _ (List.getElem_mem hk)
  · rw [List.getElem?_eq_none hk]; decide
/-- The chord k is fingered right. -/
def PrOk (h : Hand) (l : List Chord) (g : List Grip) (k : Nat) : Prop :=
  FitG h (l.getD k noC) (g.getD k noG) ∧ (0 < k → StepOk h (l.getD (k - 1) noC) (g.getD (k - 1) noG) (l.getD k noC) (g.getD k noG))
/-- What it costs. -/
def prC (h : Hand) (l : List Chord) (g : List Grip) (k : Nat) : Int :=
  if 0 < k then ownC h (l.getD k noC) (g.getD k noG) + stepC h (l.getD (k - 1) noC) (g.getD (k - 1) noG) (l.getD k noC) (g.getD k noG) else ownC h (l.getD k noC) (g.getD k noG)
/-- What the first ones cost. -/
def prL (h : Hand) (l : List Chord) (g : List Grip) (k : Nat) : List Int := (List.range k).map (prC h l g)
theorem prL_len (h : Hand) (l : List Chord) (g : List Grip) (k : Nat) : (prL h l g k).length = k := by simp [prL]
theorem prL_succ (h : Hand) (l : List Chord) (g : List Grip) (k : Nat) : prL h l g (k + 1) = prL h l g k ++ [prC h l g k] := by simp [prL, List.range_succ]
open Classical in
/-- How many are right ahead of the first wrong one, among the first ones. -/
noncomputable def prN (h : Hand) (l : List Chord) (g : List Grip) : Nat → Nat
  | 0 => 0
  | k + 1 => if prN h l g k = k ∧ PrOk h l g k then k + 1 else prN h l g k
theorem prN_all {h : Hand} {l : List Chord} {g : List Grip} : ∀ {k : Nat}, (∀ i, i < k → PrOk h l g i) → prN h l g k = k
  | 0, _ => rfl
  | k + 1, ha => by rw [prN, if_pos ⟨prN_all fun i hi => ha i (by omega), ha k (by omega)⟩]
theorem prN_bad {h : Hand} {l : List Chord} {g : List Grip} {k : Nat} (ha : ∀ i, i < k → PrOk h l g i) (hb : ¬ PrOk h l g k) : ∀ {n : Nat}, k < n → prN h l g n = k
  | 0, hn => by omega
  | n + 1, hn => by
    rcases Nat.lt_or_ge k n with h1 | h1
    · rw [prN, prN_bad ha hb h1, if_neg (fun hh => by omega)]
    · have : n = k := by omega
      subst this
      rw [prN, prN_all ha, if_neg (fun hh => hb hh.2)]
/-- What prices answers. -/
noncomputable def prR (h : Hand) (l : List Chord) (g : List Grip) : List Int × Int :=
  if chkE h = 0 then (if seqE l = 0 then (if g.length = l.length then (prL h l g (prN h l g l.length), if prN h l g l.length = l.length then 0 else 61) else ([], 1)) else ([], seqE l)) else ([], 60)
end Go.Proofs.Ytojjdkoglhecbaa
namespace Go.Proofs.Ytojjdkoglhecbaa
open Go.RowKit
set_option linter.unusedSimpArgs false
set_option linter.unusedVariables false

/-- The error of a hand and a sequence. -/
noncomputable def bothE (h : Hand) (l : List Chord) : Int := if chkE h = 0 then seqE l else 60
theorem bothck_fn (h : Hand) (l : List Chord) (hl : Fits l) : Fn Try.prog Gd 102 [h.val, tCs l] (vint (bothE h l)) := by
  refine Fn.of_vx0 k_hand_check (by simp) (by rw [V.pures, pure_hand, V.pures, pure_tCs]; rfl) ?_
  have C1 := check_fn h
  have C2 := checkchords_fn l hl
  unfold bothE
  generalize seqE l = se at C2
  unfold tCs at C2
  unfold Hand.val at C1
  unfold c_hand_check Hand.val tCs
  by_cases he : chkE h = 0
  · rw [if_pos he]
    rw [he] at C1
    clear he
    repeat' (with_reducible first | refine x_ops ?_ | refine wk ?_ | (with_reducible refine xc (C1) ?_) | (with_reducible refine xc (C2) ?_) | ((first | refine gd1 ?_ ?_ | refine gd2 ?_ ?_ | refine gd3 ?_ ?_) <;> (first | exact @False.elim _ | intro hc)))
    all_goals exact finV_lit vv rfl
  · rw [if_neg he]
    rw [chk_bad he] at C1
    clear he
    repeat' (with_reducible first | refine x_ops ?_ | refine wk ?_ | (with_reducible refine xc (C1) ?_) | (with_reducible refine xc (C2) ?_) | ((first | refine gd1 ?_ ?_ | refine gd2 ?_ ?_ | refine gd3 ?_ ?_) <;> (first | exact @False.elim _ | intro hc)))
    all_goals exact finV_lit vv rfl
theorem rbothck_fn (h : Hand) (l : List Chord) (hl : Fits l) : Fn Try.prog Gd 113 [h.val, tCs l] (vint (bothE h l)) := by
  refine Fn.of_vx0 k_theorboref06_both (by simp) (by rw [V.pures, pure_hand, V.pures, pure_tCs]; rfl) ?_
  have C1 := rcheck_fn h
  have C2 := rcheckchords_fn l hl
  unfold bothE
  generalize seqE l = se at C2
  unfold tCs at C2
  unfold Hand.val at C1
  unfold c_theorboref06_both Hand.val tCs
  by_cases he : chkE h = 0
  · rw [if_pos he]
    rw [he] at C1
    clear he
    repeat' (with_reducible first | refine x_ops ?_ | refine wk ?_ | (with_reducible refine xc (C1) ?_) | (with_reducible refine xc (C2) ?_) | ((first | refine gd1 ?_ ?_ | refine gd2 ?_ ?_ | refine gd3 ?_ ?_) <;> (first | exact @False.elim _ | intro hc)))
    all_goals exact finV_lit vv rfl
  · rw [if_neg he]
    rw [chk_bad he] at C1
    clear he
    repeat' (with_reducible first | refine x_ops ?_ | refine wk ?_ | (with_reducible refine xc (C1) ?_) | (with_reducible refine xc (C2) ?_) | ((first | refine gd1 ?_ ?_ | refine gd2 ?_ ?_ | refine gd3 ?_ ?_) <;> (first | exact @False.elim _ | intro hc)))
    all_goals exact finV_lit vv rfl
end Go.Proofs.Ytojjdkoglhecbaa
namespace Go.Proofs.Ytojjdkoglhecbaa
open Go.RowKit
set_option linter.unusedSimpArgs false
set_option linter.unusedVariables false

theorem stepC_bound {h : Hand} (hk : HandOk h) {a b : Chord} {g k : Grip} (pg : 1 ≤ g.pos ∧ g.pos ≤ 18) (pk : 1 ≤ k.pos ∧ k.pos ≤ 18) : 0 ≤ stepC h a g b k ∧ stepC h a g b k ≤ 105000 := by
  have n4 := hk.n4
  have hm := mul_bound hk.shift (b := dist g.pos k.pos) ⟨dist_le, dist_bound (by omega) (by omega)⟩
  have hl := hk.lift
  have hu := slU_bound hk (a := a) (b := b) (g := g) (k := k) (f := h.low.length)
  rw [stepC]
  split <;> split <;> omega
theorem prC_bound {h : Hand} (hk : HandOk h) {l : List Chord} {g : List Grip} {k : Nat} (hs : ChordOk (l.getD k noC)) (h1 : PrOk h l g k) (h2 : 0 < k → PrOk h l g (k - 1)) :
    (0 ≤ ownC h (l.getD k noC) (g.getD k noG) ∧ ownC h (l.getD k noC) (g.getD k noG) ≤ 404000) ∧ 0 ≤ prC h l g k ∧ prC h l g k ≤ 509000 := by
  have n4 := hk.n4
  have ht := hk.top
  have hp := h1.1.pos
  have ho := ownU_bound hk hs (g := g.getD k noG) ⟨hp.1, by omega⟩ (k := h.low.length) (Nat.le_refl _)
  have ho' : 0 ≤ ownC h (l.getD k noC) (g.getD k noG) ∧ ownC h (l.getD k noC) (g.getD k noG) ≤ 404000 := by rw [ownC]; omega
  refine ⟨ho', ?_⟩
  rw [prC]
  split
  · rename_i hk0
    have hq := (h2 hk0).1.pos
    have := stepC_bound hk (a := l.getD (k - 1) noC) (b := l.getD k noC) (g := g.getD (k - 1) noG) (k := g.getD k noG) ⟨hq.1, by omega⟩ ⟨hp.1, by omega⟩
    omega
  · omega
/-- What costs answers. -/
noncomputable def cosR (h : Hand) (l : List Chord) (g : List Grip) : List Int × Int × Int :=
  if bothE h l = 0 then (if g.length = l.length then (if prN h l g l.length = l.length then (prL h l g l.length, 0, 0) else ([], (prN h l g l.length : Int), 61)) else ([], 0, 1)) else ([], 0, bothE h l)
theorem both_ok {h : Hand} {l : List Chord} (hb : bothE h l = 0) : HandOk h ∧ l.length ≤ 400 ∧ SeqOk l := by
  rw [bothE] at hb
  split at hb
  · rename_i he
    refine ⟨chk_ok he, ?_⟩
    rw [seqE] at hb
    split at hb
    · cases hb
    · split at hb
      · rename_i h1 h2
        exact ⟨by omega, by simpa using h2⟩
      · cases hb
  · cases hb
end Go.Proofs.Ytojjdkoglhecbaa
namespace Go.Proofs.Ytojjdkoglhecbaa
open Go.RowKit
set_option linter.unusedSimpArgs false
set_option linter.unusedVariables false

set_option maxHeartbeats 2000000 in
theorem rcosts_fn (h : Hand) (l : List Chord) (hl : Fits l) (g : List Grip) (hg : FitsG g) : Fn Try.prog Gd 91 [h.val, tCs l, tGs g] (.tup [tIs (cosR h l g).1, vint (cosR h l g).2.1, vint (cosR h l g).2.2]) := by
  refine Fn.of_vx0 k_theorboref06_costs (by simp) (by rw [V.pures, pure_hand, V.pures, pure_tCs, V.pures, pure_tGs]; rfl) ?_
  have C1 := rbothck_fn h l hl
  unfold cosR
  unfold c_theorboref06_costs tCs tGs
  unfold tCs at C1
  by_cases he : bothE h l = 0
  case neg =>
    rw [if_neg he]
    generalize bothE h l = be at he C1
    have e1 : (be == 0) = false := by simpa using he
    clear he
    unfold Hand.val at C1 ⊢
    repeat' (with_reducible first | refine x_ops ?_ | refine wk ?_ | (with_reducible refine xc (C1) ?_) | ((first | refine gd1 ?_ ?_ | refine gd2 ?_ ?_ | refine gd3 ?_ ?_) <;> (first | exact @False.elim _ | intro hc)))
    exact finV_ret vv (.tup (.cons (.sl _ _ _) (.cons (.lit _) (.cons (.lit _) .nil))))
  rw [if_pos he]
  obtain ⟨hk, h400, hseq⟩ := both_ok he
  rw [he] at C1
  clear he
  by_cases hlen : g.length = l.length
  case neg =>
    rw [if_neg hlen]
    have e1 : ((g.length : Int) == (l.length : Int)) = false := by simp; omega
    clear hlen h400
    unfold Hand.val at C1 ⊢
    repeat' (with_reducible first | refine x_ops ?_ | refine wk ?_ | (with_reducible refine xc (C1) ?_) | ((first | refine gd1 ?_ ?_ | refine gd2 ?_ ?_ | refine gd3 ?_ ?_) <;> (first | exact @False.elim _ | intro hc)))
    exact finV_ret vv (.tup (.cons (.sl _ _ _) (.cons (.lit _) (.cons (.lit _) .nil))))
  rw [if_pos hlen]
  have e1 : ((g.length : Int) == (l.length : Int)) = true := by simp; omega
  replace hlen := Hid.mk hlen
  unfold Hand.val at C1 ⊢
  repeat' (with_reducible first | refine x_ops ?_ | refine wk ?_ | (with_reducible refine xc (C1) ?_) | ((first | refine gd1 ?_ ?_ | refine gd2 ?_ ?_ | refine gd3 ?_ ?_) <;> (first | exact @False.elim _ | intro hc)))
  refine x_loopW w_theorboref06_costs_p14 (by kernel_rfl) l.length (fun k t m => t 11 = vint (k : Int) ∧ (∃ tok, t 10 = .sl k ((prL h l g k).map vint) tok ∧ Apb m tok k 3 1) ∧
    m.obj 0 = some (.box [tIs h.low, tIs h.high, tBs h.barre, vint h.top, vint h.jump, vint h.shift, vint h.lift, vint h.bar, vint h.stretch, vint h.slide] 25) ∧ 0 < m.next ∧ ∀ i, i < k → PrOk h l g i) ?_ ?_
  · exact ⟨vv, ⟨.exact, vv, .inl rfl⟩, vv, by ((refine ve ?_; try exact True.intro)); try omega, fun i h => by omega⟩
  rintro k t m hkk ⟨h11, ⟨tok, h10, hap⟩, hm, hn, hI⟩
  replace hI := Hid.mk hI
  by_cases hlt : k < l.length
  · have hlg : k < g.length := by rw [hlen.out]; exact hlt
    have g1 := chs_take hlt
    have g2 := chs_len l
    have g3 := gs_take hlg
    have g4 := gs_len g
    have c1 : (k : Int) < (l.length : Int) := by omega
    have c2 : (k : Int) < (g.length : Int) := by omega
    have c3 : k * 3 + 3 ≤ l.length * 3 := by omega
    have c4 : k * 2 + 2 ≤ g.length * 2 := by omega
    have w2 := w_add1 (k := k) (by omega)
    have hok := (hseq k hlt).1
    have C3 := rfits_fn h hk (l.getD k noC) hok (hl.at k) (g.getD k noG) (hg.at k)
    cases ht : fitB h (l.getD k noC) (g.getD k noG)
    · rw [ht] at C3
      have e2 : prN h l g l.length = k := prN_bad hI.out (fun hh => by rw [fit_true.2 hh.1] at ht; cases ht) hlt
      rw [e2, if_neg (by omega)]
      clear ht e2 hok
      unfold Hand.val Chord.val Chord.cells Grip.val Grip.cells at C3
      generalize l.getD k noC = cb at *
      generalize g.getD k noG = gb at *
      repeat' (with_reducible first | refine x_ops ?_ | refine wk ?_ | (with_reducible refine xc (C3) ?_) | ((first | refine gd1 ?_ ?_ | refine gd2 ?_ ?_ | refine gd3 ?_ ?_) <;> (first | exact @False.elim _ | intro hc)))
      exact finV_ret vv (.tup (.cons (.sl _ _ _) (.cons (.lit _) (.cons (.lit _) .nil))))
    rw [ht] at C3
    have hfit := fit_true.1 ht
    have htop := hk.top
    have hpos := hfit.pos
    have C4 := rown_fn h hk (l.getD k noC) hok (hl.at k) (g.getD k noG) hfit.len ⟨hpos.1, by omega⟩
    by_cases hk0 : 0 < k
    · have c5 : (0 : Int) < (k : Int) := by omega
      have g5 := chs_take (l := l) (k := k - 1) (by omega)
      have g6 := gs_take (l := g) (k := k - 1) (by omega)
      have c6 : ((k - 1 : Nat) : Int) < (l.length : Int) := by omega
      have c7 : ((k - 1 : Nat) : Int) < (g.length : Int) := by omega
      have c8 : (k - 1) * 3 + 3 ≤ l.length * 3 := by omega
      have c9 : (k - 1) * 2 + 2 ≤ g.length * 2 := by omega
      have w1 := w_sub1 hk0 (by omega)
      have hfit1 := (hI.out (k - 1) (by omega)).1
      have hpos1 := hfit1.pos
      have C5 := rstep_fn h hk (l.getD (k - 1) noC) (l.getD k noC) (hseq (k - 1) (by omega)).1 hok ((hseq k hlt).2 hk0) (hl.at _) (hl.at _) (g.getD (k - 1) noG) (g.getD k noG) hfit1.len hfit.len ⟨hpos1.1, by omega⟩ ⟨hpos.1, by omega⟩
      by_cases hst : StepOk h (l.getD (k - 1) noC) (g.getD (k - 1) noG) (l.getD k noC) (g.getD k noG)
      · have hpk : PrOk h l g k := ⟨hfit, fun _ => hst⟩
        have hb := prC_bound hk hok hpk (fun _ => hI.out (k - 1) (by omega))
        have epc : prC h l g k = ownC h (l.getD k noC) (g.getD k noG) + stepC h (l.getD (k - 1) noC) (g.getD (k - 1) noG) (l.getD k noC) (g.getD k noG) := by rw [prC, if_pos hk0]
        rw [stepR_ok hst] at C5
        have w3 : IntKind.i64.wrap (ownC h (l.getD k noC) (g.getD k noG) + stepC h (l.getD (k - 1) noC) (g.getD (k - 1) noG) (l.getD k noC) (g.getD k noG)) = ownC h (l.getD k noC) (g.getD k noG) + stepC h (l.getD (k - 1) noC) (g.getD (k - 1) noG) (l.getD k noC) (g.getD k noG) := w_in (by omega)
        replace hpk := Hid.mk hpk
        replace epc := Hid.mk epc
        clear hb hst ht hok hfit hfit1 hpos hpos1 htop
        unfold Hand.val Chord.val Chord.cells Grip.val Grip.cells at C3 C4 C5
        generalize l.getD (k - 1) noC = ca at *
        generalize g.getD (k - 1) noG = ga at *
        generalize l.getD k noC = cb at *
        generalize g.getD k noG = gb at *
        repeat' (with_reducible first | refine x_ops ?_ | refine wk ?_ | (with_reducible refine xc (C3) ?_) | (with_reducible refine xc (C4) ?_) | (with_reducible refine xc (C5) ?_) | ((first | refine gd1 ?_ ?_ | refine gd2 ?_ ?_ | refine gd3 ?_ ?_) <;> (first | exact @False.elim _ | intro hc)))
        refine x_appb (xs := (prL h l g k).map vint) (ys := [vint (prC h l g k)]) vw (by rw [epc.out]; exact vw) (hap.mono (fun _ _ _ => rfl) (Nat.le_add_right _ _)) (by rw [List.length_map, prL_len, Nat.mul_one]) rfl (by omega) (by unfold Go.maxLen; omega) (by show m.next + 3 < m.next + 5; omega) ?_
        intro tok' m' hap' hn' hbox hobj
        have ho := hbox 0 _ _ hm (by show ¬ 0 = m.next + 3; omega)
        replace hn' : m'.next = m.next + 5 := hn'
        clear hbox hobj hap
        repeat' (with_reducible first | refine x_ops ?_ | refine wk ?_ | ((first | refine gd1 ?_ ?_ | refine gd2 ?_ ?_ | refine gd3 ?_ ?_) <;> (first | exact @False.elim _ | intro hc)))
        refine nx (by omega) ⟨vv, ⟨tok', ?_, hap'.mono (fun _ _ _ => rfl) (Nat.le_of_eq hn')⟩, ho, by ((refine ve ?_; try exact True.intro)); omega, fun i h => ?_⟩
        · rw [prL_succ, List.map_append]; exact vv
        · by_cases hi : i = k
          · subst hi; exact hpk.out
          · exact hI.out i (by omega)
      · have e2 : prN h l g l.length = k := prN_bad hI.out (fun hh => hst (hh.2 hk0)) hlt
        rw [stepR_no hst] at C5
        rw [e2, if_neg (by omega)]
        clear hst ht hok hfit hfit1 hpos hpos1 htop e2
        unfold Hand.val Chord.val Chord.cells Grip.val Grip.cells at C3 C4 C5
        generalize l.getD (k - 1) noC = ca at *
        generalize g.getD (k - 1) noG = ga at *
        generalize l.getD k noC = cb at *
        generalize g.getD k noG = gb at *
        repeat' (with_reducible first | refine x_ops ?_ | refine wk ?_ | (with_reducible refine xc (C3) ?_) | (with_reducible refine xc (C4) ?_) | (with_reducible refine xc (C5) ?_) | ((first | refine gd1 ?_ ?_ | refine gd2 ?_ ?_ | refine gd3 ?_ ?_) <;> (first | exact @False.elim _ | intro hc)))
        exact finV_ret vv (.tup (.cons (.sl _ _ _) (.cons (.lit _) (.cons (.lit _) .nil))))
    · have c5 : ¬ (0 : Int) < (k : Int) := by omega
      have hpk : PrOk h l g k := ⟨hfit, fun hh => absurd hh hk0⟩
      have epc : prC h l g k = ownC h (l.getD k noC) (g.getD k noG) := by rw [prC, if_neg hk0]
      replace hpk := Hid.mk hpk
      replace epc := Hid.mk epc
      clear ht hok hfit hpos htop
      unfold Hand.val Chord.val Chord.cells Grip.val Grip.cells at C3 C4
      generalize l.getD k noC = cb at *
      generalize g.getD k noG = gb at *
      repeat' (with_reducible first | refine x_ops ?_ | refine wk ?_ | (with_reducible refine xc (C3) ?_) | (with_reducible refine xc (C4) ?_) | ((first | refine gd1 ?_ ?_ | refine gd2 ?_ ?_ | refine gd3 ?_ ?_) <;> (first | exact @False.elim _ | intro hc)))
      refine x_appb (xs := (prL h l g k).map vint) (ys := [vint (prC h l g k)]) vw (by rw [epc.out]; exact vw) (hap.mono (fun _ _ _ => rfl) (Nat.le_add_right _ _)) (by rw [List.length_map, prL_len, Nat.mul_one]) rfl (by omega) (by unfold Go.maxLen; omega) (by show m.next + 3 < m.next + 5; omega) ?_
      intro tok' m' hap' hn' hbox hobj
      have ho := hbox 0 _ _ hm (by show ¬ 0 = m.next + 3; omega)
      replace hn' : m'.next = m.next + 5 := hn'
      clear hbox hobj hap
      repeat' (with_reducible first | refine x_ops ?_ | refine wk ?_ | ((first | refine gd1 ?_ ?_ | refine gd2 ?_ ?_ | refine gd3 ?_ ?_) <;> (first | exact @False.elim _ | intro hc)))
      refine nx (by omega) ⟨vv, ⟨tok', ?_, hap'.mono (fun _ _ _ => rfl) (Nat.le_of_eq hn')⟩, ho, by ((refine ve ?_; try exact True.intro)); omega, fun i h => ?_⟩
      · rw [prL_succ, List.map_append]; exact vv
      · by_cases hi : i = k
        · subst hi; exact hpk.out
        · exact hI.out i (by omega)
  · have hkl : k = l.length := by omega
    subst hkl
    have c1 : ¬ (l.length : Int) < (l.length : Int) := by omega
    rw [prN_all hI.out, if_pos rfl]
    clear hlt hap
    have e5 := prL_len h l g l.length
    replace e5 := Hid.mk e5
    repeat' (with_reducible first | refine x_ops ?_ | refine wk ?_ | ((first | refine gd1 ?_ ?_ | refine gd2 ?_ ?_ | refine gd3 ?_ ?_) <;> (first | exact @False.elim _ | intro hc)))
    exact finV_ret vv (by rw [e5.out]; exact .tup (.cons (.sl _ _ _) (.cons (.lit _) (.cons (.lit _) .nil))))
end Go.Proofs.Ytojjdkoglhecbaa
namespace Go.Proofs.Ytojjdkoglhecbaa
open Go.RowKit
set_option linter.unusedSimpArgs false
set_option linter.unusedVariables false

/-- What prices answers. -/
noncomputable def priR (h : Hand) (l : List Chord) (g : List Grip) : List Int × Int :=
  if bothE h l = 0 then (if g.length = l.length then (prL h l g (prN h l g l.length), if prN h l g l.length = l.length then 0 else 61) else ([], 1)) else ([], bothE h l)
set_option maxHeartbeats 2000000 in
theorem prices_fn (h : Hand) (l : List Chord) (hl : Fits l) (g : List Grip) (hg : FitsG g) : Fn Try.prog Gd 90 [h.val, tCs l, tGs g] (.tup [tIs (priR h l g).1, vint (priR h l g).2]) := by
  refine Fn.of_vx0 k_hand_prices (by simp) (by rw [V.pures, pure_hand, V.pures, pure_tCs, V.pures, pure_tGs]; rfl) ?_
  have C1 := bothck_fn h l hl
  unfold priR
  unfold c_hand_prices tCs tGs
  unfold tCs at C1
  by_cases he : bothE h l = 0
  case neg =>
    rw [if_neg he]
    generalize bothE h l = be at he C1
    have e1 : (be == 0) = false := by simpa using he
    clear he
    unfold Hand.val at C1 ⊢
    repeat' (with_reducible first | refine x_ops ?_ | refine wk ?_ | (with_reducible refine xc (C1) ?_) | ((first | refine gd1 ?_ ?_ | refine gd2 ?_ ?_ | refine gd3 ?_ ?_) <;> (first | exact @False.elim _ | intro hc)))
    exact finV_ret vv (.tup (.cons (.sl _ _ _) (.cons (.lit _) .nil)))
  rw [if_pos he]
  obtain ⟨hk, h400, hseq⟩ := both_ok he
  rw [he] at C1
  clear he
  by_cases hlen : g.length = l.length
  case neg =>
    rw [if_neg hlen]
    have e1 : ((g.length : Int) == (l.length : Int)) = false := by simp; omega
    clear hlen h400
    unfold Hand.val at C1 ⊢
    repeat' (with_reducible first | refine x_ops ?_ | refine wk ?_ | (with_reducible refine xc (C1) ?_) | ((first | refine gd1 ?_ ?_ | refine gd2 ?_ ?_ | refine gd3 ?_ ?_) <;> (first | exact @False.elim _ | intro hc)))
    exact finV_ret vv (.tup (.cons (.sl _ _ _) (.cons (.lit _) .nil)))
  rw [if_pos hlen]
  have e1 : ((g.length : Int) == (l.length : Int)) = true := by simp; omega
  replace hlen := Hid.mk hlen
  unfold Hand.val at C1 ⊢
  repeat' (with_reducible first | refine x_ops ?_ | refine wk ?_ | (with_reducible refine xc (C1) ?_) | ((first | refine gd1 ?_ ?_ | refine gd2 ?_ ?_ | refine gd3 ?_ ?_) <;> (first | exact @False.elim _ | intro hc)))
  refine x_loopW w_hand_prices_p15 (by kernel_rfl) l.length (fun k t m => t 27 = vint (k : Int) ∧ (∃ tok, t 6 = .sl k ((prL h l g k).map vint) tok ∧ Apb m tok k 3 1) ∧
    m.obj 0 = some (.box [tIs h.low, tIs h.high, tBs h.barre, vint h.top, vint h.jump, vint h.shift, vint h.lift, vint h.bar, vint h.stretch, vint h.slide] 25) ∧ 0 < m.next ∧ ∀ i, i < k → PrOk h l g i) ?_ ?_
  · exact ⟨vv, ⟨.exact, vv, .inl rfl⟩, vv, by ((refine ve ?_; try exact True.intro)); try omega, fun i h => by omega⟩
  rintro k t m hkk ⟨h11, ⟨tok, h10, hap⟩, hm, hn, hI⟩
  replace hI := Hid.mk hI
  by_cases hlt : k < l.length
  · have hlg : k < g.length := by rw [hlen.out]; exact hlt
    have g1 := chs_take hlt
    have g2 := chs_len l
    have g3 := gs_take hlg
    have g4 := gs_len g
    have c1 : (k : Int) < (l.length : Int) := by omega
    have c2 : (k : Int) < (g.length : Int) := by omega
    have c3 : k * 3 + 3 ≤ l.length * 3 := by omega
    have c4 : k * 2 + 2 ≤ g.length * 2 := by omega
    have w2 := w_add1 (k := k) (by omega)
    have n6 : 0 < m.next + 6 := by omega
    have x0 : ¬ 0 = m.next + 3 := by omega
    have hok := (hseq k hlt).1
    have C3 := fits_fn h hk (l.getD k noC) (hl.at k) (g.getD k noG) (hg.at k)
    cases ht : fitB h (l.getD k noC) (g.getD k noG)
    · rw [ht] at C3
      have e2 : prN h l g l.length = k := prN_bad hI.out (fun hh => by rw [fit_true.2 hh.1] at ht; cases ht) hlt
      rw [e2, if_neg (by omega)]
      have e7 := prL_len h l g k
      clear ht e2 hok
      unfold Hand.val Chord.val Chord.cells Grip.val Grip.cells at C3
      generalize l.getD k noC = cb at *
      generalize g.getD k noG = gb at *
      repeat' (with_reducible first | refine x_ops ?_ | refine wk ?_ | (with_reducible refine xc (C3) ?_) | ((first | refine gd1 ?_ ?_ | refine gd2 ?_ ?_ | refine gd3 ?_ ?_) <;> (first | exact @False.elim _ | intro hc)))
      exact finV_ret vv (.tup (.cons (.sl _ _ _) (.cons (.lit _) .nil)))
    rw [ht] at C3
    have hfit := fit_true.1 ht
    have htop := hk.top
    have hpos := hfit.pos
    have C4 := own_fn h hk (l.getD k noC) hok (hl.at k) (g.getD k noG) hfit.len ⟨hpos.1, by omega⟩
    by_cases hk0 : 0 < k
    · have c5 : (0 : Int) < (k : Int) := by omega
      have g5 := chs_take (l := l) (k := k - 1) (by omega)
      have g6 := gs_take (l := g) (k := k - 1) (by omega)
      have c6 : ((k - 1 : Nat) : Int) < (l.length : Int) := by omega
      have c7 : ((k - 1 : Nat) : Int) < (g.length : Int) := by omega
      have c8 : (k - 1) * 3 + 3 ≤ l.length * 3 := by omega
      have c9 : (k - 1) * 2 + 2 ≤ g.length * 2 := by omega
      have w1 := w_sub1 hk0 (by omega)
      have hfit1 := (hI.out (k - 1) (by omega)).1
      have hpos1 := hfit1.pos
      have C5 := step_fn h hk (l.getD (k - 1) noC) (l.getD k noC) (hseq (k - 1) (by omega)).1 hok ((hseq k hlt).2 hk0) (hl.at _) (hl.at _) (g.getD (k - 1) noG) (g.getD k noG) hfit1.len hfit.len ⟨hpos1.1, by omega⟩ ⟨hpos.1, by omega⟩
      by_cases hst : StepOk h (l.getD (k - 1) noC) (g.getD (k - 1) noG) (l.getD k noC) (g.getD k noG)
      · have hpk : PrOk h l g k := ⟨hfit, fun _ => hst⟩
        have hb := prC_bound hk hok hpk (fun _ => hI.out (k - 1) (by omega))
        have epc : prC h l g k = ownC h (l.getD k noC) (g.getD k noG) + stepC h (l.getD (k - 1) noC) (g.getD (k - 1) noG) (l.getD k noC) (g.getD k noG) := by rw [prC, if_pos hk0]
        rw [stepR_ok hst] at C5
        have w3 : IntKind.i64.wrap (ownC h (l.getD k noC) (g.getD k noG) + stepC h (l.getD (k - 1) noC) (g.getD (k - 1) noG) (l.getD k noC) (g.getD k noG)) = ownC h (l.getD k noC) (g.getD k noG) + stepC h (l.getD (k - 1) noC) (g.getD (k - 1) noG) (l.getD k noC) (g.getD k noG) := w_in (by omega)
        replace hpk := Hid.mk hpk
        replace epc := Hid.mk epc
        clear hb hst ht hok hfit hfit1 hpos hpos1 htop
        unfold Hand.val Chord.val Chord.cells Grip.val Grip.cells at C3 C4 C5
        generalize l.getD (k - 1) noC = ca at *
        generalize g.getD (k - 1) noG = ga at *
        generalize l.getD k noC = cb at *
        generalize g.getD k noG = gb at *
        repeat' (with_reducible first | refine x_ops ?_ | refine wk ?_ | (with_reducible refine xc (C3) ?_) | (with_reducible refine xc (C4) ?_) | (with_reducible refine xc (C5) ?_) | ((first | refine gd1 ?_ ?_ | refine gd2 ?_ ?_ | refine gd3 ?_ ?_) <;> (first | exact @False.elim _ | intro hc)))
        refine x_appb (xs := (prL h l g k).map vint) (ys := [vint (prC h l g k)]) vw (by rw [epc.out]; exact vw) (hap.mono (fun q hq _ => by (simp only [put_obj]; repeat rw [if_neg (by omega)])) (by simp only [put_next]; omega)) (by rw [List.length_map, prL_len, Nat.mul_one]) rfl (by omega) (by unfold Go.maxLen; omega) (by show m.next + 9 < m.next + 11; omega) ?_
        intro tok' m' hap' hn' hbox hobj
        have ho := hbox 0 _ _ (by simp only [put_obj]; rw [if_neg (by omega)]; exact hm) (by show ¬ 0 = m.next + 9; omega)
        replace hn' : m'.next = m.next + 11 := hn'
        clear hbox hobj hap
        repeat' (with_reducible first | refine x_ops ?_ | refine wk ?_ | ((first | refine gd1 ?_ ?_ | refine gd2 ?_ ?_ | refine gd3 ?_ ?_) <;> (first | exact @False.elim _ | intro hc)))
        refine nx (by omega) ⟨vv, ⟨tok', ?_, hap'.mono (fun _ _ _ => rfl) (Nat.le_of_eq hn')⟩, ho, by ((refine ve ?_; try exact True.intro)); omega, fun i h => ?_⟩
        · rw [prL_succ, List.map_append]; exact vv
        · by_cases hi : i = k
          · subst hi; exact hpk.out
          · exact hI.out i (by omega)
      · have e2 : prN h l g l.length = k := prN_bad hI.out (fun hh => hst (hh.2 hk0)) hlt
        rw [stepR_no hst] at C5
        rw [e2, if_neg (by omega)]
        have e7 := prL_len h l g k
        clear hst ht hok hfit hfit1 hpos hpos1 htop e2
        unfold Hand.val Chord.val Chord.cells Grip.val Grip.cells at C3 C4 C5
        generalize l.getD (k - 1) noC = ca at *
        generalize g.getD (k - 1) noG = ga at *
        generalize l.getD k noC = cb at *
        generalize g.getD k noG = gb at *
        repeat' (with_reducible first | refine x_ops ?_ | refine wk ?_ | (with_reducible refine xc (C3) ?_) | (with_reducible refine xc (C4) ?_) | (with_reducible refine xc (C5) ?_) | ((first | refine gd1 ?_ ?_ | refine gd2 ?_ ?_ | refine gd3 ?_ ?_) <;> (first | exact @False.elim _ | intro hc)))
        exact finV_ret vv (.tup (.cons (.sl _ _ _) (.cons (.lit _) .nil)))
    · have c5 : ¬ (0 : Int) < (k : Int) := by omega
      have hpk : PrOk h l g k := ⟨hfit, fun hh => absurd hh hk0⟩
      have epc : prC h l g k = ownC h (l.getD k noC) (g.getD k noG) := by rw [prC, if_neg hk0]
      replace hpk := Hid.mk hpk
      replace epc := Hid.mk epc
      clear ht hok hfit hpos htop
      unfold Hand.val Chord.val Chord.cells Grip.val Grip.cells at C3 C4
      generalize l.getD k noC = cb at *
      generalize g.getD k noG = gb at *
      repeat' (with_reducible first | refine x_ops ?_ | refine wk ?_ | (with_reducible refine xc (C3) ?_) | (with_reducible refine xc (C4) ?_) | ((first | refine gd1 ?_ ?_ | refine gd2 ?_ ?_ | refine gd3 ?_ ?_) <;> (first | exact @False.elim _ | intro hc)))
      refine x_appb (xs := (prL h l g k).map vint) (ys := [vint (prC h l g k)]) vw (by rw [epc.out]; exact vw) (hap.mono (fun q hq _ => by (simp only [put_obj]; repeat rw [if_neg (by omega)])) (by simp only [put_next]; omega)) (by rw [List.length_map, prL_len, Nat.mul_one]) rfl (by omega) (by unfold Go.maxLen; omega) (by show m.next + 9 < m.next + 11; omega) ?_
      intro tok' m' hap' hn' hbox hobj
      have ho := hbox 0 _ _ (by simp only [put_obj]; rw [if_neg (by omega)]; exact hm) (by show ¬ 0 = m.next + 9; omega)
      replace hn' : m'.next = m.next + 11 := hn'
      clear hbox hobj hap
      repeat' (with_reducible first | refine x_ops ?_ | refine wk ?_ | ((first | refine gd1 ?_ ?_ | refine gd2 ?_ ?_ | refine gd3 ?_ ?_) <;> (first | exact @False.elim _ | intro hc)))
      refine nx (by omega) ⟨vv, ⟨tok', ?_, hap'.mono (fun _ _ _ => rfl) (Nat.le_of_eq hn')⟩, ho, by ((refine ve ?_; try exact True.intro)); omega, fun i h => ?_⟩
      · rw [prL_succ, List.map_append]; exact vv
      · by_cases hi : i = k
        · subst hi; exact hpk.out
        · exact hI.out i (by omega)
  · have hkl : k = l.length := by omega
    subst hkl
    have c1 : ¬ (l.length : Int) < (l.length : Int) := by omega
    rw [prN_all hI.out, if_pos rfl]
    clear hlt hap
    have e5 := prL_len h l g l.length
    replace e5 := Hid.mk e5
    repeat' (with_reducible first | refine x_ops ?_ | refine wk ?_ | ((first | refine gd1 ?_ ?_ | refine gd2 ?_ ?_ | refine gd3 ?_ ?_) <;> (first | exact @False.elim _ | intro hc)))
    exact finV_ret vv (by rw [e5.out]; exact .tup (.cons (.sl _ _ _) (.cons (.lit _) .nil)))
end Go.Proofs.Ytojjdkoglhecbaa
namespace Go.Proofs.Ytojjdkoglhecbaa
open Go.RowKit
set_option linter.unusedSimpArgs false
set_option linter.unusedVariables false

/-- The sum of the first ones. -/
def smI (l : List Int) : Nat → Int
  | 0 => 0
  | k + 1 => smI l k + l.getD k 0
theorem sm_bound {l : List Int} (hc : ∀ i, i < l.length → 0 ≤ l.getD i 0 ∧ l.getD i 0 ≤ 509000) : ∀ {k : Nat}, k ≤ l.length → 0 ≤ smI l k ∧ smI l k ≤ 509000 * k
  | 0, _ => by simp [smI]
  | k + 1, hk => by have := sm_bound hc (k := k) (by omega); have := hc k (by omega); rw [smI]; omega
theorem prN_le (h : Hand) (l : List Chord) (g : List Grip) (n : Nat) : prN h l g n ≤ n := by
  induction n with
  | zero => exact Nat.le_refl _
  | succ n ih => rw [prN]; split <;> omega
theorem prN_ok {h : Hand} {l : List Chord} {g : List Grip} {n : Nat} (hn : prN h l g n = n) : ∀ i, i < n → PrOk h l g i := by
  induction n with
  | zero => intro i hi; omega
  | succ n ih =>
    rw [prN] at hn
    split at hn
    · rename_i hh
      intro i hi
      by_cases e : i = n
      · subst e; exact hh.2
      · exact ih hh.1 i (by omega)
    · have := prN_le h l g n; omega
theorem prL_at {h : Hand} {l : List Chord} {g : List Grip} {n i : Nat} (hi : i < n) : (prL h l g n).getD i 0 = prC h l g i := by
  rw [prL, List.getD_eq_getElem?_getD, List.getElem?_map, List.getElem?_range hi]; rfl
/-- What prices and costs answer, case by case. -/
theorem pri_cases (h : Hand) (l : List Chord) (g : List Grip) :
    (∃ L : List Int, priR h l g = (L, 0) ∧ cosR h l g = (L, 0, 0) ∧ L.length = l.length ∧ l.length ≤ 400 ∧ ∀ i, i < L.length → 0 ≤ L.getD i 0 ∧ L.getD i 0 ≤ 509000) ∨
    (∃ (L : List Int), priR h l g = (L, 61) ∧ cosR h l g = ([], (L.length : Int), 61) ∧ L.length ≤ 400) ∨
    (∃ e : Int, (e == 0) = false ∧ (e == 61) = false ∧ priR h l g = ([], e) ∧ cosR h l g = ([], 0, e)) := by
  rw [priR, cosR]
  by_cases hb : bothE h l = 0
  · rw [if_pos hb, if_pos hb]
    obtain ⟨hk, h400, hseq⟩ := both_ok hb
    by_cases hl : g.length = l.length
    · rw [if_pos hl, if_pos hl]
      by_cases hp : prN h l g l.length = l.length
      · rw [if_pos hp, if_pos hp]
        refine .inl ⟨_, by rw [hp], rfl, prL_len h l g _, h400, fun i hi => ?_⟩
        rw [prL_len] at hi
        rw [prL_at hi]
        have hok := prN_ok hp
        exact (prC_bound hk (hseq i hi).1 (hok i hi) fun h0 => hok (i - 1) (by omega)).2
      · rw [if_neg hp, if_neg hp]
        have := prN_le h l g l.length
        exact .inr (.inl ⟨_, rfl, by rw [prL_len], by rw [prL_len]; omega⟩)
    · rw [if_neg hl, if_neg hl]
      exact .inr (.inr ⟨1, rfl, rfl, rfl, rfl⟩)
  · rw [if_neg hb, if_neg hb]
    refine .inr (.inr ⟨_, by simpa using hb, ?_, rfl, rfl⟩)
    unfold bothE seqE
    split <;> (try split) <;> (try split) <;> rfl
/-- What Valid answers. -/
noncomputable def valR (h : Hand) (l : List Chord) (g : List Grip) : Int × Int × Int := (smI (cosR h l g).1 (cosR h l g).1.length, (cosR h l g).2.1, (cosR h l g).2.2)

theorem valid_fn (h : Hand) (l : List Chord) (hl : Fits l) (g : List Grip) (hg : FitsG g) : Fn Try.prog Gd 56 [h.val, tCs l, tGs g] (.tup [vint (valR h l g).1, vint (valR h l g).2.1, vint (valR h l g).2.2]) := by
  refine Fn.of_vx0 k_hand_Valid (by simp) (by rw [V.pures, pure_hand, V.pures, pure_tCs, V.pures, pure_tGs]; rfl) ?_
  have C1 := prices_fn h l hl g hg
  unfold valR
  unfold c_hand_Valid
  rcases pri_cases h l g with ⟨L, e1, e2, hL, h4, hb⟩ | ⟨L, e1, e2, hL⟩ | ⟨e, n1, n2, e1, e2⟩
  · rw [e1] at C1
    rw [e2]
    have hs := fun k (hk : k ≤ L.length) => sm_bound hb (k := k) hk
    have h5 : L.length ≤ 400 := by omega
    clear e1 e2 hb hl hg hL h4
    dsimp only at C1 ⊢
    unfold Hand.val at C1 ⊢
    unfold tCs tGs tIs at C1 ⊢
    repeat' (with_reducible first | refine x_ops ?_ | refine wk ?_ | (with_reducible refine xc (C1) ?_) | ((first | refine gd1 ?_ ?_ | refine gd2 ?_ ?_ | refine gd3 ?_ ?_) <;> (first | exact @False.elim _ | intro hc)))
    refine x_loopF w_hand_Valid_p8 (by kernel_rfl) L.length (fun k t => t 30 = vint (k : Int) ∧ t 6 = vint (smI L k)) ?_ ?_
    · exact ⟨vv, vv⟩
    rintro k t hk ⟨h30, h6⟩
    by_cases hlt : k < L.length
    · have g1 := ints_at hlt
      have c2 : (k : Int) < (L.length : Int) := by omega
      have w2 := w_add1 (k := k) (by omega)
      have h3 := hs (k + 1) (by omega)
      have w3 : IntKind.i64.wrap (smI L k + L.getD k 0) = smI L (k + 1) := by rw [smI] at h3 ⊢; exact w_in (by omega)
      clear hs h3
      repeat' (with_reducible first | refine x_ops ?_ | refine wk ?_ | ((first | refine gd1 ?_ ?_ | refine gd2 ?_ ?_ | refine gd3 ?_ ?_) <;> (first | exact @False.elim _ | intro hc)))
      exact nf (by omega) ⟨vv, vv⟩ rfl
    · have hkl : k = L.length := by omega
      subst hkl
      have c1 : ¬ (L.length : Int) < (L.length : Int) := by omega
      clear hs
      repeat' (with_reducible first | refine x_ops ?_ | refine wk ?_ | ((first | refine gd1 ?_ ?_ | refine gd2 ?_ ?_ | refine gd3 ?_ ?_) <;> (first | exact @False.elim _ | intro hc)))
      exact finV_dry rfl vv
  · rw [e1] at C1
    rw [e2]
    clear e1 e2 hl hg
    dsimp only at C1 ⊢
    unfold Hand.val at C1 ⊢
    unfold tCs tGs tIs at C1 ⊢
    repeat' (with_reducible first | refine x_ops ?_ | refine wk ?_ | (with_reducible refine xc (C1) ?_) | ((first | refine gd1 ?_ ?_ | refine gd2 ?_ ?_ | refine gd3 ?_ ?_) <;> (first | exact @False.elim _ | intro hc)))
    exact finV_dry rfl vv
  · rw [e1] at C1
    rw [e2]
    clear e1 e2 hl hg
    dsimp only at C1 ⊢
    unfold Hand.val at C1 ⊢
    unfold tCs tGs tIs at C1 ⊢
    repeat' (with_reducible first | refine x_ops ?_ | refine wk ?_ | (with_reducible refine xc (C1) ?_) | ((first | refine gd1 ?_ ?_ | refine gd2 ?_ ?_ | refine gd3 ?_ ?_) <;> (first | exact @False.elim _ | intro hc)))
    exact finV_dry rfl vv
theorem rvalid_fn (h : Hand) (l : List Chord) (hl : Fits l) (g : List Grip) (hg : FitsG g) : Fn Try.prog Gd 57 [h.val, tCs l, tGs g] (.tup [vint (valR h l g).1, vint (valR h l g).2.1, vint (valR h l g).2.2]) := by
  refine Fn.of_vx0 k_theorboref06_Valid (by simp) (by rw [V.pures, pure_hand, V.pures, pure_tCs, V.pures, pure_tGs]; rfl) ?_
  have C1 := rcosts_fn h l hl g hg
  unfold valR
  unfold c_theorboref06_Valid
  obtain ⟨L, a, e, e2, hs⟩ : ∃ (L : List Int) (a e : Int), cosR h l g = (L, a, e) ∧ L.length ≤ 400 ∧ ∀ i, i < L.length → 0 ≤ L.getD i 0 ∧ L.getD i 0 ≤ 509000 := by
    rcases pri_cases h l g with ⟨L, e1, e2, hL, h4, hb⟩ | ⟨L, e1, e2, hL⟩ | ⟨e, n1, n2, e1, e2⟩
    · exact ⟨_, _, _, e2, by omega, hb⟩
    · exact ⟨_, _, _, e2, by simp, fun i hi => by simp at hi⟩
    · exact ⟨_, _, _, e2, by simp, fun i hi => by simp at hi⟩
  rw [e2] at C1 ⊢
  obtain ⟨h4, hb⟩ := hs
  have hs := fun k (hk : k ≤ L.length) => sm_bound hb (k := k) hk
  clear e2 hb hl hg
  dsimp only at C1 ⊢
  unfold Hand.val at C1 ⊢
  unfold tCs tGs tIs at C1 ⊢
  repeat' (with_reducible first | refine x_ops ?_ | refine wk ?_ | (with_reducible refine xc (C1) ?_) | ((first | refine gd1 ?_ ?_ | refine gd2 ?_ ?_ | refine gd3 ?_ ?_) <;> (first | exact @False.elim _ | intro hc)))
  refine x_loopF w_theorboref06_Valid_p3 (by kernel_rfl) L.length (fun k t => t 13 = vint (k : Int) ∧ t 12 = vint (smI L k)) ?_ ?_
  · exact ⟨vv, vv⟩
  rintro k t hk ⟨h30, h6⟩
  by_cases hlt : k < L.length
  · have g1 := ints_at hlt
    have c2 : (k : Int) < (L.length : Int) := by omega
    have w2 := w_add1 (k := k) (by omega)
    have h3 := hs (k + 1) (by omega)
    have w3 : IntKind.i64.wrap (smI L k + L.getD k 0) = smI L (k + 1) := by rw [smI] at h3 ⊢; exact w_in (by omega)
    clear hs h3
    repeat' (with_reducible first | refine x_ops ?_ | refine wk ?_ | ((first | refine gd1 ?_ ?_ | refine gd2 ?_ ?_ | refine gd3 ?_ ?_) <;> (first | exact @False.elim _ | intro hc)))
    exact nf (by omega) ⟨vv, vv⟩ rfl
  · have hkl : k = L.length := by omega
    subst hkl
    have c1 : ¬ (L.length : Int) < (L.length : Int) := by omega
    clear hs
    repeat' (with_reducible first | refine x_ops ?_ | refine wk ?_ | ((first | refine gd1 ?_ ?_ | refine gd2 ?_ ?_ | refine gd3 ?_ ?_) <;> (first | exact @False.elim _ | intro hc)))
    exact finV_dry rfl vv

/-- The greatest of the first ones. -/
def mxU (l : List Int) : Nat → Int
  | 0 => l.getD 0 0
  | k + 1 => if l.getD (k + 1) 0 > mxU l k then l.getD (k + 1) 0 else mxU l k
theorem max_fn (l : List Int) (h0 : 0 < l.length) (hl : l.length ≤ 4611686018427387904) : Fn Try.prog Gd 93 [tIs l] (vint (mxU l (l.length - 1))) := by
  refine Fn.of_vx0 k_slices_Max_int_int (by simp) (by rw [V.pures, pure_tIs]; rfl) ?_
  unfold c_slices_Max_int_int tIs
  have c0 : ¬ (l.length : Int) < 1 := by omega
  have c1 : (0 : Int) < (l.length : Int) := by omega
  have g0 := ints_at h0
  repeat' (with_reducible first | refine x_ops ?_ | refine wk ?_ | ((first | refine gd1 ?_ ?_ | refine gd2 ?_ ?_ | refine gd3 ?_ ?_) <;> (first | exact @False.elim _ | intro hc)))
  refine x_loopF w_slices_Max_int_int_p3 (by kernel_rfl) (l.length - 1) (fun k t => t 4 = vint ((k + 1 : Nat) : Int) ∧ t 3 = vint (mxU l k)) ?_ ?_
  · exact ⟨vv, vv⟩
  rintro k t hk ⟨h4, h3⟩
  by_cases hlt : k + 1 < l.length
  · have g1 := ints_at hlt
    have c2 : ((k + 1 : Nat) : Int) < (l.length : Int) := by omega
    have w2 := w_add1 (k := k + 1) (by omega)
    have e : mxU l (k + 1) = if mxU l k < l.getD (k + 1) 0 then l.getD (k + 1) 0 else mxU l k := rfl
    replace e := Hid.mk e
    repeat' (with_reducible first | refine x_ops ?_ | refine wk ?_ | ((first | refine gd1 ?_ ?_ | refine gd2 ?_ ?_ | refine gd3 ?_ ?_) <;> (first | exact @False.elim _ | intro hc)))
    exact nf (by omega) ⟨vv, by rw [e.out]; exact vv⟩ rfl
  · have hkl : k = l.length - 1 := by omega
    have c2 : ¬ ((k + 1 : Nat) : Int) < (l.length : Int) := by omega
    replace hkl := Hid.mk hkl
    repeat' (with_reducible first | refine x_ops ?_ | refine wk ?_ | ((first | refine gd1 ?_ ?_ | refine gd2 ?_ ?_ | refine gd3 ?_ ?_) <;> (first | exact @False.elim _ | intro hc)))
    exact finV_lit vv (by rw [hkl.out])
/-- Where the greatest of the first ones stands first. -/
def atU (l : List Int) : Nat → Nat
  | 0 => 0
  | k + 1 => if l.getD k 0 > l.getD (atU l k) 0 then k else atU l k
theorem atU_ok (l : List Int) : ∀ k : Nat, atU l (k + 1) ≤ k ∧ l.getD (atU l (k + 1)) 0 = mxU l k ∧ ∀ j, j < atU l (k + 1) → l.getD j 0 < mxU l k
  | 0 => by simp [atU, mxU]
  | k + 1 => by
    have ih := atU_ok l k
    rw [atU, mxU, ih.2.1]
    split
    · refine ⟨Nat.le_refl _, rfl, fun j hj => ?_⟩
      rename_i hgt
      have key : ∀ m j, j ≤ m → l.getD j 0 ≤ mxU l m := by
        intro m
        induction m with
        | zero => intro j hj; have : j = 0 := by omega
                  subst this; exact Int.le_refl _
        | succ m ihm => intro j hj; rw [mxU]; split
                        · by_cases e : j = m + 1
                          · subst e; exact Int.le_refl _
                          · have := ihm j (by omega); omega
                        · by_cases e : j = m + 1
                          · subst e; omega
                          · exact ihm j (by omega)
      have := key k j (by omega)
      omega
    · exact ⟨by omega, ih.2.1, ih.2.2⟩
theorem at_gI (l : List Int) (h0 : 0 < l.length) : gIx (fun x => mxU l (l.length - 1) == x) l = (atU l l.length : Int) := by
  have := atU_ok l (l.length - 1)
  rw [Nat.sub_add_cancel h0] at this
  rw [gIx, gI_eq (p := fun x => mxU l (l.length - 1) == x) (d := 0) (k := atU l l.length) (fun j hj => by have := this.2.2 j hj; rw [beq_eq_false_iff_ne]; omega) (by omega) (by rw [this.2.1]; simp), if_pos (by omega)]
/-- What Hardest answers. -/
noncomputable def hrdR (h : Hand) (l : List Chord) (g : List Grip) : Int × Int :=
  if (cosR h l g).2.2 = 0 then (if l.length = 0 then (0, 3) else (atU (cosR h l g).1 (cosR h l g).1.length, 0)) else (0, (cosR h l g).2.2)
theorem hardest_fn (h : Hand) (l : List Chord) (hl : Fits l) (g : List Grip) (hg : FitsG g) : Fn Try.prog Gd 58 [h.val, tCs l, tGs g] (.tup [vint (hrdR h l g).1, vint (hrdR h l g).2]) := by
  refine Fn.of_vx0 k_hand_Hardest (by simp) (by rw [V.pures, pure_hand, V.pures, pure_tCs, V.pures, pure_tGs]; rfl) ?_
  have C1 := prices_fn h l hl g hg
  unfold hrdR
  unfold c_hand_Hardest
  obtain ⟨L, e, e1, e2, hL⟩ : ∃ (L : List Int) (e : Int), priR h l g = (L, e) ∧ (cosR h l g).2.2 = e ∧ (e = 0 → (cosR h l g).1 = L ∧ L.length = l.length ∧ l.length ≤ 400) := by
    rcases pri_cases h l g with ⟨L, e1, e2, hL, h4, hb⟩ | ⟨L, e1, e2, hL⟩ | ⟨e, n1, n2, e1, e2⟩
    · exact ⟨_, _, e1, by rw [e2], fun _ => ⟨by rw [e2], hL, h4⟩⟩
    · exact ⟨_, _, e1, by rw [e2], fun h => by cases h⟩
    · exact ⟨_, _, e1, by rw [e2], fun h => by subst h; cases n1⟩
  rw [e1] at C1
  rw [e2]
  clear e1 e2 hl hg
  by_cases he : e = 0
  · obtain ⟨e3, e4, e5⟩ := hL he
    rw [if_pos he, e3, ← e4]
    subst he
    by_cases h0 : L.length = 0
    · rw [if_pos h0]
      have c1 : ((L.length : Int) == 0) = true := by rw [h0]; rfl
      clear hL e3 e4 e5 h0
      dsimp only at C1 ⊢
      unfold Hand.val at C1 ⊢
      unfold tCs tGs tIs at C1 ⊢
      repeat' (with_reducible first | refine x_ops ?_ | refine wk ?_ | (with_reducible refine xc (C1) ?_) | ((first | refine gd1 ?_ ?_ | refine gd2 ?_ ?_ | refine gd3 ?_ ?_) <;> (first | exact @False.elim _ | intro hc)))
      exact finV_dry rfl vv
    · rw [if_neg h0]
      have c1 : ((L.length : Int) == 0) = false := by rw [beq_eq_false_iff_ne]; omega
      have C2 := max_fn L (by omega) (by omega)
      have C3 := index_fn L (mxU L (L.length - 1)) (by omega)
      rw [at_gI L (by omega)] at C3
      clear hL e3 e4 e5 h0
      dsimp only at C1 ⊢
      unfold Hand.val at C1 ⊢
      unfold tCs tGs at C1 ⊢
      unfold tIs at C1 C2 C3 ⊢
      repeat' (with_reducible first | refine x_ops ?_ | refine wk ?_ | (with_reducible refine xc (C1) ?_) | (with_reducible refine xc (C2) ?_) | (with_reducible refine xc (C3) ?_) | ((first | refine gd1 ?_ ?_ | refine gd2 ?_ ?_ | refine gd3 ?_ ?_) <;> (first | exact @False.elim _ | intro hc)))
      exact finV_dry rfl vv
  · rw [if_neg he]
    have c1 : (e == 0) = false := by simpa using he
    clear hL he
    dsimp only at C1 ⊢
    unfold Hand.val at C1 ⊢
    unfold tCs tGs tIs at C1 ⊢
    repeat' (with_reducible first | refine x_ops ?_ | refine wk ?_ | (with_reducible refine xc (C1) ?_) | ((first | refine gd1 ?_ ?_ | refine gd2 ?_ ?_ | refine gd3 ?_ ?_) <;> (first | exact @False.elim _ | intro hc)))
    exact finV_dry rfl vv
theorem rhardest_fn (h : Hand) (l : List Chord) (hl : Fits l) (g : List Grip) (hg : FitsG g) : Fn Try.prog Gd 59 [h.val, tCs l, tGs g] (.tup [vint (hrdR h l g).1, vint (hrdR h l g).2]) := by
  refine Fn.of_vx0 k_theorboref06_Hardest (by simp) (by rw [V.pures, pure_hand, V.pures, pure_tCs, V.pures, pure_tGs]; rfl) ?_
  have C1 := rcosts_fn h l hl g hg
  unfold hrdR
  unfold c_theorboref06_Hardest
  obtain ⟨L, a, e, e2, hL⟩ : ∃ (L : List Int) (a e : Int), cosR h l g = (L, a, e) ∧ (e = 0 → L.length = l.length ∧ l.length ≤ 400) := by
    rcases pri_cases h l g with ⟨L, e1, e2, hL, h4, hb⟩ | ⟨L, e1, e2, hL⟩ | ⟨e, n1, n2, e1, e2⟩
    · exact ⟨_, _, _, e2, fun _ => ⟨hL, h4⟩⟩
    · exact ⟨_, _, _, e2, fun h => by cases h⟩
    · exact ⟨_, _, _, e2, fun h => by subst h; cases n1⟩
  rw [e2] at C1 ⊢
  clear e2 hl hg
  by_cases he : e = 0
  · obtain ⟨e4, e5⟩ := hL he
    rw [if_pos he]
    subst he
    by_cases h0 : l.length = 0
    · rw [if_pos h0]
      have c1 : ((l.length : Int) == 0) = true := by rw [h0]; rfl
      clear hL e4 e5 h0
      dsimp only at C1 ⊢
      unfold Hand.val at C1 ⊢
      unfold tCs tGs tIs at C1 ⊢
      repeat' (with_reducible first | refine x_ops ?_ | refine wk ?_ | (with_reducible refine xc (C1) ?_) | ((first | refine gd1 ?_ ?_ | refine gd2 ?_ ?_ | refine gd3 ?_ ?_) <;> (first | exact @False.elim _ | intro hc)))
      exact finV_dry rfl vv
    · rw [if_neg h0]
      have c1 : ((l.length : Int) == 0) = false := by rw [beq_eq_false_iff_ne]; omega
      replace e4 := Hid.mk e4
      clear hL
      dsimp only at C1 ⊢
      unfold Hand.val at C1 ⊢
      unfold tCs tGs at C1 ⊢
      unfold tIs at C1 ⊢
      repeat' (with_reducible first | refine x_ops ?_ | refine wk ?_ | (with_reducible refine xc (C1) ?_) | ((first | refine gd1 ?_ ?_ | refine gd2 ?_ ?_ | refine gd3 ?_ ?_) <;> (first | exact @False.elim _ | intro hc)))
      refine x_loopF w_theorboref06_Hardest_p6 (by kernel_rfl) L.length (fun k t => t 12 = vint (k : Int) ∧ t 11 = vint (atU L k : Int)) ?_ ?_
      · exact ⟨vv, vv⟩
      rintro k t hk ⟨h12, h11⟩
      by_cases hlt : k < L.length
      · have ha : atU L k < L.length := by
          cases k with
          | zero => exact hlt
          | succ k => have := (atU_ok L k).1; omega
        have g1 := ints_at hlt
        have g2 := ints_at ha
        have c2 : (k : Int) < (L.length : Int) := by omega
        have c3 : (atU L k : Int) < (L.length : Int) := by omega
        have w2 := w_add1 (k := k) (by have := e4.out; omega)
        have e : atU L (k + 1) = if L.getD (atU L k) 0 < L.getD k 0 then k else atU L k := rfl
        replace e := Hid.mk e
        repeat' (with_reducible first | refine x_ops ?_ | refine wk ?_ | ((first | refine gd1 ?_ ?_ | refine gd2 ?_ ?_ | refine gd3 ?_ ?_) <;> (first | exact @False.elim _ | intro hc)))
        · exact nf (by omega) ⟨vv, by rw [e.out, if_pos hc]; exact vv⟩ rfl
        · exact nf (by omega) ⟨vv, by rw [e.out, if_neg hc]; exact vw⟩ rfl
      · have hkl : k = L.length := by omega
        subst hkl
        have c2 : ¬ (L.length : Int) < (L.length : Int) := by omega
        repeat' (with_reducible first | refine x_ops ?_ | refine wk ?_ | ((first | refine gd1 ?_ ?_ | refine gd2 ?_ ?_ | refine gd3 ?_ ?_) <;> (first | exact @False.elim _ | intro hc)))
        exact finV_dry rfl vv
  · rw [if_neg he]
    have c1 : (e == 0) = false := by simpa using he
    clear hL he
    dsimp only at C1 ⊢
    unfold Hand.val at C1 ⊢
    unfold tCs tGs tIs at C1 ⊢
    repeat' (with_reducible first | refine x_ops ?_ | refine wk ?_ | (with_reducible refine xc (C1) ?_) | ((first | refine gd1 ?_ ?_ | refine gd2 ?_ ?_ | refine gd3 ?_ ?_) <;> (first | exact @False.elim _ | intro hc)))
    exact finV_dry rfl vv
end Go.Proofs.Ytojjdkoglhecbaa
namespace Go.Proofs.Ytojjdkoglhecbaa
open Go.RowKit
set_option linter.unusedSimpArgs false
set_option linter.unusedVariables false

/-- A search: a hand and a sequence. -/
def srV (h : Hand) (l : List Chord) : V := .agg [tIs h.low, tIs h.high, tBs h.barre, vint h.top, vint h.jump, vint h.shift, vint h.lift, vint h.bar, vint h.stretch, vint h.slide, tCs l]
theorem pure_sr (h : Hand) (l : List Chord) : (srV h l).pure = true := by
  rw [srV, V.pure]
  simp only [V.pures, pure_tIs, pure_tBs, pure_tCs, vint, V.pure, Bool.and_self]
theorem handvalid_fn (h : Hand) (l : List Chord) (hl : Fits l) (g : List Grip) (hg : FitsG g) : Fn Try.prog Gd 17 [srV h l, tGs g] (vbool true) := by
  refine Fn.of_vx0 k_theorbolaw06_HandValid (by simp) (by rw [V.pures, pure_sr, V.pures, pure_tGs]; rfl) ?_
  have C1 := valid_fn h l hl g hg
  have C2 := rvalid_fn h l hl g hg
  have C3 := hardest_fn h l hl g hg
  have C4 := rhardest_fn h l hl g hg
  have C5 := works_fn
  clear hl hg
  generalize valR h l g = v at C1 C2
  generalize hrdR h l g = w at C3 C4
  unfold Hand.val at C1 C2 C3 C4
  unfold tCs tGs at C1 C2 C3 C4
  unfold c_theorbolaw06_HandValid srV tCs tGs
  repeat' (with_reducible first | refine x_ops ?_ | refine wk ?_ | (with_reducible refine xc (C1) ?_) | (with_reducible refine xc (C2) ?_) | (with_reducible refine xc (C3) ?_) | (with_reducible refine xc (C4) ?_) | (with_reducible refine xc (C5) ?_) | ((first | refine gd1 ?_ ?_ | refine gd2 ?_ ?_ | refine gd3 ?_ ?_) <;> (first | exact @False.elim _ | intro hc)))
  exact finV_dry rfl vv
end Go.Proofs.Ytojjdkoglhecbaa
