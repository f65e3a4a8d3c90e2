/- What each chord of a fingering costs: definitions, on values. The error of a hand and a sequence, program and reference, on values. What each chord of a fingering costs: the reference, on values. What each chord of a fingering costs: the program, on values. What a fingering costs, and which chord costs most: program and reference, on values. The law HandValid, on values. Functions of the program, as code on values by numbers: printed by a program from the program that was given, and held against it here. The grips of a chord, in order: plain. The grips that the program lists: what the closure goes on, on values. The grips that the program lists, on values. What grips and Grips of the program answer, on values. The grips that the reference lists: extend, on values. What Grips of the reference answers, on values; the law HandGrips. -/
import Derived.Test.YtojjdkoglhecbaaG0
import Derived.Test.YtojjdkoglhecbaaWk
import Derived.Test.YtojjdkoglhecbaaX03
import Derived.Test.YtojjdkoglhecbaaX04
import Derived.Test.YtojjdkoglhecbaaXw
set_option linter.unusedSimpArgs false
set_option linter.unusedVariables false
namespace Go.Proofs.Ytojjdkoglhecbaa
open Go.RowKit
set_option linter.unusedSimpArgs false
set_option linter.unusedVariables false

/-- No grip. -/
def noG : Grip := ⟨0, []⟩
/-- A list of grips. -/
def tGs (l : List Grip) : V := .sl l.length (l.flatMap Grip.cells) .no
theorem pure_tGs (l : List Grip) : (tGs l).pure = true := by rw [tGs, V.pure]; intro t h; cases h
theorem gs_l (x : Grip) : x.cells.length = 2 := rfl
theorem gs_len (l : List Grip) : (l.flatMap Grip.cells).length = l.length * 2 := flat_len gs_l l
theorem gs_take {l : List Grip} {k : Nat} (h : k < l.length) : ((l.flatMap Grip.cells).drop (k * 2)).take 2 = [vint (l.getD k noG).pos, tIs (l.getD k noG).fingers] := flat_take gs_l noG h
/-- The lengths fit. -/
def FitsG (l : List Grip) : Prop := l.length ≤ 17592186044416 ∧ ∀ g ∈ l, g.fingers.length ≤ 17592186044416
theorem FitsG.at {l : List Grip} (h : FitsG l) (k : Nat) : (l.getD k noG).fingers.length ≤ 17592186044416 := by
  rw [List.getD_eq_getElem?_getD]
  rcases Nat.lt_or_ge k l.length with hk | hk
  · rw [List.getElem?_eq_getElem hk]; exact h.2 _ (List.getElem_mem hk)
  · rw [List.getElem?_eq_none hk]; decide
/-- The chord k is fingered right. -/
def PrOk (h : Hand) (l : List Chord) (g : List Grip) (k : Nat) : Prop :=
  FitG h (l.getD k noC) (g.getD k noG) ∧ (0 < k → StepOk h (l.getD (k - 1) noC) (g.getD (k - 1) noG) (l.getD k noC) (g.getD k noG))
/-- What it costs. -/
def prC (h : Hand) (l : List Chord) (g : List Grip) (k : Nat) : Int :=
  if 0 < k then ownC h (l.getD k noC) (g.getD k noG) + stepC h (l.getD (k - 1) noC) (g.getD (k - 1) noG) (l.getD k noC) (g.getD k noG) else ownC h (l.getD k noC) (g.getD k noG)
/-- What the first ones cost. -/
def prL (h : Hand) (l : List Chord) (g : List Grip) (k : Nat) : List Int := (List.range k).map (prC h l g)
theorem prL_len (h : Hand) (l : List Chord) (g : List Grip) (k : Nat) : (prL h l g k).length = k := by simp [prL]
theorem prL_succ (h : Hand) (l : List Chord) (g : List Grip) (k : Nat) : prL h l g (k + 1) = prL h l g k ++ [prC h l g k] := by simp [prL, List.range_succ]
open Classical in
/-- How many are right ahead of the first wrong one, among the first ones. -/
noncomputable def prN (h : Hand) (l : List Chord) (g : List Grip) : Nat → Nat
  | 0 => 0
  | k + 1 => if prN h l g k = k ∧ PrOk h l g k then k + 1 else prN h l g k
theorem prN_all {h : Hand} {l : List Chord} {g : List Grip} : ∀ {k : Nat}, (∀ i, i < k → PrOk h l g i) → prN h l g k = k
  | 0, _ => rfl
  | k + 1, ha => by rw [prN, if_pos ⟨prN_all fun i hi => ha i (by omega), ha k (by omega)⟩]
theorem prN_bad {h : Hand} {l : List Chord} {g : List Grip} {k : Nat} (ha : ∀ i, i < k → PrOk h l g i) (hb : ¬ PrOk h l g k) : ∀ {n : Nat}, k < n → prN h l g n = k
  | 0, hn => by omega
  | n + 1, hn => by
    rcases Nat.lt_or_ge k n with h1 | h1
    · rw [prN, prN_bad ha hb h1, if_neg (fun hh => by omega)]
    · have : n = k := by omega
      subst this
      rw [prN, prN_all ha, if_neg (fun hh => hb hh.2)]
end Go.Proofs.Ytojjdkoglhecbaa
namespace Go.Proofs.Ytojjdkoglhecbaa
open Go.RowKit
set_option linter.unusedSimpArgs false
set_option linter.unusedVariables false

/-- The error of a hand and a sequence. -/
noncomputable def bothE (h : Hand) (l : List Chord) : Int := if chkE h = 0 then seqE l else 60
theorem bothck_fn (h : Hand) (l : List Chord) (hl : Fits l) : Fn Try.prog Gd 102 [h.val, tCs l] (vint (bothE h l)) := by
  refine Fn.of_vx0 k_hand_check (by simp) (by rw [V.pures, pure_hand, V.pures, pure_tCs]; rfl) ?_
  have C1 := check_fn h
  have C2 := checkchords_fn l hl
  unfold bothE
  generalize seqE l = se at C2
  unfold tCs at C2
  unfold Hand.val at C1
  unfold c_hand_check Hand.val tCs
  by_cases he : chkE h = 0
  · rw [if_pos he]
    rw [he] at C1
    clear he
    repeat' (with_reducible first | refine x_ops ?_ | refine wk ?_ | (with_reducible refine xc (C1) ?_) | (with_reducible refine xc (C2) ?_) | ((first | refine gd1 ?_ ?_ | refine gd2 ?_ ?_ | refine gd3 ?_ ?_) <;> (first | exact @False.elim _ | intro hc)))
    all_goals exact finV_lit vv rfl
  · rw [if_neg he]
    rw [chk_bad he] at C1
    clear he
    repeat' (with_reducible first | refine x_ops ?_ | refine wk ?_ | (with_reducible refine xc (C1) ?_) | (with_reducible refine xc (C2) ?_) | ((first | refine gd1 ?_ ?_ | refine gd2 ?_ ?_ | refine gd3 ?_ ?_) <;> (first | exact @False.elim _ | intro hc)))
    all_goals exact finV_lit vv rfl
end Go.Proofs.Ytojjdkoglhecbaa
namespace Go.Proofs.Ytojjdkoglhecbaa
open Go.RowKit
set_option linter.unusedSimpArgs false
set_option linter.unusedVariables false

theorem stepC_bound {h : Hand} (hk : HandOk h) {a b : Chord} {g k : Grip} (pg : 1 ≤ g.pos ∧ g.pos ≤ 18) (pk : 1 ≤ k.pos ∧ k.pos ≤ 18) : 0 ≤ stepC h a g b k ∧ stepC h a g b k ≤ 105000 := by
  have n4 := hk.n4
  have hm := mul_bound hk.shift (b := dist g.pos k.pos) ⟨dist_le, dist_bound (by omega) (by omega)⟩
  have hl := hk.lift
  have hu := slU_bound hk (a := a) (b := b) (g := g) (k := k) (f := h.low.length)
  rw [stepC]
  split <;> split <;> omega
theorem prC_bound {h : Hand} (hk : HandOk h) {l : List Chord} {g : List Grip} {k : Nat} (hs : ChordOk (l.getD k noC)) (h1 : PrOk h l g k) (h2 : 0 < k → PrOk h l g (k - 1)) :
    (0 ≤ ownC h (l.getD k noC) (g.getD k noG) ∧ ownC h (l.getD k noC) (g.getD k noG) ≤ 404000) ∧ 0 ≤ prC h l g k ∧ prC h l g k ≤ 509000 := by
  have n4 := hk.n4
  have ht := hk.top
  have hp := h1.1.pos
  have ho := ownU_bound hk hs (g := g.getD k noG) ⟨hp.1, by omega⟩ (k := h.low.length) (Nat.le_refl _)
  have ho' : 0 ≤ ownC h (l.getD k noC) (g.getD k noG) ∧ ownC h (l.getD k noC) (g.getD k noG) ≤ 404000 := by rw [ownC]; omega
  refine ⟨ho', ?_⟩
  rw [prC]
  split
  · rename_i hk0
    have hq := (h2 hk0).1.pos
    have := stepC_bound hk (a := l.getD (k - 1) noC) (b := l.getD k noC) (g := g.getD (k - 1) noG) (k := g.getD k noG) ⟨hq.1, by omega⟩ ⟨hp.1, by omega⟩
    omega
  · omega
/-- What costs answers. -/
noncomputable def cosR (h : Hand) (l : List Chord) (g : List Grip) : List Int × Int × Int :=
  if bothE h l = 0 then (if g.length = l.length then (if prN h l g l.length = l.length then (prL h l g l.length, 0, 0) else ([], (prN h l g l.length : Int), 61)) else ([], 0, 1)) else ([], 0, bothE h l)
theorem both_ok {h : Hand} {l : List Chord} (hb : bothE h l = 0) : HandOk h ∧ l.length ≤ 400 ∧ SeqOk l := by
  rw [bothE] at hb
  split at hb
  · rename_i he
    refine ⟨chk_ok he, ?_⟩
    rw [seqE] at hb
    split at hb
    · cases hb
    · split at hb
      · rename_i h1 h2
        exact ⟨by omega, by simpa using h2⟩
      · cases hb
  · cases hb
end Go.Proofs.Ytojjdkoglhecbaa
namespace Go.Proofs.Ytojjdkoglhecbaa
open Go.RowKit
set_option linter.unusedSimpArgs false
set_option linter.unusedVariables false

end Go.Proofs.Ytojjdkoglhecbaa
namespace Go.Proofs.Ytojjdkoglhecbaa
open Go.RowKit
set_option linter.unusedSimpArgs false
set_option linter.unusedVariables false

/-- What prices answers. -/
noncomputable def priR (h : Hand) (l : List Chord) (g : List Grip) : List Int × Int :=
  if bothE h l = 0 then (if g.length = l.length then (prL h l g (prN h l g l.length), if prN h l g l.length = l.length then 0 else 61) else ([], 1)) else ([], bothE h l)
set_option maxHeartbeats 2000000 in
theorem prices_fn (h : Hand) (l : List Chord) (hl : Fits l) (g : List Grip) (hg : FitsG g) : Fn Try.prog Gd 90 [h.val, tCs l, tGs g] (.tup [tIs (priR h l g).1, vint (priR h l g).2]) := by
  refine Fn.of_vx0 k_hand_prices (by simp) (by rw [V.pures, pure_hand, V.pures, pure_tCs, V.pures, pure_tGs]; rfl) ?_
  have C1 := bothck_fn h l hl
  unfold priR
  unfold c_hand_prices tCs tGs
  unfold tCs at C1
  by_cases he : bothE h l = 0
  case neg =>
    rw [if_neg he]
    generalize bothE h l = be at he C1
    have e1 : (be == 0) = false := by simpa using he
    clear he
    unfold Hand.val at C1 ⊢
    repeat' (with_reducible first | refine x_ops ?_ | refine wk ?_ | (with_reducible refine xc (C1) ?_) | ((first | refine gd1 ?_ ?_ | refine gd2 ?_ ?_ | refine gd3 ?_ ?_) <;> (first | exact @False.elim _ | intro hc)))
    exact finV_ret vv (.tup (.cons (.sl _ _ _) (.cons (.lit _) .nil)))
  rw [if_pos he]
  obtain ⟨hk, h400, hseq⟩ := both_ok he
  rw [he] at C1
  clear he
  by_cases hlen : g.length = l.length
  case neg =>
    rw [if_neg hlen]
    have e1 : ((g.length : Int) == (l.length : Int)) = false := by simp; omega
    clear hlen h400
    unfold Hand.val at C1 ⊢
    repeat' (with_reducible first | refine x_ops ?_ | refine wk ?_ | (with_reducible refine xc (C1) ?_) | ((first | refine gd1 ?_ ?_ | refine gd2 ?_ ?_ | refine gd3 ?_ ?_) <;> (first | exact @False.elim _ | intro hc)))
    exact finV_ret vv (.tup (.cons (.sl _ _ _) (.cons (.lit _) .nil)))
  rw [if_pos hlen]
  have e1 : ((g.length : Int) == (l.length : Int)) = true := by simp; omega
  replace hlen := Hid.mk hlen
  unfold Hand.val at C1 ⊢
  repeat' (with_reducible first | refine x_ops ?_ | refine wk ?_ | (with_reducible refine xc (C1) ?_) | ((first | refine gd1 ?_ ?_ | refine gd2 ?_ ?_ | refine gd3 ?_ ?_) <;> (first | exact @False.elim _ | intro hc)))
  refine x_loopW w_hand_prices_p15 (by kernel_rfl) l.length (fun k t m => t 27 = vint (k : Int) ∧ (∃ tok, t 6 = .sl k ((prL h l g k).map vint) tok ∧ Apb m tok k 3 1) ∧
    m.obj 0 = some (.box [tIs h.low, tIs h.high, tBs h.barre, vint h.top, vint h.jump, vint h.shift, vint h.lift, vint h.bar, vint h.stretch, vint h.slide] 25) ∧ 0 < m.next ∧ ∀ i, i < k → PrOk h l g i) ?_ ?_
  · exact ⟨vv, ⟨.exact, vv, .inl rfl⟩, vv, by ((refine ve ?_; try exact True.intro)); try omega, fun i h => by omega⟩
  rintro k t m hkk ⟨h11, ⟨tok, h10, hap⟩, hm, hn, hI⟩
  replace hI := Hid.mk hI
  by_cases hlt : k < l.length
  · have hlg : k < g.length := by rw [hlen.out]; exact hlt
    have g1 := chs_take hlt
    have g2 := chs_len l
    have g3 := gs_take hlg
    have g4 := gs_len g
    have c1 : (k : Int) < (l.length : Int) := by omega
    have c2 : (k : Int) < (g.length : Int) := by omega
    have c3 : k * 3 + 3 ≤ l.length * 3 := by omega
    have c4 : k * 2 + 2 ≤ g.length * 2 := by omega
    have w2 := w_add1 (k := k) (by omega)
    have n6 : 0 < m.next + 6 := by omega
    have x0 : ¬ 0 = m.next + 3 := by omega
    have hok := (hseq k hlt).1
    have C3 := fits_fn h hk (l.getD k noC) (hl.at k) (g.getD k noG) (hg.at k)
    cases ht : fitB h (l.getD k noC) (g.getD k noG)
    · rw [ht] at C3
      have e2 : prN h l g l.length = k := prN_bad hI.out (fun hh => by rw [fit_true.2 hh.1] at ht; cases ht) hlt
      rw [e2, if_neg (by omega)]
      have e7 := prL_len h l g k
      clear ht e2 hok
      unfold Hand.val Chord.val Chord.cells Grip.val Grip.cells at C3
      generalize l.getD k noC = cb at *
      generalize g.getD k noG = gb at *
      repeat' (with_reducible first | refine x_ops ?_ | refine wk ?_ | (with_reducible refine xc (C3) ?_) | ((first | refine gd1 ?_ ?_ | refine gd2 ?_ ?_ | refine gd3 ?_ ?_) <;> (first | exact @False.elim _ | intro hc)))
      exact finV_ret vv (.tup (.cons (.sl _ _ _) (.cons (.lit _) .nil)))
    rw [ht] at C3
    have hfit := fit_true.1 ht
    have htop := hk.top
    have hpos := hfit.pos
    have C4 := own_fn h hk (l.getD k noC) hok (hl.at k) (g.getD k noG) hfit.len ⟨hpos.1, by omega⟩
    by_cases hk0 : 0 < k
    · have c5 : (0 : Int) < (k : Int) := by omega
      have g5 := chs_take (l := l) (k := k - 1) (by omega)
      have g6 := gs_take (l := g) (k := k - 1) (by omega)
      have c6 : ((k - 1 : Nat) : Int) < (l.length : Int) := by omega
      have c7 : ((k - 1 : Nat) : Int) < (g.length : Int) := by omega
      have c8 : (k - 1) * 3 + 3 ≤ l.length * 3 := by omega
      have c9 : (k - 1) * 2 + 2 ≤ g.length * 2 := by omega
      have w1 := w_sub1 hk0 (by omega)
      have hfit1 := (hI.out (k - 1) (by omega)).1
      have hpos1 := hfit1.pos
      have C5 := step_fn h hk (l.getD (k - 1) noC) (l.getD k noC) (hseq (k - 1) (by omega)).1 hok ((hseq k hlt).2 hk0) (hl.at _) (hl.at _) (g.getD (k - 1) noG) (g.getD k noG) hfit1.len hfit.len ⟨hpos1.1, by omega⟩ ⟨hpos.1, by omega⟩
      by_cases hst : StepOk h (l.getD (k - 1) noC) (g.getD (k - 1) noG) (l.getD k noC) (g.getD k noG)
      · have hpk : PrOk h l g k := ⟨hfit, fun _ => hst⟩
        have hb := prC_bound hk hok hpk (fun _ => hI.out (k - 1) (by omega))
        have epc : prC h l g k = ownC h (l.getD k noC) (g.getD k noG) + stepC h (l.getD (k - 1) noC) (g.getD (k - 1) noG) (l.getD k noC) (g.getD k noG) := by rw [prC, if_pos hk0]
        rw [stepR_ok hst] at C5
        have w3 : IntKind.i64.wrap (ownC h (l.getD k noC) (g.getD k noG) + stepC h (l.getD (k - 1) noC) (g.getD (k - 1) noG) (l.getD k noC) (g.getD k noG)) = ownC h (l.getD k noC) (g.getD k noG) + stepC h (l.getD (k - 1) noC) (g.getD (k - 1) noG) (l.getD k noC) (g.getD k noG) := w_in (by omega)
        replace hpk := Hid.mk hpk
        replace epc := Hid.mk epc
        clear hb hst ht hok hfit hfit1 hpos hpos1 htop
        unfold Hand.val Chord.val Chord.cells Grip.val Grip.cells at C3 C4 C5
        generalize l.getD (k - 1) noC = ca at *
        generalize g.getD (k - 1) noG = ga at *
        generalize l.getD k noC = cb at *
        generalize g.getD k noG = gb at *
        repeat' (with_reducible first | refine x_ops ?_ | refine wk ?_ | (with_reducible refine xc (C3) ?_) | (with_reducible refine xc (C4) ?_) | (with_reducible refine xc (C5) ?_) | ((first | refine gd1 ?_ ?_ | refine gd2 ?_ ?_ | refine gd3 ?_ ?_) <;> (first | exact @False.elim _ | intro hc)))
        refine x_appb (xs := (prL h l g k).map vint) (ys := [vint (prC h l g k)]) vw (by rw [epc.out]; exact vw) (hap.mono (fun q hq _ => by (simp only [put_obj]; repeat rw [if_neg (by omega)])) (by simp only [put_next]; omega)) (by rw [List.length_map, prL_len, Nat.mul_one]) rfl (by omega) (by unfold Go.maxLen; omega) (by show m.next + 9 < m.next + 11; omega) ?_
        intro tok' m' hap' hn' hbox hobj
        have ho := hbox 0 _ _ (by simp only [put_obj]; rw [if_neg (by omega)]; exact hm) (by show ¬ 0 = m.next + 9; omega)
        replace hn' : m'.next = m.next + 11 := hn'
        clear hbox hobj hap
        repeat' (with_reducible first | refine x_ops ?_ | refine wk ?_ | ((first | refine gd1 ?_ ?_ | refine gd2 ?_ ?_ | refine gd3 ?_ ?_) <;> (first | exact @False.elim _ | intro hc)))
        refine nx (by omega) ⟨vv, ⟨tok', ?_, hap'.mono (fun _ _ _ => rfl) (Nat.le_of_eq hn')⟩, ho, by ((refine ve ?_; try exact True.intro)); omega, fun i h => ?_⟩
        · rw [prL_succ, List.map_append]; exact vv
        · by_cases hi : i = k
          · subst hi; exact hpk.out
          · exact hI.out i (by omega)
      · have e2 : prN h l g l.length = k := prN_bad hI.out (fun hh => hst (hh.2 hk0)) hlt
        rw [stepR_no hst] at C5
        rw [e2, if_neg (by omega)]
        have e7 := prL_len h l g k
        clear hst ht hok hfit hfit1 hpos hpos1 htop e2
        unfold Hand.val Chord.val Chord.cells Grip.val Grip.cells at C3 C4 C5
        generalize l.getD (k - 1) noC = ca at *
        generalize g.getD (k - 1) noG = ga at *
        generalize l.getD k noC = cb at *
        generalize g.getD k noG = gb at *
        repeat' (with_reducible first | refine x_ops ?_ | refine wk ?_ | (with_reducible refine xc (C3) ?_) | (with_reducible refine xc (C4) ?_) | (with_reducible refine xc (C5) ?_) | ((first | refine gd1 ?_ ?_ | refine gd2 ?_ ?_ | refine gd3 ?_ ?_) <;> (first | exact @False.elim _ | intro hc)))
        exact finV_ret vv (.tup (.cons (.sl _ _ _) (.cons (.lit _) .nil)))
    · have c5 : ¬ (0 : Int) < (k : Int) := by omega
      have hpk : PrOk h l g k := ⟨hfit, fun hh => absurd hh hk0⟩
      have epc : prC h l g k = ownC h (l.getD k noC) (g.getD k noG) := by rw [prC, if_neg hk0]
      replace hpk := Hid.mk hpk
      replace epc := Hid.mk epc
      clear ht hok hfit hpos htop
      unfold Hand.val Chord.val Chord.cells Grip.val Grip.cells at C3 C4
      generalize l.getD k noC = cb at *
      generalize g.getD k noG = gb at *
      repeat' (with_reducible first | refine x_ops ?_ | refine wk ?_ | (with_reducible refine xc (C3) ?_) | (with_reducible refine xc (C4) ?_) | ((first | refine gd1 ?_ ?_ | refine gd2 ?_ ?_ | refine gd3 ?_ ?_) <;> (first | exact @False.elim _ | intro hc)))
      refine x_appb (xs := (prL h l g k).map vint) (ys := [vint (prC h l g k)]) vw (by rw [epc.out]; exact vw) (hap.mono (fun q hq _ => by (simp only [put_obj]; repeat rw [if_neg (by omega)])) (by simp only [put_next]; omega)) (by rw [List.length_map, prL_len, Nat.mul_one]) rfl (by omega) (by unfold Go.maxLen; omega) (by show m.next + 9 < m.next + 11; omega) ?_
      intro tok' m' hap' hn' hbox hobj
      have ho := hbox 0 _ _ (by simp only [put_obj]; rw [if_neg (by omega)]; exact hm) (by show ¬ 0 = m.next + 9; omega)
      replace hn' : m'.next = m.next + 11 := hn'
      clear hbox hobj hap
      repeat' (with_reducible first | refine x_ops ?_ | refine wk ?_ | ((first | refine gd1 ?_ ?_ | refine gd2 ?_ ?_ | refine gd3 ?_ ?_) <;> (first | exact @False.elim _ | intro hc)))
      refine nx (by omega) ⟨vv, ⟨tok', ?_, hap'.mono (fun _ _ _ => rfl) (Nat.le_of_eq hn')⟩, ho, by ((refine ve ?_; try exact True.intro)); omega, fun i h => ?_⟩
      · rw [prL_succ, List.map_append]; exact vv
      · by_cases hi : i = k
        · subst hi; exact hpk.out
        · exact hI.out i (by omega)
  · have hkl : k = l.length := by omega
    subst hkl
    have c1 : ¬ (l.length : Int) < (l.length : Int) := by omega
    rw [prN_all hI.out, if_pos rfl]
    clear hlt hap
    have e5 := prL_len h l g l.length
    replace e5 := Hid.mk e5
    repeat' (with_reducible first | refine x_ops ?_ | refine wk ?_ | ((first | refine gd1 ?_ ?_ | refine gd2 ?_ ?_ | refine gd3 ?_ ?_) <;> (first | exact @False.elim _ | intro hc)))
    exact finV_ret vv (by rw [e5.out]; exact .tup (.cons (.sl _ _ _) (.cons (.lit _) .nil)))
end Go.Proofs.Ytojjdkoglhecbaa
namespace Go.Proofs.Ytojjdkoglhecbaa
open Go.RowKit
set_option linter.unusedSimpArgs false
set_option linter.unusedVariables false

/-- The sum of the first ones. -/
def smI (l : List Int) : Nat → Int
  | 0 => 0
  | k + 1 => smI l k + l.getD k 0
theorem sm_bound {l : List Int} (hc : ∀ i, i < l.length → 0 ≤ l.getD i 0 ∧ l.getD i 0 ≤ 509000) : ∀ {k : Nat}, k ≤ l.length → 0 ≤ smI l k ∧ smI l k ≤ 509000 * k
  | 0, _ => by simp [smI]
  | k + 1, hk => by have := sm_bound hc (k := k) (by omega); have := hc k (by omega); rw [smI]; omega
theorem prN_le (h : Hand) (l : List Chord) (g : List Grip) (n : Nat) : prN h l g n ≤ n := by
  induction n with
  | zero => exact Nat.le_refl _
  | succ n ih => rw [prN]; split <;> omega
theorem prN_ok {h : Hand} {l : List Chord} {g : List Grip} {n : Nat} (hn : prN h l g n = n) : ∀ i, i < n → PrOk h l g i := by
  induction n with
  | zero => intro i hi; omega
  | succ n ih =>
    rw [prN] at hn
    split at hn
    · rename_i hh
      intro i hi
      by_cases e : i = n
      · subst e; exact hh.2
      · exact ih hh.1 i (by omega)
    · have := prN_le h l g n; omega
theorem prL_at {h : Hand} {l : List Chord} {g : List Grip} {n i : Nat} (hi : i < n) : (prL h l g n).getD i 0 = prC h l g i := by
  rw [prL, List.getD_eq_getElem?_getD, List.getElem?_map, List.getElem?_range hi]; rfl
/-- What prices and costs answer, case by case. -/
theorem pri_cases (h : Hand) (l : List Chord) (g : List Grip) :
    (∃ L : List Int, priR h l g = (L, 0) ∧ cosR h l g = (L, 0, 0) ∧ L.length = l.length ∧ l.length ≤ 400 ∧ ∀ i, i < L.length → 0 ≤ L.getD i 0 ∧ L.getD i 0 ≤ 509000) ∨
    (∃ (L : List Int), priR h l g = (L, 61) ∧ cosR h l g = ([], (L.length : Int), 61) ∧ L.length ≤ 400) ∨
    (∃ e : Int, (e == 0) = false ∧ (e == 61) = false ∧ priR h l g = ([], e) ∧ cosR h l g = ([], 0, e)) := by
  rw [priR, cosR]
  by_cases hb : bothE h l = 0
  · rw [if_pos hb, if_pos hb]
    obtain ⟨hk, h400, hseq⟩ := both_ok hb
    by_cases hl : g.length = l.length
    · rw [if_pos hl, if_pos hl]
      by_cases hp : prN h l g l.length = l.length
      · rw [if_pos hp, if_pos hp]
        refine .inl ⟨_, by rw [hp], rfl, prL_len h l g _, h400, fun i hi => ?_⟩
        rw [prL_len] at hi
        rw [prL_at hi]
        have hok := prN_ok hp
        exact (prC_bound hk (hseq i hi).1 (hok i hi) fun h0 => hok (i - 1) (by omega)).2
      · rw [if_neg hp, if_neg hp]
        have := prN_le h l g l.length
        exact .inr (.inl ⟨_, rfl, by rw [prL_len], by rw [prL_len]; omega⟩)
    · rw [if_neg hl, if_neg hl]
      exact .inr (.inr ⟨1, rfl, rfl, rfl, rfl⟩)
  · rw [if_neg hb, if_neg hb]
    refine .inr (.inr ⟨_, by simpa using hb, ?_, rfl, rfl⟩)
    unfold bothE seqE
    split <;> (try split) <;> (try split) <;> rfl
/-- What Valid answers. -/
noncomputable def valR (h : Hand) (l : List Chord) (g : List Grip) : Int × Int × Int := (smI (cosR h l g).1 (cosR h l g).1.length, (cosR h l g).2.1, (cosR h l g).2.2)

theorem valid_fn (h : Hand) (l : List Chord) (hl : Fits l) (g : List Grip) (hg : FitsG g) : Fn Try.prog Gd 56 [h.val, tCs l, tGs g] (.tup [vint (valR h l g).1, vint (valR h l g).2.1, vint (valR h l g).2.2]) := by
  refine Fn.of_vx0 k_hand_Valid (by simp) (by rw [V.pures, pure_hand, V.pures, pure_tCs, V.pures, pure_tGs]; rfl) ?_
  have C1 := prices_fn h l hl g hg
  unfold valR
  unfold c_hand_Valid
  rcases pri_cases h l g with ⟨L, e1, e2, hL, h4, hb⟩ | ⟨L, e1, e2, hL⟩ | ⟨e, n1, n2, e1, e2⟩
  · rw [e1] at C1
    rw [e2]
    have hs := fun k (hk : k ≤ L.length) => sm_bound hb (k := k) hk
    have h5 : L.length ≤ 400 := by omega
    clear e1 e2 hb hl hg hL h4
    dsimp only at C1 ⊢
    unfold Hand.val at C1 ⊢
    unfold tCs tGs tIs at C1 ⊢
    repeat' (with_reducible first | refine x_ops ?_ | refine wk ?_ | (with_reducible refine xc (C1) ?_) | ((first | refine gd1 ?_ ?_ | refine gd2 ?_ ?_ | refine gd3 ?_ ?_) <;> (first | exact @False.elim _ | intro hc)))
    refine x_loopF w_hand_Valid_p8 (by kernel_rfl) L.length (fun k t => t 30 = vint (k : Int) ∧ t 6 = vint (smI L k)) ?_ ?_
    · exact ⟨vv, vv⟩
    rintro k t hk ⟨h30, h6⟩
    by_cases hlt : k < L.length
    · have g1 := ints_at hlt
      have c2 : (k : Int) < (L.length : Int) := by omega
      have w2 := w_add1 (k := k) (by omega)
      have h3 := hs (k + 1) (by omega)
      have w3 : IntKind.i64.wrap (smI L k + L.getD k 0) = smI L (k + 1) := by rw [smI] at h3 ⊢; exact w_in (by omega)
      clear hs h3
      repeat' (with_reducible first | refine x_ops ?_ | refine wk ?_ | ((first | refine gd1 ?_ ?_ | refine gd2 ?_ ?_ | refine gd3 ?_ ?_) <;> (first | exact @False.elim _ | intro hc)))
      exact nf (by omega) ⟨vv, vv⟩ rfl
    · have hkl : k = L.length := by omega
      subst hkl
      have c1 : ¬ (L.length : Int) < (L.length : Int) := by omega
      clear hs
      repeat' (with_reducible first | refine x_ops ?_ | refine wk ?_ | ((first | refine gd1 ?_ ?_ | refine gd2 ?_ ?_ | refine gd3 ?_ ?_) <;> (first | exact @False.elim _ | intro hc)))
      exact finV_dry rfl vv
  · rw [e1] at C1
    rw [e2]
    clear e1 e2 hl hg
    dsimp only at C1 ⊢
    unfold Hand.val at C1 ⊢
    unfold tCs tGs tIs at C1 ⊢
    repeat' (with_reducible first | refine x_ops ?_ | refine wk ?_ | (with_reducible refine xc (C1) ?_) | ((first | refine gd1 ?_ ?_ | refine gd2 ?_ ?_ | refine gd3 ?_ ?_) <;> (first | exact @False.elim _ | intro hc)))
    exact finV_dry rfl vv
  · rw [e1] at C1
    rw [e2]
    clear e1 e2 hl hg
    dsimp only at C1 ⊢
    unfold Hand.val at C1 ⊢
    unfold tCs tGs tIs at C1 ⊢
    repeat' (with_reducible first | refine x_ops ?_ | refine wk ?_ | (with_reducible refine xc (C1) ?_) | ((first | refine gd1 ?_ ?_ | refine gd2 ?_ ?_ | refine gd3 ?_ ?_) <;> (first | exact @False.elim _ | intro hc)))
    exact finV_dry rfl vv
end Go.Proofs.Ytojjdkoglhecbaa
namespace Go.Proofs.Ytojjdkoglhecbaa
open Go.RowKit
set_option linter.unusedSimpArgs false
set_option linter.unusedVariables false

/-- A search: a hand and a sequence. -/
def srV (h : Hand) (l : List Chord) : V := .agg [tIs h.low, tIs h.high, tBs h.barre, vint h.top, vint h.jump, vint h.shift, vint h.lift, vint h.bar, vint h.stretch, vint h.slide, tCs l]
theorem pure_sr (h : Hand) (l : List Chord) : (srV h l).pure = true := by
  rw [srV, V.pure]
  simp only [V.pures, pure_tIs, pure_tBs, pure_tCs, vint, V.pure, Bool.and_self]
end Go.Proofs.Ytojjdkoglhecbaa
namespace Go.Proofs.Ytojjdkoglhecbaa
open Go.RowKit
set_option maxRecDepth 100000

abbrev c_hand_Grips_p1 : VC := (.seq (.ops 0 [oo 12 .mv [.t 6], oo 4 .mv [(.c (.sl 0 [] .exact))], oo 5 .mv [.t 12]]) .ret)
abbrev c_hand_Grips_p2 : VC := (.seq (.ops 0 [oo 10 .mv [.t 6], oo 11 (.bin .neq) [.t 10, kk 0]]) (.cond (.t 11) c_hand_Grips_p1 .skip))
abbrev c_hand_Grips_p3 : VC := (.seq (.ops 0 [oo 4 .mv [(.c (.sl 0 [] .exact))], oo 5 .mv [kk 1]]) .ret)
abbrev c_hand_Grips_p4 : VC := (.seq (.ops 0 [oo 4 .mv [(.c (.sl 0 [] .exact))], oo 5 .mv [kk 2]]) .ret)
abbrev c_hand_Grips_p5 : VC := (.seq (.ops 0 [oo 22 .mv [.t 7], oo 4 .mv [.t 22], oo 5 .mv [kk 0]]) .ret)
abbrev c_hand_Grips_p6 : VC := (.seq (.seq (.ops 0 [oo 19 .mv [.t 7], oo 20 .len [.t 19], oo 21 (.bin .gtr) [.t 20, kk 200]]) (.cond (.t 21) c_hand_Grips_p4 .skip)) c_hand_Grips_p5)
abbrev c_hand_Grips_p7 : VC := (.seq (.ops 0 [oo 16 (.ldA 10) [.t 2], oo 17 (.ldA 3) [.t 3], oo 18 (.call 71) [.t 16, .t 17], oo 7 .mv [.t 18]]) c_hand_Grips_p6)
abbrev c_hand_Grips_p8 : VC := (.seq (.seq (.ops 0 [oo 13 (.ldA 3) [.t 3], oo 14 (.call 65) [.t 13], oo 15 (.un .not) [.t 14]]) (.cond (.t 15) c_hand_Grips_p3 .skip)) c_hand_Grips_p7)
abbrev c_hand_Grips_p9 : VC := (.seq (.seq (.ops 0 [oo 8 (.ldA 10) [.t 2], oo 9 (.call 24) [.t 8], oo 6 .mv [.t 9]]) c_hand_Grips_p2) c_hand_Grips_p8)
def c_hand_Grips : VC := (.seq (.ops 4 [oo 2 (.box 25) [.t 0], oo 3 (.box 47) [.t 1], oo 4 .mv [(.c (.sl 0 [] .exact))], oo 5 .mv [kk 0]]) c_hand_Grips_p9)
theorem k_hand_Grips : Comp Try.prog nobx gtab 32 23 c_hand_Grips [.t 4, .t 5] := ⟨⟨Try.f32, _, Try.func32, rfl, rfl, kr, kr⟩⟩
abbrev c_hand_grips_p1 : VC := (.ops 0 [oo 13 .mv [.t 7], oo 14 (.bin .add) [.t 13, kk 1], oo 7 .mv [.t 14]])
abbrev c_hand_grips_p2 : VC := (.seq (.block 1 (.ops 0 [oo 15 .ld1 [.t 6], oo 16 .mv [.t 7], oo 17 .callv [.t 15, .t 16]])) c_hand_grips_p1)
abbrev c_hand_grips_p3 : VC := (.seq (.seq (.ops 0 [oo 9 .mv [.t 7], oo 10 (.fldA 3) [.t 2], oo 11 .ld1 [.t 10], oo 12 (.bin .leq) [.t 9, .t 11]]) (.cond (.t 12) .skip (.exit 0))) c_hand_grips_p2)
@[go_sem] abbrev w_hand_grips_p3 : Nat := 261760
abbrev c_hand_grips_p5 : VC := (.seq (.ops 0 [oo 18 .ld1 [.t 4], ⟨none, none, (.st 1), [.t 4, .t 18], none⟩]) .ret)
abbrev c_hand_grips_p6 : VC := (.seq (.seq (.ops 0 [oo 7 .mv [kk 1]]) (.block 0 (.loop c_hand_grips_p3))) c_hand_grips_p5)
abbrev c_hand_grips_p7 : VC := (.seq (.ops 0 [oo 8 (.mkfn 104) [.t 5, .t 3, .t 2, .t 4, .t 6], ⟨none, none, (.st 1), [.t 6, .t 8], none⟩]) c_hand_grips_p6)
abbrev c_hand_grips_p8 : VC := (.seq (.ops 1 [oo 6 (.alloc 144 [(.lit .nilFunc)]) []]) c_hand_grips_p7)
abbrev c_hand_grips_p9 : VC := (.seq (.ops 1 [⟨(some 5), none, (.alloc 22 [(.sl 0 [] .exact)]), [], none⟩]) c_hand_grips_p8)
def c_hand_grips : VC := (.seq (.ops 3 [oo 2 (.box 25) [.t 0], oo 3 (.box 47) [.t 1], ⟨(some 4), none, (.alloc 38 [(.sl 0 [] .exact)]), [], none⟩]) c_hand_grips_p9)
theorem k_hand_grips : Comp Try.prog nobx gtab 71 19 c_hand_grips [(.c 4 1 false)] := ⟨⟨Try.f71, _, Try.func71, rfl, rfl, kr, kr⟩⟩
abbrev c_hand_grips_1_b_p1 : VC := (.ops 8 [od 22 .ld1 [.t 4] [], oo 23 .mv [.t 0], od 24 .ld1 [.t 1] [], od 25 (.call 106) [.t 24] [2], ⟨(some 26), none, (.build [li 0, (.sl 0 [] .exact)] [(0, 1), (1, 1)]), [.t 23, .t 25], none⟩, ⟨(some 27), none, (.mksl 1 2 [li 0, (.sl 0 [] .exact)] [(0, 2)]), [.t 26], none⟩, oo 28 (.app 53 2 32) [.t 22, .t 27], ⟨none, none, (.st 1), [.t 4, .t 28], none⟩])
abbrev c_hand_grips_1_b_p2 : VC := (.seq (.seq (.ops 0 [oo 18 (.ldA 10) [.t 3], oo 19 (.ldA 3) [.t 2], oo 20 .ld1 [.t 1], oo 21 (.call 105) [.t 18, .t 19, .t 20]]) (.cond (.t 21) c_hand_grips_1_b_p1 .skip)) .ret)
abbrev c_hand_grips_1_b_p3 : VC := (.seq (.ops 0 [oo 59 (.fldA 0) [.t 2], od 60 .ld1 [.t 59] [0], oo 61 .mv [.t 9], oo 62 (.ixA 2) [.t 60, .t 61], od 63 (.ldA 2) [.t 62] [0, 1, 2, 3], oo 64 (.fldA 0) [.t 2], od 65 .ld1 [.t 64] [5], oo 66 .mv [.t 7], oo 67 (.ixA 2) [.t 65, .t 66], od 68 (.ldA 2) [.t 67] [5, 6, 7, 8], oo 69 .mv [.t 10], oo 70 .mv [.t 8], oo 71 (.call 108) [.t 63, .t 68, .t 69, .t 70], oo 72 (.un .not) [.t 71]]) (.cond (.t 72) (.exit 1) .skip))
abbrev c_hand_grips_1_b_p4 : VC := (.ops 0 [oo 73 (.bin .add) [.t 54, kk 1], oo 54 .mv [.t 73]])
abbrev c_hand_grips_1_b_p5 : VC := (.seq (.block 3 (.seq (.ops 0 [oo 56 .mv [.t 54], oo 57 (.ixA 1) [.t 52, .t 54], oo 58 .ld1 [.t 57], oo 9 .mv [.t 56], oo 10 .mv [.t 58]]) c_hand_grips_1_b_p3)) c_hand_grips_1_b_p4)
abbrev c_hand_grips_1_b_p6 : VC := (.seq (.ops 0 [oo 55 (.bin .lss) [.t 54, .t 53]]) (.seq (.cond (.t 55) .skip (.exit 2)) c_hand_grips_1_b_p5))
@[go_sem] abbrev w_hand_grips_1_b_p6 : Nat := 18889447917080071374336
abbrev c_hand_grips_1_b_p8 : VC := (.ops 0 [oo 81 .ld1 [.t 1], oo 82 .mv [.t 7], oo 83 (.slc 1 false true) [.t 81, .t 82], ⟨none, none, (.st 1), [.t 1, .t 83], none⟩])
abbrev c_hand_grips_1_b_p9 : VC := (.seq (.ops 0 [oo 78 .ld1 [.t 5], oo 79 .mv [.t 0], oo 80 .callv [.t 78, .t 79]]) c_hand_grips_1_b_p8)
abbrev c_hand_grips_1_b_p10 : VC := (.seq (.ops 5 [oo 74 .ld1 [.t 1], oo 75 .mv [.t 8], oo 76 (.mksl 1 1 [li 0] [(0, 1)]) [.t 75], oo 77 (.appM 3 1 8) [.t 74, .t 76], ⟨none, none, (.st 1), [.t 1, .t 77], none⟩]) c_hand_grips_1_b_p9)
abbrev c_hand_grips_1_b_p11 : VC := (.seq (.seq (.ops 0 [oo 52 .ld1 [.t 1], oo 53 .len [.t 52], oo 54 .mv [kk 0]]) (.block 2 (.loop c_hand_grips_1_b_p6))) c_hand_grips_1_b_p10)
abbrev c_hand_grips_1_b_p12 : VC := (.ops 0 [oo 39 .mv [.t 8], oo 40 (.bin .add) [.t 39, kk 1], oo 8 .mv [.t 40]])
abbrev c_hand_grips_1_b_p13 : VC := (.seq (.block 1 (.seq (.seq (.ops 0 [od 41 (.ldA 10) [.t 3] [], oo 42 .mv [.t 0], oo 43 .mv [.t 8], oo 44 (.fldA 0) [.t 2], od 45 .ld1 [.t 44] [3], oo 46 .mv [.t 7], oo 47 (.ixA 2) [.t 45, .t 46], oo 48 (.fldA 1) [.t 47], od 49 .ld1 [.t 48] [3, 4, 5, 6, 7], oo 50 (.call 107) [.t 41, .t 42, .t 43, .t 49], oo 51 (.un .not) [.t 50]]) (.cond (.t 51) (.exit 1) .skip)) c_hand_grips_1_b_p11)) c_hand_grips_1_b_p12)
abbrev c_hand_grips_1_b_p14 : VC := (.seq (.seq (.ops 0 [oo 29 .mv [.t 8], oo 30 (.fldA 0) [.t 3], oo 31 .ld1 [.t 30], oo 32 .len [.t 31], oo 33 (.bin .leq) [.t 29, .t 32], oo 34 .mv [.t 33], og 35 34 true .ld1 [.t 4], og 36 34 true .len [.t 35], og 37 34 true (.bin .leq) [.t 36, kk 200], oo 38 .pick [.t 34, .t 37, (.c (.lit (.bool false)))]]) (.cond (.t 38) .skip (.exit 0))) c_hand_grips_1_b_p13)
@[go_sem] abbrev w_hand_grips_1_b_p14 : Nat := 19342813113834066258429696
abbrev c_hand_grips_1_b_p16 : VC := (.seq (.ops 0 [oo 8 .mv [kk 1]]) (.block 0 (.loop c_hand_grips_1_b_p14)))
abbrev c_hand_grips_1_b_p17 : VC := (.seq (.seq (.ops 0 [oo 13 .mv [.t 7], oo 14 (.fldA 0) [.t 2], oo 15 .ld1 [.t 14], oo 16 .len [.t 15], oo 17 (.bin .eql) [.t 13, .t 16]]) (.cond (.t 17) c_hand_grips_1_b_p2 .skip)) (.seq .skip c_hand_grips_1_b_p16))
def c_hand_grips_1_b : VC := (.scope (.seq (.ops 0 [oo 11 .ld1 [.t 1], oo 12 .len [.t 11], oo 7 .mv [.t 12]]) c_hand_grips_1_b_p17))
theorem k_hand_grips_1_b : Comp Try.prog (fun n => [77,1000077].contains n) gtab 104 84 c_hand_grips_1_b [] := ⟨⟨Try.f104, _, Try.func104, rfl, rfl, kr, kr⟩⟩
abbrev c_slices_Clone_int_int_p1 : VC := (.seq (.ops 0 [oo 2 .mv [(.c (.sl 0 [] .exact))]]) .ret)
abbrev c_slices_Clone_int_int_p2 : VC := (.seq (.ops 4 [oo 5 (.mksl 0 1 [] []) [], oo 6 .mv [.t 0], oo 7 (.app 3 1 8) [.t 5, .t 6], oo 2 .mv [.t 7]]) .ret)
abbrev c_slices_Clone_int_int_p3 : VC := (.seq (.seq (.ops 0 [oo 3 .mv [.t 0], oo 4 (.eqN false) [.t 3]]) (.cond (.t 4) c_slices_Clone_int_int_p1 .skip)) c_slices_Clone_int_int_p2)
def c_slices_Clone_int_int : VC := (.seq (.ops 0 [oo 2 .mv [(.c (.sl 0 [] .exact))]]) c_slices_Clone_int_int_p3)
theorem k_slices_Clone_int_int : Comp Try.prog nobx gtab 106 8 c_slices_Clone_int_int [.t 2] := ⟨⟨Try.f106, _, Try.func106, rfl, rfl, kr, kr⟩⟩
abbrev c_slices_Clone_int_int_b_p1 : VC := (.seq (.ops 0 [oo 2 .mv [(.c (.sl 0 [] .exact))]]) .ret)
abbrev c_slices_Clone_int_int_b_p2 : VC := (.seq (.ops 4 [oo 5 (.mksl 0 1 [] []) [], oo 6 .mv [.t 0], oo 7 (.appM 3 1 8) [.t 5, .t 6], oo 2 .mv [.t 7]]) .ret)
abbrev c_slices_Clone_int_int_b_p3 : VC := (.seq (.seq (.ops 0 [oo 3 .mv [.t 0], oo 4 (.eqN false) [.t 3]]) (.cond (.t 4) c_slices_Clone_int_int_b_p1 .skip)) c_slices_Clone_int_int_b_p2)
def c_slices_Clone_int_int_b : VC := (.seq (.ops 0 [oo 2 .mv [(.c (.sl 0 [] .exact))]]) c_slices_Clone_int_int_b_p3)
theorem k_slices_Clone_int_int_b : Comp Try.prog (fun n => [7,1000007].contains n) gtab 106 8 c_slices_Clone_int_int_b [.t 2] := ⟨⟨Try.f106, _, Try.func106, rfl, rfl, kr, kr⟩⟩
abbrev c_theorboref06_Grips_p1 : VC := (.seq (.ops 0 [oo 12 .mv [.t 6], oo 4 .mv [(.c (.sl 0 [] .exact))], oo 5 .mv [.t 12]]) .ret)
abbrev c_theorboref06_Grips_p2 : VC := (.seq (.ops 0 [oo 10 .mv [.t 6], oo 11 (.bin .neq) [.t 10, kk 0]]) (.cond (.t 11) c_theorboref06_Grips_p1 .skip))
abbrev c_theorboref06_Grips_p3 : VC := (.seq (.ops 0 [oo 4 .mv [(.c (.sl 0 [] .exact))], oo 5 .mv [kk 1]]) .ret)
abbrev c_theorboref06_Grips_p4 : VC := (.seq (.ops 0 [oo 4 .mv [(.c (.sl 0 [] .exact))], oo 5 .mv [kk 2]]) .ret)
abbrev c_theorboref06_Grips_p5 : VC := (.seq (.ops 0 [oo 22 .mv [.t 7], oo 4 .mv [.t 22], oo 5 .mv [kk 0]]) .ret)
abbrev c_theorboref06_Grips_p6 : VC := (.seq (.seq (.ops 0 [oo 19 .mv [.t 7], oo 20 .len [.t 19], oo 21 (.bin .gtr) [.t 20, kk 200]]) (.cond (.t 21) c_theorboref06_Grips_p4 .skip)) c_theorboref06_Grips_p5)
abbrev c_theorboref06_Grips_p7 : VC := (.seq (.ops 0 [oo 16 (.ldA 10) [.t 2], oo 17 (.ldA 3) [.t 3], oo 18 (.call 72) [.t 16, .t 17], oo 7 .mv [.t 18]]) c_theorboref06_Grips_p6)
abbrev c_theorboref06_Grips_p8 : VC := (.seq (.seq (.ops 0 [oo 13 (.ldA 3) [.t 3], oo 14 (.call 67) [.t 13], oo 15 (.un .not) [.t 14]]) (.cond (.t 15) c_theorboref06_Grips_p3 .skip)) c_theorboref06_Grips_p7)
abbrev c_theorboref06_Grips_p9 : VC := (.seq (.seq (.ops 0 [oo 8 (.ldA 10) [.t 2], oo 9 (.call 25) [.t 8], oo 6 .mv [.t 9]]) c_theorboref06_Grips_p2) c_theorboref06_Grips_p8)
def c_theorboref06_Grips : VC := (.seq (.ops 4 [oo 2 (.box 25) [.t 0], oo 3 (.box 47) [.t 1], oo 4 .mv [(.c (.sl 0 [] .exact))], oo 5 .mv [kk 0]]) c_theorboref06_Grips_p9)
theorem k_theorboref06_Grips : Comp Try.prog nobx gtab 33 23 c_theorboref06_Grips [.t 4, .t 5] := ⟨⟨Try.f33, _, Try.func33, rfl, rfl, kr, kr⟩⟩
abbrev c_theorboref06_all_p1 : VC := (.ops 0 [oo 11 .mv [.t 6], oo 12 (.bin .add) [.t 11, kk 1], oo 6 .mv [.t 12]])
abbrev c_theorboref06_all_p2 : VC := (.seq (.block 1 (.ops 0 [oo 13 (.ldA 10) [.t 2], oo 14 (.ldA 3) [.t 3], oo 15 .mv [.t 6], oo 16 .mv [.t 5], oo 17 (.call 109) [.t 13, .t 14, .t 15, (.c (.sl 0 [] .exact)), .t 16], oo 5 .mv [.t 17]])) c_theorboref06_all_p1)
abbrev c_theorboref06_all_p3 : VC := (.seq (.seq (.ops 0 [oo 7 .mv [.t 6], oo 8 (.fldA 3) [.t 2], oo 9 .ld1 [.t 8], oo 10 (.bin .leq) [.t 7, .t 9]]) (.cond (.t 10) .skip (.exit 0))) c_theorboref06_all_p2)
@[go_sem] abbrev w_theorboref06_all_p3 : Nat := 262112
abbrev c_theorboref06_all_p5 : VC := (.seq (.ops 0 [oo 18 .mv [.t 5], oo 4 .mv [.t 18]]) .ret)
abbrev c_theorboref06_all_p6 : VC := (.seq (.seq (.ops 0 [oo 6 .mv [kk 1]]) (.block 0 (.loop c_theorboref06_all_p3))) c_theorboref06_all_p5)
abbrev c_theorboref06_all_p7 : VC := (.seq (.ops 0 [oo 5 .mv [(.c (.sl 0 [] .exact))]]) c_theorboref06_all_p6)
def c_theorboref06_all : VC := (.seq (.ops 3 [oo 2 (.box 25) [.t 0], oo 3 (.box 47) [.t 1], oo 4 .mv [(.c (.sl 0 [] .exact))]]) c_theorboref06_all_p7)
theorem k_theorboref06_all : Comp Try.prog nobx gtab 72 19 c_theorboref06_all [.t 4] := ⟨⟨Try.f72, _, Try.func72, rfl, rfl, kr, kr⟩⟩
abbrev c_theorboref06_extend_p1 : VC := (.seq (.ops 8 [oo 22 .mv [.t 4], oo 23 .mv [.t 2], oo 24 .mv [.t 3], oo 25 (.app 3 1 8) [(.c (.sl 0 [] .exact)), .t 24], ⟨(some 26), none, (.build [li 0, (.sl 0 [] .exact)] [(0, 1), (1, 1)]), [.t 23, .t 25], none⟩, ⟨(some 27), none, (.mksl 1 2 [li 0, (.sl 0 [] .exact)] [(0, 2)]), [.t 26], none⟩, oo 28 (.app 53 2 32) [.t 22, .t 27], oo 10 .mv [.t 28]]) .ret)
abbrev c_theorboref06_extend_p2 : VC := (.ops 0 [oo 49 .mv [.t 14], oo 50 (.bin .add) [.t 49, kk 1], oo 14 .mv [.t 50]])
abbrev c_theorboref06_extend_p3 : VC := (.seq (.block 3 (.ops 0 [oo 51 .mv [.t 13], oo 52 .mv [.t 51], ⟨(some 53), (some (52, true)), (.ldA 10), [.t 5], (some [0, 1])⟩, ⟨(some 54), (some (52, true)), (.ldA 3), [.t 6], (some [0, 1])⟩, og 55 52 true .mv [.t 14], og 56 52 true .mv [.t 11], og 57 52 true .mv [.t 3], og 58 52 true .mv [.t 14], og 59 52 true (.ixA 1) [.t 57, .t 58], ⟨(some 60), (some (52, true)), .ld1, [.t 59], (some [0, 1, 6, 7, 8])⟩, og 61 52 true .mv [.t 12], og 62 52 true (.call 116) [.t 53, .t 54, .t 55, .t 56, .t 60, .t 61], oo 63 .pick [.t 52, .t 62, (.c (.lit (.bool false)))], oo 13 .mv [.t 63]])) c_theorboref06_extend_p2)
abbrev c_theorboref06_extend_p4 : VC := (.seq (.seq (.ops 0 [oo 46 .mv [.t 14], oo 47 .mv [.t 11], oo 48 (.bin .lss) [.t 46, .t 47]]) (.cond (.t 48) .skip (.exit 2))) c_theorboref06_extend_p3)
@[go_sem] abbrev w_theorboref06_extend_p4 : Nat := 18446673704965398528
abbrev c_theorboref06_extend_p6 : VC := (.ops 11 [od 70 (.ldA 10) [.t 5] [], od 71 (.ldA 3) [.t 6] [], oo 72 .mv [.t 2], oo 73 .mv [.t 3], od 74 (.app 3 1 8) [(.c (.sl 0 [] .exact)), .t 73] [3], oo 75 .mv [.t 12], oo 76 (.mksl 1 1 [li 0] [(0, 1)]) [.t 75], od 77 (.app 3 1 8) [.t 74, .t 76] [3, 4, 5, 6], oo 78 .mv [.t 4], oo 79 (.call 109) [.t 70, .t 71, .t 72, .t 77, .t 78], oo 4 .mv [.t 79]])
abbrev c_theorboref06_extend_p7 : VC := (.seq (.ops 0 [oo 64 .mv [.t 13], oo 65 .mv [.t 64], og 66 65 true .mv [.t 4], og 67 65 true .len [.t 66], og 68 65 true (.bin .leq) [.t 67, kk 200], oo 69 .pick [.t 65, .t 68, (.c (.lit (.bool false)))]]) (.cond (.t 69) c_theorboref06_extend_p6 .skip))
abbrev c_theorboref06_extend_p8 : VC := (.seq (.seq (.ops 0 [oo 14 .mv [kk 0]]) (.block 2 (.loop c_theorboref06_extend_p4))) c_theorboref06_extend_p7)
abbrev c_theorboref06_extend_p9 : VC := (.ops 0 [oo 34 .mv [.t 12], oo 35 (.bin .add) [.t 34, kk 1], oo 12 .mv [.t 35]])
abbrev c_theorboref06_extend_p10 : VC := (.seq (.block 1 (.seq (.ops 0 [od 36 (.ldA 10) [.t 5] [], oo 37 .mv [.t 2], oo 38 .mv [.t 12], oo 39 (.fldA 0) [.t 6], od 40 .ld1 [.t 39] [3], oo 41 .mv [.t 11], oo 42 (.ixA 2) [.t 40, .t 41], oo 43 (.fldA 1) [.t 42], od 44 .ld1 [.t 43] [3, 4, 5, 6, 7], oo 45 (.call 115) [.t 36, .t 37, .t 38, .t 44], oo 13 .mv [.t 45]]) c_theorboref06_extend_p8)) c_theorboref06_extend_p9)
abbrev c_theorboref06_extend_p11 : VC := (.seq (.seq (.ops 0 [oo 29 .mv [.t 12], oo 30 (.fldA 0) [.t 5], oo 31 .ld1 [.t 30], oo 32 .len [.t 31], oo 33 (.bin .leq) [.t 29, .t 32]]) (.cond (.t 33) .skip (.exit 0))) c_theorboref06_extend_p10)
@[go_sem] abbrev w_theorboref06_extend_p11 : Nat := 1208925819614628637863952
abbrev c_theorboref06_extend_p13 : VC := (.seq (.ops 0 [oo 80 .mv [.t 4], oo 10 .mv [.t 80]]) .ret)
abbrev c_theorboref06_extend_p14 : VC := (.seq (.seq (.ops 0 [oo 12 .mv [kk 1]]) (.block 0 (.loop c_theorboref06_extend_p11))) c_theorboref06_extend_p13)
abbrev c_theorboref06_extend_p15 : VC := (.seq (.seq (.ops 0 [oo 17 .mv [.t 11], oo 18 (.fldA 0) [.t 6], oo 19 .ld1 [.t 18], oo 20 .len [.t 19], oo 21 (.bin .eql) [.t 17, .t 20]]) (.cond (.t 21) c_theorboref06_extend_p1 .skip)) c_theorboref06_extend_p14)
abbrev c_theorboref06_extend_p16 : VC := (.seq (.ops 0 [oo 15 .mv [.t 3], oo 16 .len [.t 15], oo 11 .mv [.t 16]]) c_theorboref06_extend_p15)
def c_theorboref06_extend : VC := (.seq (.ops 3 [oo 5 (.box 25) [.t 0], oo 6 (.box 47) [.t 1], oo 10 .mv [(.c (.sl 0 [] .exact))]]) c_theorboref06_extend_p16)
theorem k_theorboref06_extend : Comp Try.prog nobx gtab 109 81 c_theorboref06_extend [.t 10] := ⟨⟨Try.f109, _, Try.func109, rfl, rfl, kr, kr⟩⟩
end Go.Proofs.Ytojjdkoglhecbaa
namespace Go.Proofs.Ytojjdkoglhecbaa
open Go.RowKit

/-- The grips at a position that begin with these fingers, k more to come, and fit; in order. -/
noncomputable def fitT (h : Hand) (c : Chord) (pos : Int) : Nat → List Int → List Grip
  | 0, F => if fitB h c ⟨pos, F⟩ = true then [⟨pos, F⟩] else []
  | k + 1, F => (List.range h.low.length).flatMap fun f => fitT h c pos k (F ++ [((f + 1 : Nat) : Int)])
/-- Those of the first positions. -/
noncomputable def fitP (h : Hand) (c : Chord) (n : Nat) : List Grip := (List.range n).flatMap fun p => fitT h c ((p + 1 : Nat) : Int) c.down.length []
/-- All grips that fit, in order. -/
noncomputable def grpA (h : Hand) (c : Chord) : List Grip := fitP h c h.top.toNat
/-- With these fingers first. -/
noncomputable def fitS (h : Hand) (c : Chord) (pos : Int) (k : Nat) (F : List Int) (n : Nat) : List Grip := (List.range n).flatMap fun f => fitT h c pos k (F ++ [((f + 1 : Nat) : Int)])
theorem fitS_succ (h : Hand) (c : Chord) (pos : Int) (k : Nat) (F : List Int) (n : Nat) : fitS h c pos k F (n + 1) = fitS h c pos k F n ++ fitT h c pos k (F ++ [((n + 1 : Nat) : Int)]) := by
  rw [fitS, fitS, List.range_succ, List.flatMap_append]; simp
theorem fitT_succ (h : Hand) (c : Chord) (pos : Int) (k : Nat) (F : List Int) : fitT h c pos (k + 1) F = fitS h c pos k F h.low.length := rfl
theorem fitP_succ (h : Hand) (c : Chord) (n : Nat) : fitP h c (n + 1) = fitP h c n ++ fitT h c ((n + 1 : Nat) : Int) c.down.length [] := by
  rw [fitP, fitP, List.range_succ, List.flatMap_append]; simp
theorem fitT_none {h : Hand} {c : Chord} {pos : Int} : ∀ {k : Nat} {F : List Int}, (∀ t, ¬ FitG h c ⟨pos, F ++ t⟩) → fitT h c pos k F = []
  | 0, F, hn => by
    have : ¬ fitB h c ⟨pos, F⟩ = true := fun hb => hn [] (by rw [List.append_nil]; exact fit_true.1 hb)
    rw [fitT, if_neg this]
  | k + 1, F, hn => by
    rw [fitT, List.flatMap_eq_nil_iff]
    exact fun f _ => fitT_none fun t => by rw [List.append_assoc]; exact hn _
/-- Every grip that is listed begins so, and fits. -/
theorem fitT_mem {h : Hand} {c : Chord} {pos : Int} {g : Grip} : ∀ {k : Nat} {F : List Int}, g ∈ fitT h c pos k F ↔ ∃ t, t.length = k ∧ (∀ f : Int, f ∈ t → 1 ≤ f ∧ f ≤ (h.low.length : Int)) ∧ g = ⟨pos, F ++ t⟩ ∧ FitG h c g
  | 0, F => by
    rw [fitT]
    constructor
    · intro hg
      split at hg
      · rename_i hb
        rw [List.mem_singleton] at hg
        subst hg
        exact ⟨[], rfl, (fun _ hf => by cases hf), by rw [List.append_nil], fit_true.1 hb⟩
      · cases hg
    · rintro ⟨t, ht, _, rfl, hf⟩
      have : t = [] := List.eq_nil_of_length_eq_zero ht
      subst this
      rw [List.append_nil] at hf ⊢
      rw [if_pos (fit_true.2 hf)]
      exact List.mem_singleton.2 rfl
  | k + 1, F => by
    rw [fitT, List.mem_flatMap]
    constructor
    · rintro ⟨f, hf, hg⟩
      obtain ⟨t, h1, h2, h3, h4⟩ := fitT_mem.1 hg
      have hf := List.mem_range.1 hf
      refine ⟨((f + 1 : Nat) : Int) :: t, by simp [h1], fun x hx => ?_, by rw [h3, List.append_assoc]; rfl, h4⟩
      rcases List.mem_cons.1 hx with rfl | hx
      · omega
      · exact h2 x hx
    · rintro ⟨t, h1, h2, h3, h4⟩
      cases t with
      | nil => simp at h1
      | cons x t =>
        have hx := h2 x (List.mem_cons_self ..)
        refine ⟨(x - 1).toNat, List.mem_range.2 (by omega), fitT_mem.2 ⟨t, by simpa using h1, fun y hy => h2 y (List.mem_cons_of_mem _ hy), ?_, h4⟩⟩
        rw [h3, List.append_assoc, show (((x - 1).toNat + 1 : Nat) : Int) = x by omega]
        rfl
/-- A grip is listed if it fits, and only then. -/
theorem grpA_mem {h : Hand} {c : Chord} {g : Grip} : g ∈ grpA h c ↔ FitG h c g := by
  rw [grpA, fitP, List.mem_flatMap]
  constructor
  · rintro ⟨p, _, hg⟩
    obtain ⟨_, _, _, _, h4⟩ := fitT_mem.1 hg
    exact h4
  · intro hf
    have hp := hf.pos
    refine ⟨(g.pos - 1).toNat, List.mem_range.2 (by omega), fitT_mem.2 ⟨g.fingers, hf.len, fun f hfm => ?_, ?_, hf⟩⟩
    · obtain ⟨i, hi, rfl⟩ := List.getElem_of_mem hfm
      have := hf.fin i (by rw [← hf.len]; exact hi)
      rw [List.getD_eq_getElem?_getD, List.getElem?_eq_getElem hi] at this
      exact this
    · rw [show (((g.pos - 1).toNat + 1 : Nat) : Int) = g.pos by omega]; rfl

/-- The first fingers are as the program wants them. -/
def PreF (h : Hand) (c : Chord) (pos : Int) (F : List Int) : Prop := ∀ i, i < F.length → (1 ≤ F.getD i 0 ∧ F.getD i 0 ≤ h.low.length) ∧ rchB h pos (F.getD i 0 - 1).toNat (c.down.getD i (0, 0)).2 = true ∧
  ∀ k, k < i → agrB (c.down.getD k (0, 0)) (c.down.getD i (0, 0)) (F.getD k 0) (F.getD i 0) = true
theorem getD_app_l {F t : List Int} {i : Nat} (hi : i < F.length) : (F ++ t).getD i 0 = F.getD i 0 := by
  rw [List.getD_eq_getElem?_getD, List.getElem?_append_left hi, List.getD_eq_getElem?_getD]
theorem getD_app_last (F : List Int) (x : Int) : (F ++ [x]).getD F.length 0 = x := by
  rw [List.getD_eq_getElem?_getD, List.getElem?_append_right (Nat.le_refl _), Nat.sub_self]; rfl
theorem getD_app_mid (F : List Int) (x : Int) (t : List Int) : (F ++ [x] ++ t).getD F.length 0 = x := by rw [getD_app_l (by simp), getD_app_last]
theorem getD_app_far {F : List Int} {x : Int} {t : List Int} {j : Nat} (hj : j < F.length) : (F ++ [x] ++ t).getD j 0 = F.getD j 0 := by rw [List.append_assoc, getD_app_l hj]
theorem PreF.snoc {h : Hand} {c : Chord} {pos : Int} {F : List Int} {f : Nat} (hF : PreF h c pos F) (hf : f < h.low.length) (hr : rchB h pos f (c.down.getD F.length (0, 0)).2 = true)
    (ha : ∀ k, k < F.length → agrB (c.down.getD k (0, 0)) (c.down.getD F.length (0, 0)) (F.getD k 0) ((f + 1 : Nat) : Int) = true) : PreF h c pos (F ++ [((f + 1 : Nat) : Int)]) := by
  intro i hi
  rw [List.length_append] at hi
  by_cases h1 : i < F.length
  · rw [getD_app_l h1]
    obtain ⟨h2, h3, h4⟩ := hF i h1
    exact ⟨h2, h3, fun k hk => by rw [getD_app_l (by omega)]; exact h4 k hk⟩
  · have : i = F.length := by have : [((f + 1 : Nat) : Int)].length = 1 := rfl
                              omega
    subst this
    rw [getD_app_last]
    exact ⟨by omega, by rw [show (((f + 1 : Nat) : Int) - 1).toNat = f by omega]; exact hr, fun k hk => by rw [getD_app_l hk]; exact ha k hk⟩
theorem fitT_reach {h : Hand} {c : Chord} {pos : Int} {F : List Int} {k f : Nat} (hl : F.length < c.down.length) (hr : rchB h pos f (c.down.getD F.length (0, 0)).2 = false) : fitT h c pos k (F ++ [((f + 1 : Nat) : Int)]) = [] :=
  fitT_none fun t hg => by
    have := hg.rch F.length hl
    rw [show (⟨pos, F ++ [((f + 1 : Nat) : Int)] ++ t⟩ : Grip).fingers = F ++ [((f + 1 : Nat) : Int)] ++ t from rfl, getD_app_mid, show (((f + 1 : Nat) : Int) - 1).toNat = f by omega] at this
    rw [show (⟨pos, F ++ [((f + 1 : Nat) : Int)] ++ t⟩ : Grip).pos = pos from rfl, hr] at this
    cases this
theorem fitT_agree {h : Hand} {c : Chord} {pos : Int} {F : List Int} {k f j : Nat} (hl : F.length < c.down.length) (hj : j < F.length) (ha : agrB (c.down.getD j (0, 0)) (c.down.getD F.length (0, 0)) (F.getD j 0) ((f + 1 : Nat) : Int) = false) : fitT h c pos k (F ++ [((f + 1 : Nat) : Int)]) = [] :=
  fitT_none fun t hg => by
    have := hg.agr F.length hl j hj
    rw [show (⟨pos, F ++ [((f + 1 : Nat) : Int)] ++ t⟩ : Grip).fingers = F ++ [((f + 1 : Nat) : Int)] ++ t from rfl, getD_app_mid, getD_app_far hj, ha] at this
    cases this
theorem PreF.leaf {h : Hand} {c : Chord} {pos : Int} {F : List Int} (hF : PreF h c pos F) (hp : 1 ≤ pos ∧ pos ≤ h.top) (hl : F.length = c.down.length) : fitB h c ⟨pos, F⟩ = spnB h c F := by
  cases hs : spnB h c F
  · cases hb : fitB h c ⟨pos, F⟩
    · rfl
    · rw [spn_true.2 (fit_true.1 hb).spn] at hs; cases hs
  · exact fit_true.2 ⟨hp, hl, fun i hi => (hF i (by omega)).1, fun i hi => (hF i (by omega)).2.1, fun i hi k hk => (hF i (by omega)).2.2 k hk, spn_true.1 hs⟩
/-- The first fingers are as the reference wants them. -/
def PreR (h : Hand) (c : Chord) (pos : Int) (F : List Int) : Prop := ∀ i, i < F.length → rrchB h pos (F.getD i 0) (c.down.getD i (0, 0)).2 = true ∧ ∀ k, k < i → AptP h c k i (F.getD k 0) (F.getD i 0)
theorem PreR.snoc {h : Hand} {c : Chord} {pos : Int} {F : List Int} {f : Int} (hF : PreR h c pos F) (hr : rrchB h pos f (c.down.getD F.length (0, 0)).2 = true)
    (ha : ∀ k, k < F.length → AptP h c k F.length (F.getD k 0) f) : PreR h c pos (F ++ [f]) := by
  intro i hi
  rw [List.length_append] at hi
  by_cases h1 : i < F.length
  · rw [getD_app_l h1]
    obtain ⟨h3, h4⟩ := hF i h1
    exact ⟨h3, fun k hk => by rw [getD_app_l (by omega)]; exact h4 k hk⟩
  · have : i = F.length := by have : [f].length = 1 := rfl
                              omega
    subst this
    rw [getD_app_last]
    exact ⟨hr, fun k hk => by rw [getD_app_l hk]; exact ha k hk⟩
theorem fitT_bad {h : Hand} (hk : HandOk h) {c : Chord} (hc : ChordOk c) {pos : Int} {F : List Int} {k : Nat} {f : Int} (hl : F.length < c.down.length)
    (hr : ¬ (rrchB h pos f (c.down.getD F.length (0, 0)).2 = true ∧ ∀ k, k < F.length → AptP h c k F.length (F.getD k 0) f)) : fitT h c pos k (F ++ [f]) = [] :=
  fitT_none fun t hg => by
    have hg := (rfit_iff hk hc).2 hg
    have h1 := hg.rch F.length hl
    rw [show (⟨pos, F ++ [f] ++ t⟩ : Grip).fingers = F ++ [f] ++ t from rfl, getD_app_mid] at h1
    refine hr ⟨h1, fun j hj => ?_⟩
    have := hg.apt F.length hl j hj
    rw [show (⟨pos, F ++ [f] ++ t⟩ : Grip).fingers = F ++ [f] ++ t from rfl, getD_app_mid, getD_app_far hj] at this
    exact this
theorem PreR.leaf {h : Hand} (hk : HandOk h) {c : Chord} (hc : ChordOk c) {pos : Int} {F : List Int} (hF : PreR h c pos F) (hp : 1 ≤ pos ∧ pos ≤ h.top) (hl : F.length = c.down.length) : fitB h c ⟨pos, F⟩ = true :=
  fit_true.2 ((rfit_iff hk hc).1 ⟨hp, hl, fun i hi => (hF i (by omega)).1, fun i hi k hk => (hF i (by omega)).2 k hk⟩)

/-! ### No more than one above the limit -/
theorem tk_more {α : Type} {A B : List α} (h : (A.take 201).length ≤ 200) : (A.take 201 ++ B).take 201 = (A ++ B).take 201 := by
  rw [List.length_take] at h
  rw [List.take_of_length_le (l := A) (by omega)]
theorem tk_full {α : Type} {A B : List α} (h : ¬ (A.take 201).length ≤ 200) : A.take 201 = (A ++ B).take 201 := by
  rw [List.length_take] at h
  rw [List.take_append_of_le_length (by omega)]
theorem tk_len {α : Type} (A : List α) : (A.take 201).length ≤ 201 := by rw [List.length_take]; omega
theorem fitS_le (h : Hand) (c : Chord) (pos : Int) (k : Nat) (F : List Int) {n m : Nat} (hnm : n ≤ m) : ∃ B, fitS h c pos k F m = fitS h c pos k F n ++ B := by
  induction m with
  | zero => have : n = 0 := by omega
            subst this; exact ⟨[], by simp⟩
  | succ m ih =>
    by_cases e : n = m + 1
    · subst e; exact ⟨[], by simp⟩
    · obtain ⟨B, hB⟩ := ih (by omega)
      exact ⟨B ++ fitT h c pos k (F ++ [((m + 1 : Nat) : Int)]), by rw [fitS_succ, hB, List.append_assoc]⟩
theorem fitT0_len (h : Hand) (c : Chord) (pos : Int) (F : List Int) : (fitT h c pos 0 F).length ≤ 1 := by rw [fitT]; split <;> simp
theorem fitP0_len {h : Hand} {c : Chord} (hl : c.down.length = 0) (n : Nat) : (fitP h c n).length ≤ n := by
  induction n with
  | zero => simp [fitP]
  | succ n ih => rw [fitP_succ, List.length_append, hl]; have := fitT0_len h c ((n + 1 : Nat) : Int) []; omega
end Go.Proofs.Ytojjdkoglhecbaa
namespace Go.Proofs.Ytojjdkoglhecbaa
open Go.RowKit
set_option linter.unusedSimpArgs false
set_option linter.unusedVariables false

/-- The numbers that are tried, with what stands behind them. -/
def FgR (m : Mm) (v : V) (F : List Int) (r : List V) : Prop :=
  (v = .sl 0 [] .exact ∧ F = [] ∧ r = []) ∨ ∃ q, v = .gsl q F.length 1 ∧ 5 ≤ q ∧ q < m.next ∧ m.obj q = some (.box (F.map vint ++ r) 3)
/-- Memory while grips are listed. -/
structure PlSt (h : Hand) (c : Chord) (m : Mm) (L : List Grip) (v : V) : Prop where
  o0 : m.obj 0 = some (.box [tIs h.low, tIs h.high, tBs h.barre, vint h.top, vint h.jump, vint h.shift, vint h.lift, vint h.bar, vint h.stretch, vint h.slide] 25)
  o1 : m.obj 1 = some (.box [tPs c.down, tIs c.held, tIs c.opn] 47)
  o2 : ∃ tok, m.obj 2 = some (.box [.sl L.length (L.flatMap Grip.cells) tok] 38) ∧ Apb m tok L.length 53 2
  o3 : m.obj 3 = some (.box [v] 22)
  o4 : m.obj 4 = some (.box [.fn 104 [.ptr 3 0, .ptr 1 0, .ptr 0 0, .ptr 2 0, .ptr 4 0]] 144)
  nx : 5 ≤ m.next
theorem fg_len {m : Mm} {v : V} {F : List Int} {r : List V} (h : FgR m v F r) : pureSem .len [v] = some (vint F.length) := by
  rcases h with ⟨rfl, rfl, _⟩ | ⟨q, rfl, _⟩ <;> rfl
/-- Some memory is like that. -/
theorem PlSt.other {h : Hand} {c : Chord} {m : Mm} {L : List Grip} {v : V} (hs : PlSt h c m L v) (L' : List Grip) {F : List Int} {r : List V} (hf : FgR m v F r) :
    ∃ m', PlSt h c m' L' v ∧ FgR m' v F r ∧ m.next ≤ m'.next := by
  refine ⟨m.put 2 (.box [.sl L'.length (L'.flatMap Grip.cells) .exact] 38), ⟨hs.o0, hs.o1, ⟨.exact, rfl, .inl rfl⟩, hs.o3, hs.o4, hs.nx⟩, ?_, Nat.le_refl _⟩
  rcases hf with h1 | ⟨q, h1, h2, h3, h4⟩
  · exact .inl h1
  · exact .inr ⟨q, h1, h2, h3, by rw [put_obj, if_neg (by omega)]; exact h4⟩
/-- A copy of numbers. -/
theorem clone_fn (l : List Int) (hl : l.length ≤ 1099511627776) : Fn Try.prog Gd 106 [tIs l] (tIs l) := by
  refine Fn.of_vx0 k_slices_Clone_int_int (by simp) (by rw [V.pures, pure_tIs]; rfl) ?_
  unfold c_slices_Clone_int_int tIs
  repeat' (with_reducible first | refine x_ops ?_ | refine wk ?_ | ((first | refine gd1 ?_ ?_ | refine gd2 ?_ ?_ | refine gd3 ?_ ?_) <;> (first | exact @False.elim _ | intro hc)))
  refine x_eqN (by exact vw) ?_
  intro b hb
  cases b
  · repeat' (with_reducible first | refine x_ops ?_ | refine wk ?_ | ((first | refine gd1 ?_ ?_ | refine gd2 ?_ ?_ | refine gd3 ?_ ?_) <;> (first | exact @False.elim _ | intro hc)))
    refine x_appE (xs := []) (n := 0) vw vw rfl (by simp) (by omega) (by unfold Go.maxLen; omega) ?_
    repeat' (with_reducible first | refine x_ops ?_ | refine wk ?_ | ((first | refine gd1 ?_ ?_ | refine gd2 ?_ ?_ | refine gd3 ?_ ?_) <;> (first | exact @False.elim _ | intro hc)))
    exact finV_ret vv (.sl _ _ _)
  · have hl0 : l = [] := by cases l with
      | nil => rfl
      | cons a l => exact absurd (hb (by simp)) (by simp)
    subst hl0
    repeat' (with_reducible first | refine x_ops ?_ | refine wk ?_ | ((first | refine gd1 ?_ ?_ | refine gd2 ?_ ?_ | refine gd3 ?_ ?_) <;> (first | exact @False.elim _ | intro hc)))
    exact finV_ret vv (.sl _ _ _)
theorem vint_one (l : List Int) : (l.map vint).all V.one = true := by rw [List.all_eq_true]; intro v hv; obtain ⟨n, _, rfl⟩ := List.mem_map.1 hv; rfl
theorem vint_dry (l : List Int) : V.drys (l.map vint) = true := by
  induction l with
  | nil => rfl
  | cons a l ih => rw [List.map_cons, V.drys, ih]; rfl
theorem vint_clean (l : List Int) : V.clean (l.map vint) = true := by
  rw [clean_iff]
  refine ⟨?_, fun v hv => by obtain ⟨n, _, rfl⟩ := List.mem_map.1 hv; rfl⟩
  rw [pures_iff]
  intro v hv
  obtain ⟨n, _, rfl⟩ := List.mem_map.1 hv
  rfl
theorem clone_m {l : List Int} (hl : l.length ≤ 1099511627776) (h0 : l ≠ []) {m : Mm} {q : Nat} (ho : m.obj q = some (.box (l.map vint) 3)) :
    SFn Try.prog Gd 106 [.gsl q l.length 1] m fun r m' => r = tIs l ∧ m' = m := by
  have hlen : 0 < l.length := List.length_pos_iff.2 h0
  have h1 : SFn Try.prog Gd 106 [tIs l] M0 fun r' m' => ∃ i, r' = .gsl i l.length 1 ∧ m'.obj i = some (.box (l.map vint) 3) := by
    refine SFn.of_vxS k_slices_Clone_int_int_b (by simp) ?_
    unfold c_slices_Clone_int_int_b tIs
    repeat' (with_reducible first | refine x_ops ?_ | refine wk ?_ | ((first | refine gd1 ?_ ?_ | refine gd2 ?_ ?_ | refine gd3 ?_ ?_) <;> (first | exact @False.elim _ | intro hc)))
    refine x_eqN (by exact vw) ?_
    intro b hb
    have : b = false := hb (fun e => h0 (by simpa using e))
    subst this
    repeat' (with_reducible first | refine x_ops ?_ | refine wk ?_ | ((first | refine gd1 ?_ ?_ | refine gd2 ?_ ?_ | refine gd3 ?_ ?_) <;> (first | exact @False.elim _ | intro hc)))
    refine x_appM0 (xs := []) (n := 0) (j := l.length) (ys := l.map vint) vw (by ((refine ve ?_; try exact True.intro)); rw [rdS, if_pos (by simp)]) (by simp) (by omega) (by unfold Go.maxLen; omega) ?_
    rw [if_neg (by omega)]
    repeat' (with_reducible first | refine x_ops ?_ | refine wk ?_ | ((first | refine gd1 ?_ ?_ | refine gd2 ?_ ?_ | refine gd3 ?_ ?_) <;> (first | exact @False.elim _ | intro hc)))
    exact finS_ret vv ⟨_, rfl, vv⟩
  refine SFn.mono (SFn.dropM (Q := fun r => r = tIs l) (SFn.mono (Fn.lendB h1 (by omega) (vint_dry l) (vint_one l) (fun i => i == q) (.cons (.gsl (by simp) ho (Vws.of_dry (vint_dry l)) (vint_one l)) .nil)) ?_)) fun r m' h => h
  rintro r m' ⟨h2, ⟨h3, _⟩ | ⟨_, _, i, hi, rfl, hoi⟩⟩
  · omega
  · refine ⟨tIs l, ?_, rfl, h2⟩
    rw [V.pubM, hoi]
    simp only [hi, vint_clean, and_self, if_true, List.drop_zero]
    rfl
theorem clone_m0 {m : Mm} {q : Nat} (ho : m.obj q = some (.box [] 3)) :
    SFn Try.prog Gd 106 [.gsl q 0 1] m fun r m' => r = tIs [] ∧ m' = m := by
  have h1 : SFn Try.prog Gd 106 [tIs []] M0 fun r' m' => r' = .sl 0 [] .exact := by
    refine SFn.of_vxS k_slices_Clone_int_int_b (by simp) ?_
    unfold c_slices_Clone_int_int_b tIs
    repeat' (with_reducible first | refine x_ops ?_ | refine wk ?_ | ((first | refine gd1 ?_ ?_ | refine gd2 ?_ ?_ | refine gd3 ?_ ?_) <;> (first | exact @False.elim _ | intro hc)))
    refine x_eqN (by exact vw) ?_
    intro b hb
    cases b
    · repeat' (with_reducible first | refine x_ops ?_ | refine wk ?_ | ((first | refine gd1 ?_ ?_ | refine gd2 ?_ ?_ | refine gd3 ?_ ?_) <;> (first | exact @False.elim _ | intro hc)))
      refine x_appM0 (xs := []) (n := 0) (j := 0) (ys := []) vw (by ((refine ve ?_; try exact True.intro)); rfl) (by simp) (by omega) (by unfold Go.maxLen; omega) ?_
      rw [if_pos rfl]
      repeat' (with_reducible first | refine x_ops ?_ | refine wk ?_ | ((first | refine gd1 ?_ ?_ | refine gd2 ?_ ?_ | refine gd3 ?_ ?_) <;> (first | exact @False.elim _ | intro hc)))
      exact finS_ret vv rfl
    · repeat' (with_reducible first | refine x_ops ?_ | refine wk ?_ | ((first | refine gd1 ?_ ?_ | refine gd2 ?_ ?_ | refine gd3 ?_ ?_) <;> (first | exact @False.elim _ | intro hc)))
      exact finS_ret vv rfl
  refine SFn.mono (SFn.dropM (Q := fun r => r = tIs []) (SFn.mono (Fn.lendB0 (e := 3) h1 (fun i => i == q) (.cons (.gsl (by simp) ho .nil rfl) .nil)) ?_)) ?_
  · rintro r m' ⟨h2, ⟨_, rfl⟩ | ⟨h3, _⟩⟩
    · exact ⟨_, rfl, rfl, h2⟩
    · exact absurd rfl h3
  · exact fun r m' h => h
section
variable {P : Program} {G : Ground}
/-- A call that only computes, in any order, whatever memory it may see. -/
theorem x_callM {base i : Nat} {d : Option Nat} {f : FuncId} {xs : List Opd} {l : List VI} {s : St} {K : St → Prop} {r : V} {md : Option (List Nat)} (vs : List V) (hv : xs.map s.ev = vs) (hf : ∀ m', (∀ j, j < base → m'.obj j = s.m.obj j) → SFn P G f vs m' fun r' m'' => r' = r ∧ m'' = m')
    (h : goR P G base (some ⟨putT s.t d r, s.m⟩) l (i + 1) K) : vrun P G base i (⟨d, none, .call f, xs, md⟩ :: l) s K := by
  subst hv
  rw [vrun]
  unfold vstep VI.on
  simp only [if_true, sem, callSem]
  have hk := goR_vrun l (i + 1) _ h
  cases md with
  | none => exact ⟨_, _, .inl rfl, hf s.m (fun _ _ => rfl), ⟨r, s.m, rfl, rfl⟩, by rintro r' m' ⟨rfl, rfl⟩; exact hk⟩
  | some anc => exact ⟨_, r, .inl rfl, fun m' ha _ => hf m' (fun j hj => ha j (.inl hj)), hk⟩
/-- One number more is tried. -/
theorem x_appF {base i : Nat} {d : Option Nat} {x y : Opd} {l : List VI} {s : St} {K : St → Prop} {v : V} {F : List Int} {r : List V} {a : Int} {k2 : Tok} (hx : s.ev x = v) (hF : FgR s.m v F r) (hy : s.ev y = .sl 1 [vint a] k2) (hl : F.length ≤ 1000) (h5 : 5 ≤ base + i) (hb : base + i < s.m.next)
    (h : ∀ m', FgR m' (.gsl (base + i) (F.length + 1) 1) (F ++ [a]) [] → m'.next = s.m.next → (∀ j, j < 5 → m'.obj j = s.m.obj j) → (∀ j n e z, j ≠ base + i → s.m.obj j = some (.row n e z) → m'.obj j = some (.row n e z)) →
      goR P G base (some ⟨putT s.t d (.gsl (base + i) (F.length + 1) 1), m'⟩) l (i + 1) K) :
    vrun P G base i (⟨d, none, .appM 3 1 8, [x, y], none⟩ :: l) s K := by
  have e1 : (F.map vint ++ [vint a]) = (F ++ [a]).map vint := by simp
  rcases hF with ⟨rfl, rfl, rfl⟩ | ⟨q, rfl, hq5, hqn, ho⟩
  · refine x_appM0 hx (by rw [hy]; rfl) rfl (by omega) (by unfold Go.maxLen; omega) ?_
    rw [if_neg (by omega)]
    refine h _ (.inr ⟨base + i, by simp, h5, hb, by rw [put_obj, if_pos rfl]; rfl⟩) rfl (fun j hj => by rw [put_obj, if_neg (by omega)]) (fun j n e z hj hr => by rw [put_obj, if_neg hj]; exact hr)
  · have hm : 1 = 1 := rfl
    refine x_appM (q := q) (n := F.length) (j := 1) (ys := [vint a]) hx (by rw [hy]; rfl) ho (by simp) ?_ (by omega) (by unfold Go.maxLen; omega) ?_
    · rw [Nat.mul_one, List.take_append_of_le_length (by simp), List.take_of_length_le (by simp)]; exact vint_one F
    · rw [Nat.mul_one, List.take_append_of_le_length (by simp), List.take_of_length_le (by simp), e1]
      refine h _ (.inr ⟨base + i, by simp, h5, hb, by rw [put_obj, if_pos rfl, List.append_nil]⟩) rfl (fun j hj => ?_) (fun j n e z hj hr => ?_)
      · rw [put_obj, if_neg (by omega)]
        show (if j = q then none else s.m.obj j) = _
        rw [if_neg (by omega)]
      · rw [put_obj, if_neg hj]
        show (if j = q then none else s.m.obj j) = _
        rw [if_neg (fun e => by subst e; rw [ho] at hr; cases hr)]
        exact hr
end
end Go.Proofs.Ytojjdkoglhecbaa
namespace Go.Proofs.Ytojjdkoglhecbaa
open Go.RowKit
set_option linter.unusedSimpArgs false
set_option linter.unusedVariables false

theorem vw_hand {m : Mm} {S : Nat → Bool} {h : Hand} : Vw m S (.agg [.sl h.low.length (h.low.map vint) .no, .sl h.high.length (h.high.map vint) .no, .sl h.barre.length (h.barre.map vbool) .no, vint h.top, vint h.jump, vint h.shift, vint h.lift, vint h.bar, vint h.stretch, vint h.slide]) h.val :=
  .agg (.cons (.sl _ _ _) (.cons (.sl _ _ _) (.cons (.sl _ _ _) (.cons (.lit _) (.cons (.lit _) (.cons (.lit _) (.cons (.lit _) (.cons (.lit _) (.cons (.lit _) (.cons (.lit _) .nil))))))))))
theorem vw_chord {m : Mm} {S : Nat → Bool} {c : Chord} : Vw m S (.agg [.sl c.down.length (c.down.flatMap plE) .no, .sl c.held.length (c.held.map vint) .no, .sl c.opn.length (c.opn.map vint) .no]) c.val :=
  .agg (.cons (.sl _ _ _) (.cons (.sl _ _ _) (.cons (.sl _ _ _) .nil)))
/-- How the closure leaves memory. -/
def PlPost (h : Hand) (c : Chord) (n0 : Nat) (F : List Int) (L : List Grip) (r : V) (m : Mm) : Prop := r = .tup [] ∧ n0 ≤ m.next ∧ ∃ v j, PlSt h c m L v ∧ FgR m v F j ∧ (F.length = c.down.length → j = [])
theorem Apb.put {m : Mm} {k : Tok} {n : Nat} {e : TypeId} {size i : Nat} {cs : List V} {t : TypeId} {o : AObj} (h : Apb m k n e size) (hi : m.obj i = some (.box cs t)) : Apb (m.put i o) k n e size := by
  rcases h with h1 | ⟨t, h1, h2, h3⟩
  · exact .inl h1
  · exact .inr ⟨t, h1, h2, by rw [put_obj, if_neg (fun e => by subst e; rw [hi] at h3; cases h3)]; exact h3⟩
theorem PlSt.put3 {h : Hand} {c : Chord} {m : Mm} {L : List Grip} {v : V} (hs : PlSt h c m L v) (w : V) : PlSt h c (m.put 3 (.box [w] 22)) L w := by
  obtain ⟨tok, h1, h2⟩ := hs.o2
  exact ⟨hs.o0, hs.o1, ⟨tok, h1, h2.put hs.o3⟩, rfl, hs.o4, hs.nx⟩
theorem PlSt.frame {h : Hand} {c : Chord} {m m' : Mm} {L : List Grip} {v : V} (hs : PlSt h c m L v) (hn : m.next ≤ m'.next) (h5 : ∀ j, j < 5 → m'.obj j = m.obj j) (hr : ∀ j n e z, j < m.next → m.obj j = some (.row n e z) → m'.obj j = some (.row n e z)) : PlSt h c m' L v := by
  obtain ⟨tok, h1, h2⟩ := hs.o2
  refine ⟨(h5 0 (by omega)).trans hs.o0, (h5 1 (by omega)).trans hs.o1, ⟨tok, (h5 2 (by omega)).trans h1, ?_⟩, (h5 3 (by omega)).trans hs.o3, (h5 4 (by omega)).trans hs.o4, Nat.le_trans hs.nx hn⟩
  rcases h2 with h3 | ⟨t, h3, h4, h5⟩
  · exact .inl h3
  · exact .inr ⟨t, h3, Nat.lt_of_lt_of_le h4 hn, hr t _ _ _ h4 h5⟩
theorem FgR.grow {m : Mm} {v : V} {F : List Int} {r : List V} (h : FgR m v F r) (k : Nat) : FgR ⟨m.obj, m.next + k⟩ v F r := by
  rcases h with h | ⟨q, h1, h2, h3, h4⟩
  · exact .inl h
  · exact .inr ⟨q, h1, h2, Nat.lt_of_lt_of_le h3 (Nat.le_add_right _ _), h4⟩
set_option maxHeartbeats 4000000 in
theorem place_sfn (h : Hand) (hk : HandOk h) (c : Chord) (hf : FitC c) (h14 : c.down.length ≤ 14) (pos : Int) (hp : 1 ≤ pos ∧ pos ≤ h.top) : ∀ (k : Nat) (F : List Int) (L : List Grip) (m : Mm) (v : V) (j : List V), F.length + k = c.down.length → PreF h c pos F →
    L.length ≤ 201 → (k = 0 → L.length ≤ 200 ∧ j = []) → PlSt h c m L v → FgR m v F j →
    SFn Try.prog Gd 104 [vint pos, .ptr 3 0, .ptr 1 0, .ptr 0 0, .ptr 2 0, .ptr 4 0] m (PlPost h c m.next F ((L ++ fitT h c pos k F).take 201))
  | 0, F, L, m, v, j, hl, hF, hL, h0, hs, hv => by
    obtain ⟨hL2, rfl⟩ := h0 rfl
    have htop := hk.top
    have hfit := hF.leaf hp (by omega)
    have SP := spans_fn h hk c hf F (by omega)
    refine SFn.of_vxS k_hand_grips_1_b (by simp) ?_
    have hlen := fg_len hv
    simp only [pureSem, vint] at hlen
    have o0 := hs.o0
    have o1 := hs.o1
    obtain ⟨tok, o2, hap⟩ := hs.o2
    have o3 := hs.o3
    have o4 := hs.o4
    have nxm := hs.nx
    have n0 : 0 < m.next := by omega
    have n1 : 1 < m.next := by omega
    have n2 : 2 < m.next := by omega
    have n3 : 3 < m.next := by omega
    have n4 : 4 < m.next := by omega
    have e1 : ((F.length : Int) == (c.down.length : Int)) = true := by simp; omega
    have hs0 := Hid.mk hs
    have hv0 := Hid.mk hv
    have hl0 := Hid.mk hl
    clear hs hv hl hp htop nxm
    unfold c_hand_grips_1_b
    unfold Hand.val Chord.val Chord.cells at SP
    rw [fitT, hfit]
    have hfl : F.length ≤ 14 := by have := hl0.out; omega
    replace hfl := Hid.mk hfl
    -- the row of numbers as a call sees it
    have SV : ∀ m' : Mm, (∀ q, q < m.next → m'.obj q = m.obj q) → Vw m' allS v (tIs F) := by
      intro m' hm'
      rcases hv0.out with ⟨rfl, rfl, _⟩ | ⟨q, rfl, hq5, hqn, ho⟩
      · exact .sl _ _ _
      · rw [List.append_nil] at ho
        exact .gsl rfl (by rw [hm' q hqn]; exact ho) (Vws.of_dry (vint_dry F)) (vint_one F)
    have CL : ∀ m' : Mm, (∀ q, q < m.next → m'.obj q = m.obj q) → SFn Try.prog Gd 106 [v] m' fun r' m'' => r' = tIs F ∧ m'' = m' := by
      intro m' hm'
      have hfl := hfl.out
      rcases hv0.out with ⟨rfl, rfl, _⟩ | ⟨q, rfl, hq5, hqn, ho⟩
      · have := clone_fn [] (by simp)
        exact fun E w ca hG hm hv => this m' E w ca hG hm hv.norm
      · rw [List.append_nil] at ho
        by_cases hF0 : F = []
        · subst hF0
          exact clone_m0 (by rw [hm' q hqn]; exact ho)
        · exact clone_m (by omega) hF0 (by rw [hm' q hqn]; exact ho)
    repeat' (with_reducible first | refine x_ops ?_ | refine wk ?_ | ((first | refine gd1 ?_ ?_ | refine gd2 ?_ ?_ | refine gd3 ?_ ?_) <;> (first | exact @False.elim _ | intro hc)))
    refine x_lend allS SP rfl ?_ ?_
    · (simp only [go_sem, Nat.reduceAdd, Nat.reduceEqDiff, Nat.reduceLT, Nat.reduceLeDiff, Nat.reduceMul, Nat.reduceSub, Nat.reducePow, Nat.reduceDiv, Nat.reduceMod, Nat.reduceBEq, Int.reduceBEq, Int.reduceLT, reduceIte, V.norms, V.norm, tIs, tBs, tPs, *])
      exact .cons vw_hand (.cons vw_chord (.cons (SV _ fun _ _ => rfl) .nil))
    cases hsp : spnB h c F
    · rw [if_neg (by simp), List.append_nil, List.take_of_length_le (by omega)]
      repeat' (with_reducible first | refine x_ops ?_ | refine wk ?_ | ((first | refine gd1 ?_ ?_ | refine gd2 ?_ ?_ | refine gd3 ?_ ?_) <;> (first | exact @False.elim _ | intro hc)))
      exact finS_ret vv ⟨rfl, Nat.le_refl _, v, [], hs0.out, hv0.out, fun _ => rfl⟩
    · rw [if_pos rfl, List.take_of_length_le (by simp; omega)]
      repeat' (with_reducible first | refine x_ops ?_ | refine wk ?_ | ((first | refine gd1 ?_ ?_ | refine gd2 ?_ ?_ | refine gd3 ?_ ?_) <;> (first | exact @False.elim _ | intro hc)))
      refine x_callM [v] vw (fun m' hm' => CL m' fun q hq => hm' q hq) ?_
      repeat' (with_reducible first | refine x_ops ?_ | refine wk ?_ | ((first | refine gd1 ?_ ?_ | refine gd2 ?_ ?_ | refine gd3 ?_ ?_) <;> (first | exact @False.elim _ | intro hc)))
      refine x_appb (xs := L.flatMap Grip.cells) (ys := Grip.cells ⟨pos, F⟩) vw vw (hap.mono (fun _ _ _ => rfl) (Nat.le_add_right _ _)) (gs_len L) rfl (by omega) (by unfold Go.maxLen; omega) (by show m.next + 6 < m.next + 8; omega) ?_
      intro tok' m' hap' hn' hbox hobj
      replace hn' : m'.next = m.next + 8 := hn'
      have q0 := hbox 0 _ _ o0 (by show ¬ 0 = m.next + 6; omega)
      have q1 := hbox 1 _ _ o1 (by show ¬ 1 = m.next + 6; omega)
      have q2 := hbox 2 _ _ o2 (by show ¬ 2 = m.next + 6; omega)
      have q3 := hbox 3 _ _ o3 (by show ¬ 3 = m.next + 6; omega)
      have q4 := hbox 4 _ _ o4 (by show ¬ 4 = m.next + 6; omega)
      have hv1 : FgR (m'.put 2 (.box [.sl (L.length + 1) (L.flatMap Grip.cells ++ Grip.cells ⟨pos, F⟩) tok'] 38)) v F [] := by
        rcases hv0.out with h1 | ⟨q, h1, h2, h3, h4⟩
        · exact .inl h1
        · exact .inr ⟨q, h1, h2, by rw [put_next]; omega, by rw [put_obj, if_neg (by omega)]; exact hbox q _ _ h4 (by show ¬ q = m.next + 6; omega)⟩
      replace hv1 := Hid.mk hv1
      clear hbox hobj hap o0 o1 o2 o3 o4
      repeat' (with_reducible first | refine x_ops ?_ | refine wk ?_ | ((first | refine gd1 ?_ ?_ | refine gd2 ?_ ?_ | refine gd3 ?_ ?_) <;> (first | exact @False.elim _ | intro hc)))
      refine finS_ret vv ⟨rfl, ?_, v, [], ⟨?_, ?_, ⟨tok', ?_, ?_⟩, ?_, ?_, ?_⟩, hv1.out, fun _ => rfl⟩
      · rw [put_next]; omega
      · ((refine ve ?_; try exact True.intro)); exact q0
      · ((refine ve ?_; try exact True.intro)); exact q1
      · ((refine ve ?_; try exact True.intro)); simp
      · rw [List.length_append]
        rcases hap' with h1 | ⟨t, h1, h2, h3⟩
        · exact .inl h1
        · exact .inr ⟨t, h1, h2, by rw [put_obj, if_neg (fun e => by subst e; rw [q2] at h3; cases h3)]; exact h3⟩
      · ((refine ve ?_; try exact True.intro)); exact q3
      · ((refine ve ?_; try exact True.intro)); exact q4
      · rw [put_next]; omega
  | k + 1, F, L, m, v, j, hl, hF, hL, h0, hs, hv => by
    have IH := place_sfn h hk c hf h14 pos hp k
    have htop := hk.top
    have hn4 := hk.n4
    have nxt0 := hs.nx
    clear h0
    refine SFn.of_vxS k_hand_grips_1_b (by simp) ?_
    have hlen := fg_len hv
    simp only [pureSem, vint] at hlen
    have o0 := hs.o0
    have o1 := hs.o1
    obtain ⟨tok, o2, hap⟩ := hs.o2
    have o3 := hs.o3
    have o4 := hs.o4
    have n3 : 3 < m.next := by omega
    have e1 : ((F.length : Int) == (c.down.length : Int)) = false := by simp; omega
    have hlt : F.length < c.down.length := by omega
    have cF : (F.length : Int) < (c.down.length : Int) := by omega
    have gF := pls_at1 hlt
    have gL := pls_len c.down
    have gT := pls_take hlt
    have gT2 : F.length * 2 + 2 ≤ c.down.length * 2 := by omega
    have RF := fun f hf => reach_fn h hk pos f (c.down.getD F.length (0, 0)).2 (by omega) hf
    have cb2 : Hid (∀ {A B : Prop}, A → B → A) := ⟨fun a _ => a⟩
    have hs0 := Hid.mk hs
    have hv0 := Hid.mk hv
    have hl0 := Hid.mk hl
    have hlt0 := Hid.mk hlt
    have hfl : Hid (F.length ≤ 14) := ⟨by omega⟩
    clear hs hl hlt nxt0 hap o2
    rw [fitT_succ]
    unfold c_hand_grips_1_b
    unfold Hand.val at RF
    repeat' (with_reducible first | refine x_ops ?_ | refine wk ?_ | ((first | refine gd1 ?_ ?_ | refine gd2 ?_ ?_ | refine gd3 ?_ ?_) <;> (first | exact @False.elim _ | intro hc)))
    clear hlen o3 o0 o1 o4 e1 n3
    refine x_loopW w_hand_grips_1_b_p14 (by kernel_rfl) h.low.length (fun f t m' => t 8 = vint ((f + 1 : Nat) : Int) ∧ m.next ≤ m'.next ∧ ∃ v j, PlSt h c m' ((L ++ fitS h c pos k F f).take 201) v ∧ FgR m' v F j) ?_ ?_
    · refine ⟨vv, Nat.le_refl _, v, j, ?_, hv0.out⟩
      rw [show fitS h c pos k F 0 = [] from rfl, List.append_nil, List.take_of_length_le hL]
      exact hs0.out
    clear hs0 hv0 hv
    rintro f t m1 hfk ⟨h8, hnx1, v1, j1, hs, hv⟩
    have o0 := hs.o0
    have o1 := hs.o1
    obtain ⟨tok, o2, hap⟩ := hs.o2
    have o3 := hs.o3
    have o4 := hs.o4
    have nxm := hs.nx
    have n0 : 0 < m1.next := by omega
    have n1 : 1 < m1.next := by omega
    have n2 : 2 < m1.next := by omega
    have n3 : 3 < m1.next := by omega
    have hlen := fg_len hv
    simp only [pureSem, vint] at hlen
    have hs0 := Hid.mk hs
    have hv0 := Hid.mk hv
    have hLf := tk_len (L ++ fitS h c pos k F f)
    clear hs hv
    by_cases hfn : f < h.low.length
    case neg =>
      have hfe : f = h.low.length := by omega
      subst hfe
      have c1 : ¬ ((h.low.length + 1 : Nat) : Int) ≤ (h.low.length : Int) := by omega
      clear hfk hfn
      repeat' (with_reducible first | refine x_ops ?_ | refine wk ?_ | ((first | refine gd1 ?_ ?_ | refine gd2 ?_ ?_ | refine gd3 ?_ ?_) <;> (first | exact @False.elim _ | intro hc)))
      exact ⟨.inl rfl, .tup [], vv, rfl, hnx1, v1, j1, hs0.out, hv0.out, fun e => absurd e (Nat.ne_of_lt hlt0.out)⟩
    have c1 : ((f + 1 : Nat) : Int) ≤ (h.low.length : Int) := by omega
    obtain ⟨Lf, hLe⟩ : ∃ Lf, Lf = (L ++ fitS h c pos k F f).take 201 := ⟨_, rfl⟩
    rw [← hLe] at hs0 hLf o2 hap
    by_cases hg : Lf.length ≤ 200
    case neg =>
      have c2 : ¬ (Lf.length : Int) ≤ 200 := by omega
      have hfull : Lf = (L ++ fitS h c pos k F h.low.length).take 201 := by
        obtain ⟨B, hB⟩ := fitS_le h c pos k F (Nat.le_of_lt hfn)
        rw [hLe] at hg ⊢
        rw [hB, ← List.append_assoc]
        exact tk_full hg
      rw [← hfull]
      replace hLe := Hid.mk hLe
      replace hfull := Hid.mk hfull
      clear hg
      repeat' (with_reducible first | refine x_ops ?_ | refine wk ?_ | ((first | refine gd1 ?_ ?_ | refine gd2 ?_ ?_ | refine gd3 ?_ ?_) <;> (first | exact @False.elim _ | intro hc)))
      exact ⟨.inl rfl, .tup [], vv, rfl, hnx1, v1, j1, hs0.out, hv0.out, fun e => absurd e (Nat.ne_of_lt hlt0.out)⟩
    have c2 : (Lf.length : Int) ≤ 200 := by omega
    have R2 := RF f hfn
    have w2 := w_add1 (k := f + 1) (by omega)
    have hLs : (L ++ fitS h c pos k F (f + 1)).take 201 = (Lf ++ fitT h c pos k (F ++ [((f + 1 : Nat) : Int)])).take 201 := by
      rw [fitS_succ, ← List.append_assoc, hLe]
      rw [hLe] at hg
      exact (tk_more hg).symm
    have skip : fitT h c pos k (F ++ [((f + 1 : Nat) : Int)]) = [] → (L ++ fitS h c pos k F (f + 1)).take 201 = Lf := fun e => by rw [hLs, e, List.append_nil, List.take_of_length_le hLf]
    replace hLs := Hid.mk hLs
    replace skip := Hid.mk skip
    replace hLe := Hid.mk hLe
    replace hg := Hid.mk hg
    replace hLf := Hid.mk hLf
    replace hfn := Hid.mk hfn
    clear RF hfk
    cases hr : rchB h pos f (c.down.getD F.length (0, 0)).2
    · rw [hr] at R2
      have e9 := Hid.mk (skip.out (fitT_reach hlt0.out hr))
      clear hr
      repeat' (with_reducible first | refine x_ops ?_ | refine wk ?_ | (with_reducible refine xc (R2) ?_) | ((first | refine gd1 ?_ ?_ | refine gd2 ?_ ?_ | refine gd3 ?_ ?_) <;> (first | exact @False.elim _ | intro hc)))
      exact nx hfn.out ⟨vv, hnx1, v1, j1, by rw [e9.out]; exact hs0.out, hv0.out⟩
    rw [hr] at R2
    replace hr := Hid.mk hr
    repeat' (with_reducible first | refine x_ops ?_ | refine wk ?_ | (with_reducible refine xc (R2) ?_) | ((first | refine gd1 ?_ ?_ | refine gd2 ?_ ?_ | refine gd3 ?_ ?_) <;> (first | exact @False.elim _ | intro hc)))
    refine x_loopF w_hand_grips_1_b_p6 (by kernel_rfl) F.length (fun q t => t 54 = vint (q : Int) ∧ ∀ i, i < q → agrB (c.down.getD i (0, 0)) (c.down.getD F.length (0, 0)) (F.getD i 0) ((f + 1 : Nat) : Int) = true) ?_ ?_
    · exact ⟨vv, fun i h => by omega⟩
    rintro q t2 hq ⟨h54, hJ⟩
    replace hJ := Hid.mk hJ
    by_cases hqF : q < F.length
    · obtain ⟨qq, rfl, hq5, hqn, hoq⟩ : ∃ qq, v1 = .gsl qq F.length 1 ∧ 5 ≤ qq ∧ qq < m1.next ∧ m1.obj qq = some (.box (F.map vint ++ j1) 3) := by
        rcases hv0.out with ⟨_, h1, _⟩ | h1
        · subst h1; simp at hqF
        · exact h1
      have g1 : (F.map vint ++ j1)[q]? = some (V.lit (.int .i64 (F.getD q 0))) := by rw [List.getElem?_append_left (by simpa using hqF)]; exact ints_at hqF
      have g2 := pls_take (l := c.down) (k := q) (by omega)
      have g3 : q * 2 + 2 ≤ c.down.length * 2 := by omega
      have c3 : (q : Int) < (F.length : Int) := by omega
      have c4 : (q : Int) < (c.down.length : Int) := by omega
      have w3 := w_add1 (k := q) (by omega)
      have AG := agree_fn (c.down.getD q (0, 0)) (c.down.getD F.length (0, 0)) (F.getD q 0) ((f + 1 : Nat) : Int)
      unfold plE at AG
      clear hq5
      cases ha : agrB (c.down.getD q (0, 0)) (c.down.getD F.length (0, 0)) (F.getD q 0) ((f + 1 : Nat) : Int)
      · rw [ha] at AG
        have e9 := Hid.mk (skip.out (fitT_agree (k := k) hlt0.out hqF ha))
        clear ha
        repeat' (with_reducible first | refine x_ops ?_ | refine wk ?_ | (with_reducible refine xc (AG) ?_) | ((first | refine gd1 ?_ ?_ | refine gd2 ?_ ?_ | refine gd3 ?_ ?_) <;> (first | exact @False.elim _ | intro hc)))
        exact nx hfn.out ⟨vv, hnx1, _, j1, by rw [e9.out]; exact hs0.out, hv0.out⟩
      · rw [ha] at AG
        replace ha := Hid.mk ha
        repeat' (with_reducible first | refine x_ops ?_ | refine wk ?_ | (with_reducible refine xc (AG) ?_) | ((first | refine gd1 ?_ ?_ | refine gd2 ?_ ?_ | refine gd3 ?_ ?_) <;> (first | exact @False.elim _ | intro hc)))
        refine nf hqF ⟨vv, fun i h => ?_⟩ rfl
        by_cases hi : i = q
        · subst hi; exact ha.out
        · exact hJ.out i (by omega)
    · have hqe : q = F.length := by omega
      subst hqe
      have c3 : ¬ (F.length : Int) < (F.length : Int) := by omega
      have hP := Hid.mk (hF.snoc hfn.out hr.out hJ.out)
      clear hqF hq hJ
      repeat' (with_reducible first | refine x_ops ?_ | refine wk ?_ | ((first | refine gd1 ?_ ?_ | refine gd2 ?_ ?_ | refine gd3 ?_ ?_) <;> (first | exact @False.elim _ | intro hc)))
      refine x_appF (v := v1) (F := F) (r := j1) (a := ((f + 1 : Nat) : Int)) vw (hv0.out.grow 5) vw (by have := hfl.out; omega) (by show 5 ≤ m1.next + 3; omega) (by show m1.next + 3 < m1.next + 5; omega) ?_
      intro m2 hF2 hn2 ho2 hr2
      replace hn2 : m2.next = m1.next + 5 := hn2
      have hs2 : PlSt h c m2 Lf v1 := hs0.out.frame (by omega) ho2 (fun j n e z hj hjr => hr2 j n e z (by show j ≠ m1.next + 3; omega) hjr)
      have q3 := hs2.o3
      have q4 := hs2.o4
      have q34 : 4 < m2.next := by omega
      replace hn2 := Hid.mk hn2
      have hs3 := Hid.mk (hs2.put3 (.gsl (m1.next + 3) (F.length + 1) 1))
      have hF3 : FgR (m2.put 3 (.box [.gsl (m1.next + 3) (F.length + 1) 1] 22)) (.gsl (m1.next + 3) (F.length + 1) 1) (F ++ [((f + 1 : Nat) : Int)]) [] := by
        rcases hF2 with ⟨h1, _⟩ | ⟨q, h1, h2, h3, h4⟩
        · cases h1
        · exact .inr ⟨q, h1, h2, h3, by rw [put_obj, if_neg (by omega)]; exact h4⟩
      replace hF3 := Hid.mk hF3
      clear hs2 ho2 hr2 hF2 hlen o0 o1 o2 o3 o4 hap n0 n1 n2 n3
      repeat' (with_reducible first | refine x_ops ?_ | refine wk ?_ | ((first | refine gd1 ?_ ?_ | refine gd2 ?_ ?_ | refine gd3 ?_ ?_) <;> (first | exact @False.elim _ | intro hc)))
      have hkl : F.length + 1 + k = c.down.length := by have := hl0.out; omega
      refine x_callv (f := 104) (cs := [.ptr 3 0, .ptr 1 0, .ptr 0 0, .ptr 2 0, .ptr 4 0]) (Post := PlPost h c m2.next (F ++ [((f + 1 : Nat) : Int)]) ((Lf ++ fitT h c pos k (F ++ [((f + 1 : Nat) : Int)])).take 201)) vw kr ?_ ?_ ?_
      · (simp only [go_sem, Nat.reduceAdd, Nat.reduceEqDiff, Nat.reduceLT, Nat.reduceLeDiff, Nat.reduceMul, Nat.reduceSub, Nat.reducePow, Nat.reduceDiv, Nat.reduceMod, Nat.reduceBEq, Int.reduceBEq, Int.reduceLT, reduceIte, V.norms, V.norm, tIs, tBs, tPs, *])
        exact IH (F ++ [((f + 1 : Nat) : Int)]) Lf (m2.put 3 (.box [.gsl (m1.next + 3) (F.length + 1) 1] 22)) (.gsl (m1.next + 3) (F.length + 1) 1) [] (by simp; omega) hP.out hLf.out (fun _ => ⟨hg.out, rfl⟩) hs3.out hF3.out
      · obtain ⟨m', h1, h2, h3⟩ := hs3.out.other ((Lf ++ fitT h c pos k (F ++ [((f + 1 : Nat) : Int)])).take 201) hF3.out
        exact ⟨_, m', rfl, h3, _, _, h1, h2, fun _ => rfl⟩
      rintro r m4 ⟨rfl, hnx4, v4, j4, hs4, hv4, _⟩
      obtain ⟨qq, rfl, hq5, hqn, hoq⟩ : ∃ qq, v4 = .gsl qq (F.length + 1) 1 ∧ 5 ≤ qq ∧ qq < m4.next ∧ m4.obj qq = some (.box (F.map vint ++ (vint ((f + 1 : Nat) : Int) :: j4)) 3) := by
        rcases hv4 with ⟨_, h1, _⟩ | ⟨q, h1, h2, h3, h4⟩
        · simp at h1
        · exact ⟨q, by rw [h1]; simp, h2, h3, by rw [h4]; simp⟩
      have p3 := hs4.o3
      have n3 : 3 < m4.next := by omega
      have hsl : vslc 1 false true (.gsl qq (F.length + 1) 1) [.lit (.int .i64 (F.length : Int))] = some (.gsl qq F.length 1) := by
        simp only [vslc, bnds, Bool.false_eq_true, if_false, if_true]
        rw [if_pos ⟨Int.le_refl _, Int.natCast_nonneg _, by omega⟩]
        rfl
      have hs5 := Hid.mk (hs4.put3 (.gsl qq F.length 1))
      have hF5 : FgR (m4.put 3 (.box [.gsl qq F.length 1] 22)) (.gsl qq F.length 1) F (vint ((f + 1 : Nat) : Int) :: j4) := .inr ⟨qq, rfl, hq5, hqn, by rw [put_obj, if_neg (by omega)]; exact hoq⟩
      replace hF5 := Hid.mk hF5
      have hnx5 : m.next ≤ m4.next := by have := hn2.out; omega
      clear hs4 hv4 q3 q4 hq5 hoq
      repeat' (with_reducible first | refine x_ops ?_ | refine wk ?_ | ((first | refine gd1 ?_ ?_ | refine gd2 ?_ ?_ | refine gd3 ?_ ?_) <;> (first | exact @False.elim _ | intro hc)))
      exact nx hfn.out ⟨vv, hnx5, _, _, by rw [hLs.out]; exact hs5.out, hF5.out⟩
end Go.Proofs.Ytojjdkoglhecbaa
namespace Go.Proofs.Ytojjdkoglhecbaa
open Go.RowKit
set_option linter.unusedSimpArgs false
set_option linter.unusedVariables false

theorem chord_len {c : Chord} (hc : ChordOk c) : c.down.length ≤ 14 := by
  have key : ∀ i, i < c.down.length → (i : Int) + 1 ≤ (c.down.getD i (0, 0)).1 := by
    intro i
    induction i with
    | zero => intro h0; have := (hc.each 0 h0).1; omega
    | succ i ih => intro h1; have := ih (by omega); have := hc.rise i h1; omega
  rcases Nat.eq_zero_or_pos c.down.length with h0 | h0
  · omega
  · have h1 := key (c.down.length - 1) (by omega)
    have h2 := (hc.each (c.down.length - 1) (by omega)).1
    omega
set_option maxHeartbeats 2000000 in
theorem grips_fn (h : Hand) (hk : HandOk h) (c : Chord) (hf : FitC c) (hc : ChordOk c) : Fn Try.prog Gd 71 [h.val, c.val] (tGs ((grpA h c).take 201)) := by
  refine Fn.of_vx0 k_hand_grips (by simp) (by rw [V.pures, pure_hand, V.pures, pure_chord]; rfl) ?_
  have htop := hk.top
  have h14 := chord_len hc
  unfold c_hand_grips Hand.val Chord.val Chord.cells tGs
  repeat' (with_reducible first | refine x_ops ?_ | refine wk ?_ | ((first | refine gd1 ?_ ?_ | refine gd2 ?_ ?_ | refine gd3 ?_ ?_) <;> (first | exact @False.elim _ | intro hc)))
  refine x_loopW w_hand_grips_p3 (by kernel_rfl) h.top.toNat (fun p t m => t 7 = vint ((p + 1 : Nat) : Int) ∧ ∃ v j, PlSt h c m ((fitP h c p).take 201) v ∧ FgR m v [] j ∧ (0 = c.down.length → j = [])) ?_ ?_
  · exact ⟨vv, .sl 0 [] .exact, [], ⟨vv, vv, ⟨.exact, vv, .inl rfl⟩, vv, vv, by ((refine ve ?_; try exact True.intro)); first | done | omega⟩, .inl ⟨rfl, rfl, rfl⟩, fun _ => rfl⟩
  rintro p t m hp ⟨h7, v, j, hs, hv, hj⟩
  have o2 := hs.o2
  obtain ⟨tok, o2, hap⟩ := o2
  have o4 := hs.o4
  have o0 := hs.o0
  have nxm := hs.nx
  have n0 : 0 < m.next := by omega
  have n2 : 2 < m.next := by omega
  have n4 : 4 < m.next := by omega
  have hs0 := Hid.mk hs
  have hv0 := Hid.mk hv
  have hj0 := Hid.mk hj
  clear hs hv hj hap
  by_cases hpt : p < h.top.toNat
  case neg =>
    have hpe : p = h.top.toNat := by omega
    subst hpe
    have c1 : ¬ ((h.top.toNat + 1 : Nat) : Int) ≤ h.top := by omega
    unfold grpA
    generalize (fitP h c h.top.toNat).take 201 = L at *
    repeat' (with_reducible first | refine x_ops ?_ | refine wk ?_ | ((first | refine gd1 ?_ ?_ | refine gd2 ?_ ?_ | refine gd3 ?_ ?_) <;> (first | exact @False.elim _ | intro hc)))
    exact finV_ret vv (.sl _ _ _)
  have c1 : ((p + 1 : Nat) : Int) ≤ h.top := by omega
  have w1 := w_add1 (k := p + 1) (by omega)
  have hL : (fitP h c (p + 1)).take 201 = ((fitP h c p).take 201 ++ fitT h c ((p + 1 : Nat) : Int) c.down.length []).take 201 := by
    rw [fitP_succ]
    by_cases hg : ((fitP h c p).take 201).length ≤ 200
    · exact (tk_more hg).symm
    · rw [← tk_full hg, List.take_append_of_le_length (by omega), List.take_of_length_le (tk_len _)]
  replace hL := Hid.mk hL
  clear o2
  have PS := place_sfn h hk c hf h14 ((p + 1 : Nat) : Int) (by omega) c.down.length [] ((fitP h c p).take 201) m v j (by simp) (fun i hi => by simp at hi) (tk_len _)
    (fun e => ⟨by have := fitP0_len (h := h) e p; rw [List.length_take]; omega, hj0.out e.symm⟩) hs0.out hv0.out
  repeat' (with_reducible first | refine x_ops ?_ | refine wk ?_ | ((first | refine gd1 ?_ ?_ | refine gd2 ?_ ?_ | refine gd3 ?_ ?_) <;> (first | exact @False.elim _ | intro hc)))
  refine x_callv (f := 104) (cs := [.ptr 3 0, .ptr 1 0, .ptr 0 0, .ptr 2 0, .ptr 4 0]) (Post := PlPost h c m.next [] (((fitP h c p).take 201 ++ fitT h c ((p + 1 : Nat) : Int) c.down.length []).take 201)) vw kr ?_ ?_ ?_
  · (simp only [go_sem, Nat.reduceAdd, Nat.reduceEqDiff, Nat.reduceLT, Nat.reduceLeDiff, Nat.reduceMul, Nat.reduceSub, Nat.reducePow, Nat.reduceDiv, Nat.reduceMod, Nat.reduceBEq, Int.reduceBEq, Int.reduceLT, reduceIte, V.norms, V.norm, tIs, tBs, tPs, *]); exact PS
  · obtain ⟨m', h1, h2, h3⟩ := hs0.out.other (((fitP h c p).take 201 ++ fitT h c ((p + 1 : Nat) : Int) c.down.length []).take 201) hv0.out
    exact ⟨_, m', rfl, h3, _, _, h1, h2, fun e => hj0.out e⟩
  rintro r m4 ⟨rfl, hnx4, v4, j4, hs4, hv4, hj4⟩
  have hs5 := Hid.mk hs4
  have hv5 := Hid.mk hv4
  have hj5 := Hid.mk hj4
  clear hs4 hv4 hj4 PS
  repeat' (with_reducible first | refine x_ops ?_ | refine wk ?_ | ((first | refine gd1 ?_ ?_ | refine gd2 ?_ ?_ | refine gd3 ?_ ?_) <;> (first | exact @False.elim _ | intro hc)))
  exact nx hpt ⟨vv, v4, j4, by rw [hL.out]; exact hs5.out, hv5.out, hj5.out⟩
/-- What Grips answers. -/
noncomputable def grR (h : Hand) (c : Chord) : List Grip × Int :=
  if chkE h = 0 then (if rgtB c = true then (if (grpA h c).length ≤ 200 then (grpA h c, 0) else ([], 2)) else ([], 1)) else ([], 60)
theorem rgt_ok {c : Chord} (h : rgtB c = true) : ChordOk c := by unfold rgtB at h; simpa using h
set_option maxHeartbeats 1000000 in
theorem Grips_fn (h : Hand) (c : Chord) (hf : FitC c) : Fn Try.prog Gd 32 [h.val, c.val] (.tup [tGs (grR h c).1, vint (grR h c).2]) := by
  refine Fn.of_vx0 k_hand_Grips (by simp) (by rw [V.pures, pure_hand, V.pures, pure_chord]; rfl) ?_
  have C1 := check_fn h
  have C2 := right_fn c hf.big
  unfold grR
  unfold c_hand_Grips Hand.val Chord.val Chord.cells tGs
  by_cases he : chkE h = 0
  case neg =>
    rw [if_neg he]
    rw [chk_bad he] at C1
    clear he
    unfold Hand.val at C1
    repeat' (with_reducible first | refine x_ops ?_ | refine wk ?_ | (with_reducible refine xc (C1) ?_) | ((first | refine gd1 ?_ ?_ | refine gd2 ?_ ?_ | refine gd3 ?_ ?_) <;> (first | exact @False.elim _ | intro hc)))
    exact finV_ret vv (.tup (.cons (.sl _ _ _) (.cons (.lit _) .nil)))
  have hk := chk_ok he
  rw [if_pos he]
  rw [he] at C1
  clear he
  cases hr : rgtB c
  · rw [hr] at C2
    rw [if_neg (by simp)]
    clear hr hk
    unfold Hand.val at C1
    unfold Chord.val Chord.cells at C2
    repeat' (with_reducible first | refine x_ops ?_ | refine wk ?_ | (with_reducible refine xc (C1) ?_) | (with_reducible refine xc (C2) ?_) | ((first | refine gd1 ?_ ?_ | refine gd2 ?_ ?_ | refine gd3 ?_ ?_) <;> (first | exact @False.elim _ | intro hc)))
    exact finV_ret vv (.tup (.cons (.sl _ _ _) (.cons (.lit _) .nil)))
  rw [hr] at C2
  rw [if_pos rfl]
  have C3 := grips_fn h hk c hf (rgt_ok hr)
  clear hr hk
  unfold Hand.val at C1 C3
  unfold Chord.val Chord.cells at C2 C3
  unfold tGs at C3
  by_cases hl : (grpA h c).length ≤ 200
  · rw [if_pos hl]
    rw [List.take_of_length_le (by omega)] at C3
    have c1 : ¬ (200 : Int) < ((grpA h c).length : Int) := by omega
    clear hl
    generalize grpA h c = L at *
    repeat' (with_reducible first | refine x_ops ?_ | refine wk ?_ | (with_reducible refine xc (C1) ?_) | (with_reducible refine xc (C2) ?_) | (with_reducible refine xc (C3) ?_) | ((first | refine gd1 ?_ ?_ | refine gd2 ?_ ?_ | refine gd3 ?_ ?_) <;> (first | exact @False.elim _ | intro hc)))
    exact finV_ret vv (.tup (.cons (.sl _ _ _) (.cons (.lit _) .nil)))
  · rw [if_neg hl]
    have c1 : (200 : Int) < (((grpA h c).take 201).length : Int) := by rw [List.length_take]; omega
    clear hl
    generalize (grpA h c).take 201 = L at *
    repeat' (with_reducible first | refine x_ops ?_ | refine wk ?_ | (with_reducible refine xc (C1) ?_) | (with_reducible refine xc (C2) ?_) | (with_reducible refine xc (C3) ?_) | ((first | refine gd1 ?_ ?_ | refine gd2 ?_ ?_ | refine gd3 ?_ ?_) <;> (first | exact @False.elim _ | intro hc)))
    exact finV_ret vv (.tup (.cons (.sl _ _ _) (.cons (.lit _) .nil)))
end Go.Proofs.Ytojjdkoglhecbaa
namespace Go.Proofs.Ytojjdkoglhecbaa
open Go.RowKit
set_option linter.unusedSimpArgs false
set_option linter.unusedVariables false

section
variable {P : Program} {G : Ground}
/-- A call with memory, its arguments as they are. -/
theorem x_scallR {base i : Nat} {d : Option Nat} {f : FuncId} {xs : List Opd} {l : List VI} {s : St} {K : St → Prop} {Post : V → Mm → Prop} (vs : List V) (hv : xs.map s.ev = vs) (hf : SFn P G f vs s.m Post) (hne : ∃ r m', Post r m')
    (h : ∀ r m', Post r m' → goR P G base (some ⟨putT s.t d r, m'⟩) l (i + 1) K) : vrun P G base i (⟨d, none, .call f, xs, none⟩ :: l) s K := by
  subst hv
  rw [vrun]
  unfold vstep VI.on
  simp only [if_true, sem, callSem]
  exact ⟨_, Post, .inl rfl, hf, hne, fun r m' hP => goR_vrun l (i + 1) _ (h r m' hP)⟩
/-- An append to a row of this call's own, in any order. -/
theorem x_appO {base i : Nat} {d : Option Nat} {e : TypeId} {size bytes : Nat} {x y : Opd} {l : List VI} {s : St} {K : St → Prop} {n j t : Nat} {xs ys : List V} {k2 : Tok} {md : Option (List Nat)} (hx : s.ev x = .sl n xs (.own t)) (hy : s.ev y = .sl j ys k2) (hok : ownOk md base t = true) (ho : s.m.obj t = some (.row n e size))
    (h1 : xs.length = n * size) (h2 : ys.length = j * size) (h3 : (n + j) * bytes ≤ 140737488355328) (h4 : n + j ≤ maxLen)
    (h : goR P G base (some ⟨putT s.t d (.sl (n + j) (xs ++ ys) (.own t)), s.m.put t (.row (n + j) e size)⟩) l (i + 1) K) : vrun P G base i (⟨d, none, .app e size bytes, [x, y], md⟩ :: l) s K := by
  rw [vrun]
  unfold vstep VI.on
  simp only [if_true, List.map_cons, List.map_nil, hx, hy, sem, ho]
  refine ⟨h1, h2, h3, h4, hok, ?_, ?_, ?_, goR_vrun l (i + 1) _ h⟩ <;> first | rfl | trivial
/-- An append to a slice that may grow: what is left as it was. -/
theorem x_appc {base i : Nat} {d : Option Nat} {e : TypeId} {size bytes : Nat} {x y : Opd} {l : List VI} {s : St} {K : St → Prop} {n j : Nat} {xs ys : List V} {k k2 : Tok} (hx : s.ev x = .sl n xs k) (hy : s.ev y = .sl j ys k2) (hap : Apb s.m k n e size)
    (h1 : xs.length = n * size) (h2 : ys.length = j * size) (h3 : (n + j) * bytes ≤ 140737488355328) (h4 : n + j ≤ maxLen) (h0 : base + i < s.m.next)
    (h : ∀ k' m', Apb m' k' (n + j) e size → m'.next = s.m.next → (∀ q, q ≠ base + i → k ≠ .own q → m'.obj q = s.m.obj q) → (∀ q, k' = .own q → q = base + i ∨ k = .own q) → goR P G base (some ⟨putT s.t d (.sl (n + j) (xs ++ ys) k'), m'⟩) l (i + 1) K) :
    vrun P G base i (⟨d, none, .app e size bytes, [x, y], none⟩ :: l) s K := by
  rw [vrun]
  unfold vstep VI.on
  simp only [if_true, List.map_cons, List.map_nil, hx, hy, sem]
  refine ⟨h1, h2, h3, h4, ?_⟩
  rcases hap with rfl | ⟨t, rfl, ht, ho⟩
  · exact goR_vrun l (i + 1) _ (h _ _ (.inr ⟨base + i, rfl, h0, if_pos rfl⟩) rfl (fun q hne _ => if_neg hne) (fun q hq => .inl (by injection hq with hq; exact hq.symm)))
  · simp only [ho]
    exact ⟨rfl, trivial, trivial, trivial, goR_vrun l (i + 1) _ (h _ _ (.inr ⟨t, rfl, ht, if_pos rfl⟩) rfl (fun q _ hne => if_neg fun e => hne (by rw [e])) (fun q hq => .inr hq))⟩
end

/-- A list of grips that may grow goes through a call. -/
def ExPost (m : Mm) (tok : Tok) (L : List Grip) (r : V) (m' : Mm) : Prop :=
  ∃ tok', r = .sl L.length (L.flatMap Grip.cells) tok' ∧ Apb m' tok' L.length 53 2 ∧ m.next ≤ m'.next ∧ (∀ q, q < m.next → tok ≠ .own q → m'.obj q = m.obj q) ∧ ∀ q, q < m.next → tok' = .own q → tok = .own q
theorem ExPost.some (m : Mm) (tok : Tok) (L : List Grip) : ∃ r m', ExPost m tok L r m' :=
  ⟨_, m, .exact, rfl, .inl rfl, Nat.le_refl _, fun _ _ _ => rfl, fun q _ h => by cases h⟩
theorem ExPost.back {m m1 m' : Mm} {tok : Tok} {L : List Grip} {r : V} (h : ExPost m tok L r m') (hn : m1.next ≤ m.next) (ho : ∀ q, q < m1.next → m.obj q = m1.obj q) : ExPost m1 tok L r m' := by
  obtain ⟨tok', h1, h2, h3, h4, h5⟩ := h
  exact ⟨tok', h1, h2, Nat.le_trans hn h3, fun q hq hne => (h4 q (by omega) hne).trans (ho q hq), fun q hq => h5 q (by omega)⟩
theorem allB_succ (n : Nat) (p : Nat → Bool) : allB (n + 1) p = (allB n p && p n) := by simp [allB, List.range_succ]

set_option maxHeartbeats 4000000 in
theorem rext_sfn (h : Hand) (hk : HandOk h) (c : Chord) (hf : FitC c) (hc : ChordOk c) (pos : Int) (hp : 1 ≤ pos ∧ pos ≤ h.top) : ∀ (k : Nat) (F : List Int) (L : List Grip) (m : Mm) (tk tok : Tok), F.length + k = c.down.length → PreR h c pos F →
    L.length ≤ 201 → (k = 0 → L.length ≤ 200) → Apb m tok L.length 53 2 →
    SFn Try.prog Gd 109 [h.val, c.val, vint pos, .sl F.length (F.map vint) tk, .sl L.length (L.flatMap Grip.cells) tok] m (ExPost m tok ((L ++ fitT h c pos k F).take 201))
  | 0, F, L, m, tk, tok, hl, hF, hL, h0, hap => by
    have hL2 := h0 rfl
    have h14 := chord_len hc
    have hfit := hF.leaf hk hc hp (by omega)
    refine SFn.of_vxS k_theorboref06_extend (by simp) ?_
    rw [fitT, if_pos hfit, List.take_of_length_le (by simp; omega)]
    have e1 : ((F.length : Int) == (c.down.length : Int)) = true := by simp; omega
    have n0 : m.next < m.next + 3 := by omega
    have n1 : m.next + 1 < m.next + 3 := by omega
    have hFl : F.length ≤ 14 := by omega
    have hap0 := Hid.mk hap
    clear hl hap
    unfold c_theorboref06_extend Hand.val Chord.val Chord.cells
    repeat' (with_reducible first | refine x_ops ?_ | refine wk ?_ | ((first | refine gd1 ?_ ?_ | refine gd2 ?_ ?_ | refine gd3 ?_ ?_) <;> (first | exact @False.elim _ | intro hc)))
    refine x_appE (xs := []) (n := 0) (j := F.length) (ys := F.map vint) vw vw rfl (by simp) (by omega) (by unfold Go.maxLen; omega) ?_
    repeat' (with_reducible first | refine x_ops ?_ | refine wk ?_ | ((first | refine gd1 ?_ ?_ | refine gd2 ?_ ?_ | refine gd3 ?_ ?_) <;> (first | exact @False.elim _ | intro hc)))
    refine x_appc (n := L.length) (j := 1) (xs := L.flatMap Grip.cells) (ys := Grip.cells ⟨pos, F⟩) (k := tok) vw vw (hap0.out.mono (fun q hq _ => by (simp only [put_obj]; repeat rw [if_neg (by omega)])) (by simp only [put_next]; omega)) (gs_len L) rfl (by omega) (by unfold Go.maxLen; omega) (by simp only [put_next]; omega) ?_
    intro k' m' hap' hn' hkeep hown
    replace hn' : m'.next = m.next + 11 := hn'
    repeat' (with_reducible first | refine x_ops ?_ | refine wk ?_ | ((first | refine gd1 ?_ ?_ | refine gd2 ?_ ?_ | refine gd3 ?_ ?_) <;> (first | exact @False.elim _ | intro hc)))
    refine finS_ret vv ⟨k', ?_, ?_, ?_, ?_, ?_⟩
    · rw [List.length_append, List.flatMap_append]; simp
    · rw [List.length_append]; exact hap'
    · ((refine ve ?_; try exact True.intro)); omega
    · intro q hq hne
      exact (hkeep q (by omega) hne).trans (by (simp only [put_obj]; repeat rw [if_neg (by omega)]))
    · intro q hq hk'
      rcases hown q hk' with h1 | h1
      · omega
      · exact h1
  | k + 1, F, L, m, tk, tok, hl, hF, hL, h0, hap => by
    have IH := rext_sfn h hk c hf hc pos hp k
    have htop := hk.top
    have hn4 := hk.n4
    have h14 := chord_len hc
    clear h0
    refine SFn.of_vxS k_theorboref06_extend (by simp) ?_
    have e1 : ((F.length : Int) == (c.down.length : Int)) = false := by simp; omega
    have hlt : F.length < c.down.length := by omega
    have cF : (F.length : Int) < (c.down.length : Int) := by omega
    have gF := pls_at1 hlt
    have gL := pls_len c.down
    have n0 : m.next < m.next + 3 := by omega
    have n1 : m.next + 1 < m.next + 3 := by omega
    have hfr := hc.each F.length hlt
    have RF := fun v => rreach_fn h hk pos v (c.down.getD F.length (0, 0)).2 (by omega) (by omega)
    have RA := fun (q : Nat) (hq : q < F.length) (v : Int) => rapart_fn h hk c hf q F.length hq hlt (F.getD q 0) v (by
      have := (hF q hq).1
      rw [rrchB, Bool.and_eq_true, Bool.and_eq_true, decide_eq_true_eq, decide_eq_true_eq] at this
      exact this.1)
    have hFl : Hid (F.length ≤ 14) := ⟨by omega⟩
    have hlt0 := Hid.mk hlt
    have hl0 := Hid.mk hl
    have hap0 := Hid.mk hap
    clear hl hap hlt hfr
    rw [fitT_succ]
    unfold c_theorboref06_extend Hand.val Chord.val Chord.cells
    unfold Hand.val at RF RA
    unfold Chord.val Chord.cells at RA
    repeat' (with_reducible first | refine x_ops ?_ | refine wk ?_ | ((first | refine gd1 ?_ ?_ | refine gd2 ?_ ?_ | refine gd3 ?_ ?_) <;> (first | exact @False.elim _ | intro hc)))
    clear n0 n1 e1
    refine x_loopW w_theorboref06_extend_p11 (by kernel_rfl) h.low.length (fun f t m' => t 12 = vint ((f + 1 : Nat) : Int) ∧ ExPost m tok ((L ++ fitS h c pos k F f).take 201) (t 4) m' ∧ m.next + 3 ≤ m'.next ∧
      m'.obj m.next = some (.box [tIs h.low, tIs h.high, tBs h.barre, vint h.top, vint h.jump, vint h.shift, vint h.lift, vint h.bar, vint h.stretch, vint h.slide] 25) ∧ m'.obj (m.next + 1) = some (.box [tPs c.down, tIs c.held, tIs c.opn] 47)) ?_ ?_
    · refine ⟨vv, ⟨tok, ?_, ?_, ?_, ?_, fun q _ h => h⟩, ?_, ?_, ?_⟩
      · rw [show fitS h c pos k F 0 = [] from rfl, List.append_nil, List.take_of_length_le hL]; exact vv
      · rw [show fitS h c pos k F 0 = [] from rfl, List.append_nil, List.take_of_length_le hL]
        exact hap0.out.mono (fun q hq _ => by (simp only [put_obj]; repeat rw [if_neg (by omega)])) (by simp only [put_next]; omega)
      · simp only [put_next]; omega
      · intro q hq hne; (simp only [put_obj]; repeat rw [if_neg (by omega)])
      · simp only [put_next]; omega
      · exact vv
      · exact vv
    rintro f t m1 hfk ⟨h12, ⟨tk1, h4, hap, hnx, hkeep, hown⟩, hnm, o0, o1⟩
    have n0 : m.next < m1.next := by omega
    have n1 : m.next + 1 < m1.next := by omega
    have hLf := tk_len (L ++ fitS h c pos k F f)
    have hap1 := Hid.mk hap
    have hkeep1 := Hid.mk hkeep
    have hown1 := Hid.mk hown
    clear hap hkeep hown
    by_cases hfn : f < h.low.length
    case neg =>
      have hfe : f = h.low.length := by omega
      subst hfe
      have c1 : ¬ ((h.low.length + 1 : Nat) : Int) ≤ (h.low.length : Int) := by omega
      clear hfk hfn
      generalize (L ++ fitS h c pos k F h.low.length).take 201 = L1 at *
      repeat' (with_reducible first | refine x_ops ?_ | refine wk ?_ | ((first | refine gd1 ?_ ?_ | refine gd2 ?_ ?_ | refine gd3 ?_ ?_) <;> (first | exact @False.elim _ | intro hc)))
      exact finS_ret vv ⟨tk1, rfl, hap1.out, hnx, hkeep1.out, hown1.out⟩
    have c1 : ((f + 1 : Nat) : Int) ≤ (h.low.length : Int) := by omega
    have w2 := w_add1 (k := f + 1) (by omega)
    obtain ⟨Lf, hLe⟩ : ∃ Lf, Lf = (L ++ fitS h c pos k F f).take 201 := ⟨_, rfl⟩
    rw [← hLe] at h4 hap1 hLf
    have R1 := RF ((f + 1 : Nat) : Int)
    have A1 := fun q hq => RA q hq ((f + 1 : Nat) : Int)
    have hS : (L ++ fitS h c pos k F (f + 1)) = (L ++ fitS h c pos k F f) ++ fitT h c pos k (F ++ [((f + 1 : Nat) : Int)]) := by rw [fitS_succ, List.append_assoc]
    have full : ¬ Lf.length ≤ 200 → (L ++ fitS h c pos k F (f + 1)).take 201 = Lf := fun hg => by rw [hS, hLe]; rw [hLe] at hg; exact (tk_full hg).symm
    have more : Lf.length ≤ 200 → (L ++ fitS h c pos k F (f + 1)).take 201 = (Lf ++ fitT h c pos k (F ++ [((f + 1 : Nat) : Int)])).take 201 := fun hg => by rw [hS, hLe]; rw [hLe] at hg; exact (tk_more hg).symm
    have none' : fitT h c pos k (F ++ [((f + 1 : Nat) : Int)]) = [] → (L ++ fitS h c pos k F (f + 1)).take 201 = Lf := fun e => by rw [hS, e, List.append_nil, hLe]
    replace full := Hid.mk full
    replace more := Hid.mk more
    replace none' := Hid.mk none'
    replace hLe := Hid.mk hLe
    replace hfn := Hid.mk hfn
    clear RF RA hfk hS
    obtain ⟨b0, hb0⟩ : ∃ b, b = rrchB h pos ((f + 1 : Nat) : Int) (c.down.getD F.length (0, 0)).2 := ⟨_, rfl⟩
    rw [← hb0] at R1
    replace hb0 := Hid.mk hb0
    repeat' (with_reducible first | refine x_ops ?_ | refine wk ?_ | (with_reducible refine xc (R1) ?_) | ((first | refine gd1 ?_ ?_ | refine gd2 ?_ ?_ | refine gd3 ?_ ?_) <;> (first | exact @False.elim _ | intro hc)))
    refine x_loopF w_theorboref06_extend_p4 (by kernel_rfl) F.length (fun q t => t 14 = vint (q : Int) ∧ t 13 = vbool (b0 && allB q fun i => aptB h c i F.length (F.getD i 0) ((f + 1 : Nat) : Int))) ?_ ?_
    · exact ⟨vv, by rw [show allB 0 (fun i => aptB h c i F.length (F.getD i 0) ((f + 1 : Nat) : Int)) = true from rfl, Bool.and_true]; exact vv⟩
    rintro q t2 hq ⟨h14', h13⟩
    by_cases hqF : q < F.length
    · have g1 := ints_at hqF
      have c3 : (q : Int) < (F.length : Int) := by omega
      have w3 := w_add1 (k := q) (by omega)
      have A2 := A1 q hqF
      have hsu := Hid.mk (allB_succ q fun i => aptB h c i F.length (F.getD i 0) ((f + 1 : Nat) : Int))
      cases hb : (b0 && allB q fun i => aptB h c i F.length (F.getD i 0) ((f + 1 : Nat) : Int))
      · rw [hb] at h13
        replace hb := Hid.mk hb
        clear A1 A2
        repeat' (with_reducible first | refine x_ops ?_ | refine wk ?_ | ((first | refine gd1 ?_ ?_ | refine gd2 ?_ ?_ | refine gd3 ?_ ?_) <;> (first | exact @False.elim _ | intro hc)))
        refine nf hqF ⟨vv, ?_⟩ rfl
        rw [hsu.out, ← Bool.and_assoc, hb.out]; exact vv
      · rw [hb] at h13
        replace hb := Hid.mk hb
        generalize hap' : aptB h c q F.length (F.getD q 0) ((f + 1 : Nat) : Int) = b1 at *
        clear A1
        repeat' (with_reducible first | refine x_ops ?_ | refine wk ?_ | (with_reducible refine xc (A2) ?_) | ((first | refine gd1 ?_ ?_ | refine gd2 ?_ ?_ | refine gd3 ?_ ?_) <;> (first | exact @False.elim _ | intro hc)))
        refine nf hqF ⟨vv, ?_⟩ rfl
        rw [hsu.out, ← Bool.and_assoc, hb.out]; exact vv
    have hqe : q = F.length := by omega
    subst hqe
    have c3 : ¬ (F.length : Int) < (F.length : Int) := by omega
    clear hqF hq A1
    obtain ⟨b, hb⟩ : ∃ b, b = (b0 && allB F.length fun i => aptB h c i F.length (F.getD i 0) ((f + 1 : Nat) : Int)) := ⟨_, rfl⟩
    rw [← hb] at h13
    have hbt : b = true ↔ (rrchB h pos ((f + 1 : Nat) : Int) (c.down.getD F.length (0, 0)).2 = true ∧ ∀ k, k < F.length → AptP h c k F.length (F.getD k 0) ((f + 1 : Nat) : Int)) := by
      rw [hb, hb0.out, Bool.and_eq_true, allB_iff]
      exact ⟨fun hh => ⟨hh.1, fun k hk => apt_true.1 (hh.2 k hk)⟩, fun hh => ⟨hh.1, fun k hk => apt_true.2 (hh.2 k hk)⟩⟩
    replace hbt := Hid.mk hbt
    clear hb
    cases b
    · have e9 := Hid.mk (none'.out (fitT_bad (k := k) hk hc hlt0.out fun hh => by have := hbt.out.2 hh; cases this))
      repeat' (with_reducible first | refine x_ops ?_ | refine wk ?_ | ((first | refine gd1 ?_ ?_ | refine gd2 ?_ ?_ | refine gd3 ?_ ?_) <;> (first | exact @False.elim _ | intro hc)))
      exact nx hfn.out ⟨vv, ⟨tk1, by rw [e9.out]; exact vw, by rw [e9.out]; exact hap1.out, hnx, hkeep1.out, hown1.out⟩, hnm, o0, o1⟩
    by_cases hg : Lf.length ≤ 200
    case neg =>
      have c2 : ¬ (Lf.length : Int) ≤ 200 := by omega
      have e9 := Hid.mk (full.out hg)
      clear hg
      repeat' (with_reducible first | refine x_ops ?_ | refine wk ?_ | ((first | refine gd1 ?_ ?_ | refine gd2 ?_ ?_ | refine gd3 ?_ ?_) <;> (first | exact @False.elim _ | intro hc)))
      exact nx hfn.out ⟨vv, ⟨tk1, by rw [e9.out]; exact vw, by rw [e9.out]; exact hap1.out, hnx, hkeep1.out, hown1.out⟩, hnm, o0, o1⟩
    have c2 : (Lf.length : Int) ≤ 200 := by omega
    have e9 := Hid.mk (more.out hg)
    have hP := Hid.mk (hF.snoc (hbt.out.1 rfl).1 (hbt.out.1 rfl).2)
    replace hg := Hid.mk hg
    have hk0 : Hid (tk1 ≠ .own m.next ∧ tk1 ≠ .own (m.next + 1)) := ⟨by
      rcases hap1.out with h1 | ⟨t, h1, _, h3⟩
      · rw [h1]; exact ⟨(fun e => by cases e), (fun e => by cases e)⟩
      · rw [h1]; exact ⟨(fun e => by injection e with e; subst e; rw [o0] at h3; cases h3), (fun e => by injection e with e; subst e; rw [o1] at h3; cases h3)⟩⟩
    repeat' (with_reducible first | refine x_ops ?_ | refine wk ?_ | ((first | refine gd1 ?_ ?_ | refine gd2 ?_ ?_ | refine gd3 ?_ ?_) <;> (first | exact @False.elim _ | intro hc)))
    refine x_appE (xs := []) (n := 0) (j := F.length) (ys := F.map vint) vw vw rfl (by simp) (by have := hFl.out; omega) (by have := hFl.out; unfold Go.maxLen; omega) ?_
    repeat' (with_reducible first | refine x_ops ?_ | refine wk ?_ | ((first | refine gd1 ?_ ?_ | refine gd2 ?_ ?_ | refine gd3 ?_ ?_) <;> (first | exact @False.elim _ | intro hc)))
    refine x_appO (t := m1.next + 4) (n := F.length) (j := 1) (xs := F.map vint) (ys := [vint ((f + 1 : Nat) : Int)]) vw vw (by simp [ownOk]) vw (by simp) rfl (by have := hFl.out; omega) (by have := hFl.out; unfold Go.maxLen; omega) ?_
    repeat' (with_reducible first | refine x_ops ?_ | refine wk ?_ | ((first | refine gd1 ?_ ?_ | refine gd2 ?_ ?_ | refine gd3 ?_ ?_) <;> (first | exact @False.elim _ | intro hc)))
    refine x_scallR (Post := ExPost m1 tk1 ((Lf ++ fitT h c pos k (F ++ [((f + 1 : Nat) : Int)])).take 201)) [h.val, c.val, vint pos, .sl (F.length + 1) (F.map vint ++ [vint ((f + 1 : Nat) : Int)]) (.own (m1.next + 4)), .sl Lf.length (Lf.flatMap Grip.cells) tk1] ?_ ?_ (ExPost.some _ _ _) ?_
    · simp only [Hand.val, Chord.val, Chord.cells]; exact vw
    · have IH2 := fun mm => IH (F ++ [((f + 1 : Nat) : Int)]) Lf mm (.own (m1.next + 4)) tk1 (by simp; have := hl0.out; omega) hP.out hLf (fun _ => hg.out)
      rw [List.length_append, List.map_append] at IH2
      refine SFn.mono (IH2 _ (hap1.out.mono (fun q hq _ => by (simp only [put_obj]; repeat rw [if_neg (by omega)])) (by simp only [put_next]; omega))) fun r m' hPo => hPo.back (by simp only [put_next]; omega) (fun q hq => by (simp only [put_obj]; repeat rw [if_neg (by omega)]))
    rintro r m4 ⟨tk2, rfl, hap4, hn4', hkeep4, hown4⟩
    have p0 := (hkeep4 _ n0 hk0.out.1).trans o0
    have p1 := (hkeep4 _ n1 hk0.out.2).trans o1
    have hkeep5 : ∀ q, q < m.next → tok ≠ .own q → m4.obj q = m.obj q := fun q hq hne => (hkeep4 q (by omega) fun e => hne (hown1.out q hq e)).trans (hkeep1.out q hq hne)
    have hown5 : ∀ q, q < m.next → tk2 = .own q → tok = .own q := fun q hq e => hown1.out q hq (hown4 q (by omega) e)
    replace hkeep5 := Hid.mk hkeep5
    replace hown5 := Hid.mk hown5
    replace hap4 := Hid.mk hap4
    have hn5 : m.next ≤ m4.next := by omega
    have hn6 : m.next + 3 ≤ m4.next := by omega
    clear hkeep4 hown4 o0 o1 hk0
    repeat' (with_reducible first | refine x_ops ?_ | refine wk ?_ | ((first | refine gd1 ?_ ?_ | refine gd2 ?_ ?_ | refine gd3 ?_ ?_) <;> (first | exact @False.elim _ | intro hc)))
    exact nx hfn.out ⟨vv, ⟨tk2, by rw [e9.out]; exact vv, by rw [e9.out]; exact hap4.out, hn5, hkeep5.out, hown5.out⟩, hn6, p0, p1⟩
end Go.Proofs.Ytojjdkoglhecbaa
namespace Go.Proofs.Ytojjdkoglhecbaa
open Go.RowKit
set_option linter.unusedSimpArgs false
set_option linter.unusedVariables false

set_option maxHeartbeats 2000000 in
theorem rall_fn (h : Hand) (hk : HandOk h) (c : Chord) (hf : FitC c) (hc : ChordOk c) : Fn Try.prog Gd 72 [h.val, c.val] (tGs ((grpA h c).take 201)) := by
  refine Fn.of_vx0 k_theorboref06_all (by simp) (by rw [V.pures, pure_hand, V.pures, pure_chord]; rfl) ?_
  have htop := hk.top
  unfold c_theorboref06_all Hand.val Chord.val Chord.cells tGs
  repeat' (with_reducible first | refine x_ops ?_ | refine wk ?_ | ((first | refine gd1 ?_ ?_ | refine gd2 ?_ ?_ | refine gd3 ?_ ?_) <;> (first | exact @False.elim _ | intro hc)))
  refine x_loopW w_theorboref06_all_p3 (by kernel_rfl) h.top.toNat (fun p t m => t 6 = vint ((p + 1 : Nat) : Int) ∧ (∃ tok, t 5 = .sl ((fitP h c p).take 201).length (((fitP h c p).take 201).flatMap Grip.cells) tok ∧ Apb m tok ((fitP h c p).take 201).length 53 2) ∧ 2 ≤ m.next ∧
      m.obj 0 = some (.box [tIs h.low, tIs h.high, tBs h.barre, vint h.top, vint h.jump, vint h.shift, vint h.lift, vint h.bar, vint h.stretch, vint h.slide] 25) ∧ m.obj 1 = some (.box [tPs c.down, tIs c.held, tIs c.opn] 47)) ?_ ?_
  · exact ⟨vv, ⟨.exact, vv, .inl rfl⟩, by ((refine ve ?_; try exact True.intro)); first | done | omega, vv, vv⟩
  rintro p t m hp ⟨h6, ⟨tk, h5, hap⟩, hn, o0, o1⟩
  have n0 : 0 < m.next := by omega
  have n1 : 1 < m.next := by omega
  have hap0 := Hid.mk hap
  clear hap
  by_cases hpt : p < h.top.toNat
  case neg =>
    have hpe : p = h.top.toNat := by omega
    subst hpe
    have c1 : ¬ ((h.top.toNat + 1 : Nat) : Int) ≤ h.top := by omega
    unfold grpA
    generalize (fitP h c h.top.toNat).take 201 = L at *
    repeat' (with_reducible first | refine x_ops ?_ | refine wk ?_ | ((first | refine gd1 ?_ ?_ | refine gd2 ?_ ?_ | refine gd3 ?_ ?_) <;> (first | exact @False.elim _ | intro hc)))
    exact finV_ret vv (.sl _ _ _)
  have c1 : ((p + 1 : Nat) : Int) ≤ h.top := by omega
  have w1 := w_add1 (k := p + 1) (by omega)
  have hL : (fitP h c (p + 1)).take 201 = ((fitP h c p).take 201 ++ fitT h c ((p + 1 : Nat) : Int) c.down.length []).take 201 := by
    rw [fitP_succ]
    by_cases hg : ((fitP h c p).take 201).length ≤ 200
    · exact (tk_more hg).symm
    · rw [← tk_full hg, List.take_append_of_le_length (by omega), List.take_of_length_le (tk_len _)]
  replace hL := Hid.mk hL
  have PS := rext_sfn h hk c hf hc ((p + 1 : Nat) : Int) (by omega) c.down.length [] ((fitP h c p).take 201) m .exact tk (by simp) (fun i hi => by simp at hi) (tk_len _)
    (fun e => by have := fitP0_len (h := h) e p; rw [List.length_take]; omega) hap0.out
  have hk0 : Hid (tk ≠ .own 0 ∧ tk ≠ .own 1) := ⟨by
    rcases hap0.out with h1 | ⟨t, h1, _, h3⟩
    · rw [h1]; exact ⟨(fun e => by cases e), (fun e => by cases e)⟩
    · rw [h1]; exact ⟨(fun e => by injection e with e; subst e; rw [o0] at h3; cases h3), (fun e => by injection e with e; subst e; rw [o1] at h3; cases h3)⟩⟩
  repeat' (with_reducible first | refine x_ops ?_ | refine wk ?_ | ((first | refine gd1 ?_ ?_ | refine gd2 ?_ ?_ | refine gd3 ?_ ?_) <;> (first | exact @False.elim _ | intro hc)))
  refine x_scallR (Post := ExPost m tk (((fitP h c p).take 201 ++ fitT h c ((p + 1 : Nat) : Int) c.down.length []).take 201)) [h.val, c.val, vint ((p + 1 : Nat) : Int), .sl 0 [] .exact, .sl ((fitP h c p).take 201).length (((fitP h c p).take 201).flatMap Grip.cells) tk] ?_ PS (ExPost.some _ _ _) ?_
  · simp only [Hand.val, Chord.val, Chord.cells]; exact vw
  rintro r m4 ⟨tk2, rfl, hap4, hn4, hkeep4, hown4⟩
  have p0 := (hkeep4 _ n0 hk0.out.1).trans o0
  have p1 := (hkeep4 _ n1 hk0.out.2).trans o1
  have hn5 : 2 ≤ m4.next := by omega
  replace hap4 := Hid.mk hap4
  clear hkeep4 hown4 PS o0 o1
  repeat' (with_reducible first | refine x_ops ?_ | refine wk ?_ | ((first | refine gd1 ?_ ?_ | refine gd2 ?_ ?_ | refine gd3 ?_ ?_) <;> (first | exact @False.elim _ | intro hc)))
  exact nx hpt ⟨vv, ⟨tk2, by rw [hL.out]; exact vv, by rw [hL.out]; exact hap4.out⟩, hn5, p0, p1⟩
set_option maxHeartbeats 1000000 in
theorem rGrips_fn (h : Hand) (c : Chord) (hf : FitC c) : Fn Try.prog Gd 33 [h.val, c.val] (.tup [tGs (grR h c).1, vint (grR h c).2]) := by
  refine Fn.of_vx0 k_theorboref06_Grips (by simp) (by rw [V.pures, pure_hand, V.pures, pure_chord]; rfl) ?_
  have C1 := rcheck_fn h
  have C2 := good_fn c hf
  unfold grR
  unfold c_theorboref06_Grips Hand.val Chord.val Chord.cells tGs
  by_cases he : chkE h = 0
  case neg =>
    rw [if_neg he]
    rw [chk_bad he] at C1
    clear he
    unfold Hand.val at C1
    repeat' (with_reducible first | refine x_ops ?_ | refine wk ?_ | (with_reducible refine xc (C1) ?_) | ((first | refine gd1 ?_ ?_ | refine gd2 ?_ ?_ | refine gd3 ?_ ?_) <;> (first | exact @False.elim _ | intro hc)))
    exact finV_ret vv (.tup (.cons (.sl _ _ _) (.cons (.lit _) .nil)))
  have hk := chk_ok he
  rw [if_pos he]
  rw [he] at C1
  clear he
  cases hr : rgtB c
  · rw [hr] at C2
    rw [if_neg (by simp)]
    clear hr hk
    unfold Hand.val at C1
    unfold Chord.val Chord.cells at C2
    repeat' (with_reducible first | refine x_ops ?_ | refine wk ?_ | (with_reducible refine xc (C1) ?_) | (with_reducible refine xc (C2) ?_) | ((first | refine gd1 ?_ ?_ | refine gd2 ?_ ?_ | refine gd3 ?_ ?_) <;> (first | exact @False.elim _ | intro hc)))
    exact finV_ret vv (.tup (.cons (.sl _ _ _) (.cons (.lit _) .nil)))
  rw [hr] at C2
  rw [if_pos rfl]
  have C3 := rall_fn h hk c hf (rgt_ok hr)
  clear hr hk
  unfold Hand.val at C1 C3
  unfold Chord.val Chord.cells at C2 C3
  unfold tGs at C3
  by_cases hl : (grpA h c).length ≤ 200
  · rw [if_pos hl]
    rw [List.take_of_length_le (by omega)] at C3
    have c1 : ¬ (200 : Int) < ((grpA h c).length : Int) := by omega
    clear hl
    generalize grpA h c = L at *
    repeat' (with_reducible first | refine x_ops ?_ | refine wk ?_ | (with_reducible refine xc (C1) ?_) | (with_reducible refine xc (C2) ?_) | (with_reducible refine xc (C3) ?_) | ((first | refine gd1 ?_ ?_ | refine gd2 ?_ ?_ | refine gd3 ?_ ?_) <;> (first | exact @False.elim _ | intro hc)))
    exact finV_ret vv (.tup (.cons (.sl _ _ _) (.cons (.lit _) .nil)))
  · rw [if_neg hl]
    have c1 : (200 : Int) < (((grpA h c).take 201).length : Int) := by rw [List.length_take]; omega
    clear hl
    generalize (grpA h c).take 201 = L at *
    repeat' (with_reducible first | refine x_ops ?_ | refine wk ?_ | (with_reducible refine xc (C1) ?_) | (with_reducible refine xc (C2) ?_) | (with_reducible refine xc (C3) ?_) | ((first | refine gd1 ?_ ?_ | refine gd2 ?_ ?_ | refine gd3 ?_ ?_) <;> (first | exact @False.elim _ | intro hc)))
    exact finV_ret vv (.tup (.cons (.sl _ _ _) (.cons (.lit _) .nil)))

theorem grR_fits (h : Hand) (c : Chord) (hf : FitC c) : FitsG (grR h c).1 := by
  unfold grR
  split <;> (try split) <;> (try split)
  · rename_i h1
    refine ⟨by show (grpA h c).length ≤ _; omega, fun g hg => ?_⟩
    have := (grpA_mem.1 hg).len
    have := hf.1
    omega
  all_goals exact ⟨by simp, fun g hg => by cases hg⟩
end Go.Proofs.Ytojjdkoglhecbaa
namespace Go.Proofs.Ytojjdkoglhecbaa
open Go.RowKit
set_option maxRecDepth 100000

abbrev c_hand_weave_b_p1 : VC := (.seq (.ops 0 [oo 19 .mv [.t 6], oo 4 .mv [(.c (.lit (.pointer none)))], oo 5 .mv [.t 19]]) .ret)
abbrev c_hand_weave_b_p2 : VC := (.seq (.ops 0 [oo 17 .mv [.t 6], oo 18 (.bin .neq) [.t 17, kk 0]]) (.cond (.t 18) c_hand_weave_b_p1 .skip))
abbrev c_hand_weave_b_p3 : VC := (.seq (.ops 0 [oo 4 .mv [(.c (.lit (.pointer none)))], oo 5 .mv [kk 2]]) .ret)
abbrev c_hand_weave_b_p4 : VC := (.ops 8 [oo 42 .mv [.t 11], oo 43 (.ldA 10) [.t 2], oo 44 (.ldA 3) [.t 9], oo 45 (.ldA 2) [.t 13], oo 46 (.call 81) [.t 43, .t 44, .t 45], oo 47 (.mksl 1 1 [li 0] [(0, 1)]) [.t 46], oo 48 (.app 3 1 8) [.t 42, .t 47], oo 11 .mv [.t 48]])
abbrev c_hand_weave_b_p5 : VC := (.ops 0 [oo 49 (.bin .add) [.t 38, kk 1], oo 38 .mv [.t 49]])
abbrev c_hand_weave_b_p6 : VC := (.seq (.block 3 (.seq (.ops 4 [oo 40 (.ixA 2) [.t 36, .t 38], oo 41 (.ldA 2) [.t 40], ⟨(some 13), none, (.alloc 53 [li 0, (.sl 0 [] .exact)]), [], none⟩, ⟨none, none, (.st 2), [.t 13, .t 41], none⟩]) c_hand_weave_b_p4)) c_hand_weave_b_p5)
abbrev c_hand_weave_b_p7 : VC := (.seq (.ops 0 [oo 39 (.bin .lss) [.t 38, .t 37]]) (.seq (.cond (.t 39) .skip (.exit 2)) c_hand_weave_b_p6))
@[go_sem] abbrev w_hand_weave_b_p7 : Nat := 1125625028945920
abbrev c_hand_weave_b_p9 : VC := (.ops 11 [oo 60 .mv [.t 7], oo 61 .mv [.t 7], oo 62 .nilck [.t 61], oo 63 (.fldA 12) [.t 62], oo 64 .ld1 [.t 63], oo 65 .mv [.t 11], ⟨(some 66), none, (.mksl 1 1 [(.sl 0 [] .exact)] [(0, 1)]), [.t 65], none⟩, oo 67 (.appM 22 1 24) [.t 64, .t 66], oo 68 .nilck [.t 60], oo 69 (.fldA 12) [.t 68], ⟨none, none, (.st 1), [.t 69, .t 67], none⟩])
abbrev c_hand_weave_b_p10 : VC := (.seq (.ops 11 [oo 50 .mv [.t 7], oo 51 .mv [.t 7], oo 52 .nilck [.t 51], oo 53 (.fldA 11) [.t 52], oo 54 .ld1 [.t 53], oo 55 .mv [.t 10], ⟨(some 56), none, (.mksl 1 1 [(.sl 0 [] .exact)] [(0, 1)]), [.t 55], none⟩, oo 57 (.appM 38 1 24) [.t 54, .t 56], oo 58 .nilck [.t 50], oo 59 (.fldA 11) [.t 58], ⟨none, none, (.st 1), [.t 59, .t 57], none⟩]) c_hand_weave_b_p9)
abbrev c_hand_weave_b_p11 : VC := (.seq (.seq (.ops 0 [oo 36 .mv [.t 10], oo 37 .len [.t 36], oo 38 .mv [kk 0]]) (.block 2 (.loop c_hand_weave_b_p7))) c_hand_weave_b_p10)
abbrev c_hand_weave_b_p12 : VC := (.seq (.ops 0 [oo 11 .mv [(.c (.sl 0 [] .exact))]]) c_hand_weave_b_p11)
abbrev c_hand_weave_b_p13 : VC := (.seq (.seq (.ops 0 [oo 33 .mv [.t 10], oo 34 .len [.t 33], oo 35 (.bin .gtr) [.t 34, kk 200]]) (.cond (.t 35) c_hand_weave_b_p3 .skip)) c_hand_weave_b_p12)
abbrev c_hand_weave_b_p14 : VC := (.seq (.ops 0 [oo 30 (.ldA 10) [.t 2], oo 31 (.ldA 3) [.t 9], oo 32 (.call 71) [.t 30, .t 31], oo 10 .mv [.t 32]]) c_hand_weave_b_p13)
abbrev c_hand_weave_b_p15 : VC := (.ops 0 [oo 70 (.bin .add) [.t 26, kk 1], oo 26 .mv [.t 70]])
abbrev c_hand_weave_b_p16 : VC := (.seq (.block 1 (.seq (.ops 4 [oo 28 (.ixA 3) [.t 24, .t 26], oo 29 (.ldA 3) [.t 28], ⟨(some 9), none, (.alloc 47 [(.sl 0 [] .exact), (.sl 0 [] .exact), (.sl 0 [] .exact)]), [], none⟩, ⟨none, none, (.st 3), [.t 9, .t 29], none⟩]) c_hand_weave_b_p14)) c_hand_weave_b_p15)
abbrev c_hand_weave_b_p17 : VC := (.seq (.ops 0 [oo 27 (.bin .lss) [.t 26, .t 25]]) (.seq (.cond (.t 27) .skip (.exit 0)) c_hand_weave_b_p16))
@[go_sem] abbrev w_hand_weave_b_p17 : Nat := 2361183241434755509808
abbrev c_hand_weave_b_p19 : VC := (.seq (.ops 0 [oo 73 .mv [.t 7], oo 4 .mv [.t 73], oo 5 .mv [kk 0]]) .ret)
abbrev c_hand_weave_b_p20 : VC := (.seq (.ops 0 [oo 71 .mv [.t 7], oo 72 (.call 103) [.t 71]]) c_hand_weave_b_p19)
abbrev c_hand_weave_b_p21 : VC := (.seq (.seq (.ops 0 [oo 24 .mv [.t 1], oo 25 .len [.t 24], oo 26 .mv [kk 0]]) (.block 0 (.loop c_hand_weave_b_p17))) c_hand_weave_b_p20)
abbrev c_hand_weave_b_p22 : VC := (.seq (.ops 5 [oo 20 (.ldA 10) [.t 2], oo 21 .mv [.t 1], ⟨(some 22), none, (.build [(.sl 0 [] .exact), (.sl 0 [] .exact), (.sl 0 [] .exact), li 0, li 0, li 0, li 0, li 0, li 0, li 0, (.sl 0 [] .exact), (.sl 0 [] .exact), (.sl 0 [] .exact), (.sl 0 [] .exact)] [(0, 10), (10, 1)]), [.t 20, .t 21], none⟩, oo 23 (.box 123) [.t 22], oo 7 .mv [.t 23]]) c_hand_weave_b_p21)
abbrev c_hand_weave_b_p23 : VC := (.seq (.seq (.ops 0 [oo 14 (.ldA 10) [.t 2], oo 15 .mv [.t 1], oo 16 (.call 102) [.t 14, .t 15], oo 6 .mv [.t 16]]) c_hand_weave_b_p2) c_hand_weave_b_p22)
def c_hand_weave_b : VC := (.seq (.ops 3 [oo 2 (.box 25) [.t 0], oo 4 .mv [(.c (.lit (.pointer none)))], oo 5 .mv [kk 0]]) c_hand_weave_b_p23)
theorem k_hand_weave_b : Comp Try.prog (fun n => [57,1000057,67,1000067].contains n) gtab 69 74 c_hand_weave_b [.t 4, .t 5] := ⟨⟨Try.f69, _, Try.func69, rfl, rfl, kr, kr⟩⟩
abbrev c_hand_net_settle_p1 : VC := (.ops 0 [oo 46 .ld1 [.t 4], ⟨none, none, (.st 1), [.t 5, .t 46], none⟩])
abbrev c_hand_net_settle_p2 : VC := (.ops 17 [od 52 .ld1 [.t 1] [], oo 53 .nilck [.t 52], oo 54 (.fldA 13) [.t 53], od 55 .ld1 [.t 54] [0, 1, 2], od 56 .ld1 [.t 2] [], od 57 .ld1 [.t 1] [], oo 58 .nilck [.t 57], oo 59 (.fldA 13) [.t 58], od 60 .ld1 [.t 59] [5, 6, 7], od 61 .ld1 [.t 2] [], oo 62 (.ixA 1) [.t 60, .t 61], od 63 .ld1 [.t 62] [5, 6, 7, 8, 9, 10], od 64 .ld1 [.t 5] [], oo 65 (.mksl 1 1 [li 0] [(0, 1)]) [.t 64], od 66 (.app 3 1 8) [.t 63, .t 65] [5, 6, 7, 8, 9, 10, 11, 12, 13], oo 67 (.ixA 1) [.t 55, .t 56], ⟨none, none, (.st 1), [.t 67, .t 66], none⟩])
def c_hand_net_settle_p3 : VC := (.seq (.ops 0 [oo 47 .ld1 [.t 1], oo 48 .ld1 [.t 2], oo 49 .mv [.t 3], oo 50 (.mkfn 131) [.t 4, .t 1, .t 2, .t 5], oo 51 (.call 88) [.t 47, .t 48, .t 49, .t 50]]) c_hand_net_settle_p2)
abbrev c_hand_net_settle_p4 : VC := (.seq (.seq (.ops 0 [od 38 .ld1 [.t 2] [], od 39 .ld1 [.t 1] [], oo 40 .nilck [.t 39], oo 41 (.fldA 10) [.t 40], od 42 .ld1 [.t 41] [1, 2, 3], oo 43 .len [.t 42], oo 44 (.bin .sub) [.t 43, kk 1], oo 45 (.bin .eql) [.t 38, .t 44]]) (.cond (.t 45) c_hand_net_settle_p1 .skip)) c_hand_net_settle_p3)
abbrev c_hand_net_settle_p5 : VC := (.seq (.ops 2 [oo 5 (.alloc 3 [li 0]) [], ⟨none, none, (.st 1), [.t 5, kk (-1)], none⟩]) c_hand_net_settle_p4)
abbrev c_hand_net_settle_p6 : VC := (.ops 0 [oo 68 (.bin .add) [.t 33, kk 1], oo 33 .mv [.t 68]])
abbrev c_hand_net_settle_p7 : VC := (.seq (.block 3 (.seq (.ops 6 [oo 35 .mv [.t 33], oo 36 (.ixA 1) [.t 31, .t 33], oo 37 .ld1 [.t 36], oo 4 (.alloc 3 [li 0]) [], oo 3 .mv [.t 35], ⟨none, none, (.st 1), [.t 4, .t 37], none⟩]) c_hand_net_settle_p5)) c_hand_net_settle_p6)
abbrev c_hand_net_settle_p8 : VC := (.seq (.ops 0 [oo 34 (.bin .lss) [.t 33, .t 32]]) (.seq (.cond (.t 34) .skip (.exit 2)) c_hand_net_settle_p7))
@[go_sem] abbrev w_hand_net_settle_p8 : Nat := 590295810350115717176
abbrev c_hand_net_settle_p10 : VC := (.ops 2 [oo 2 (.alloc 3 [li 0]) [], ⟨none, none, (.st 1), [.t 2, .t 69], none⟩])
abbrev c_hand_net_settle_p11 : VC := (.ops 0 [oo 23 .ld1 [.t 2], oo 24 (.bin .sub) [.t 23, kk 1], ⟨none, none, (.st 1), [.t 2, .t 24], none⟩])
abbrev c_hand_net_settle_p12 : VC := (.seq (.seq (.ops 0 [oo 69 .ld1 [.t 2]]) c_hand_net_settle_p10) c_hand_net_settle_p11)
abbrev c_hand_net_settle_p13 : VC := (.seq (.block 1 (.seq (.ops 0 [od 25 .ld1 [.t 1] [], oo 26 .nilck [.t 25], oo 27 (.fldA 12) [.t 26], od 28 .ld1 [.t 27] [0, 1, 2], od 29 .ld1 [.t 2] [], oo 30 (.ixA 1) [.t 28, .t 29], oo 31 .ld1 [.t 30], oo 32 .len [.t 31], oo 33 .mv [kk 0]]) (.block 2 (.loop c_hand_net_settle_p8)))) c_hand_net_settle_p12)
abbrev c_hand_net_settle_p14 : VC := (.seq (.seq (.ops 0 [oo 21 .ld1 [.t 2], oo 22 (.bin .geq) [.t 21, kk 0]]) (.cond (.t 22) .skip (.exit 0))) c_hand_net_settle_p13)
@[go_sem] abbrev w_hand_net_settle_p14 : Nat := 1180591620717409206332
abbrev c_hand_net_settle_p16 : VC := (.seq (.ops 8 [oo 15 .ld1 [.t 1], oo 16 .nilck [.t 15], oo 17 (.fldA 10) [.t 16], oo 18 .ld1 [.t 17], oo 19 .len [.t 18], oo 20 (.bin .sub) [.t 19, kk 1], oo 2 (.alloc 3 [li 0]) [], ⟨none, none, (.st 1), [.t 2, .t 20], none⟩]) (.block 0 (.loop c_hand_net_settle_p14)))
abbrev c_hand_net_settle_p17 : VC := (.seq (.ops 10 [od 6 .ld1 [.t 1] [], od 7 .ld1 [.t 1] [], oo 8 .nilck [.t 7], oo 9 (.fldA 10) [.t 8], od 10 .ld1 [.t 9] [1, 2, 3], oo 11 .len [.t 10], ⟨(some 12), none, (.mk 22 1 24 [(.sl 0 [] .exact)]), [.t 11, .t 11], (some [1, 2, 3, 4, 5])⟩, oo 13 .nilck [.t 6], oo 14 (.fldA 13) [.t 13], ⟨none, none, (.st 1), [.t 14, .t 12], none⟩]) c_hand_net_settle_p16)
def c_hand_net_settle : VC := (.seq (.ops 1 [oo 1 (.box 104) [.t 0]]) c_hand_net_settle_p17)
theorem k_hand_net_settle : Comp Try.prog nobx gtab 103 70 c_hand_net_settle [] := ⟨⟨Try.f103, _, Try.func103, rfl, rfl, kr, kr⟩⟩
abbrev c_hand_net_settle_1_p1 : VC := (.ops 0 [oo 31 .mv [.t 8], ⟨none, none, (.st 1), [.t 5, .t 31], none⟩])
abbrev c_hand_net_settle_1_p2 : VC := (.seq (.ops 0 [oo 24 .ld1 [.t 5], oo 25 (.bin .eql) [.t 24, kk (-1)], oo 26 .mv [.t 25], og 27 26 false .mv [.t 8], og 28 26 false .ld1 [.t 5], og 29 26 false (.bin .lss) [.t 27, .t 28], oo 30 .pick [.t 26, (.c (.lit (.bool true))), .t 29]]) (.cond (.t 30) c_hand_net_settle_1_p1 .skip))
def c_hand_net_settle_1 : VC := (.seq (.ops 0 [od 9 .ld1 [.t 2] [], oo 10 .mv [.t 1], oo 11 (.bin .add) [.t 9, .t 10], od 12 .ld1 [.t 3] [], oo 13 .nilck [.t 12], oo 14 (.fldA 13) [.t 13], od 15 .ld1 [.t 14] [3, 4, 5], od 16 .ld1 [.t 4] [], oo 17 (.bin .add) [.t 16, kk 1], oo 18 (.ixA 1) [.t 15, .t 17], od 19 .ld1 [.t 18] [3, 4, 5, 6, 7, 8, 9], oo 20 .mv [.t 0], oo 21 (.ixA 1) [.t 19, .t 20], od 22 .ld1 [.t 21] [3, 4, 5, 6, 7, 8, 9, 10, 11, 12], oo 23 (.bin .add) [.t 11, .t 22], oo 8 .mv [.t 23]]) c_hand_net_settle_1_p2)
theorem k_hand_net_settle_1 : Comp Try.prog nobx gtab 131 32 c_hand_net_settle_1 [] := ⟨⟨Try.f131, _, Try.func131, rfl, rfl, kr, kr⟩⟩
abbrev c_hand_net_ways_p1 : VC := (.ops 0 [oo 45 .mv [.t 3], oo 46 .mv [.t 8], oo 47 .mv [.t 10], oo 48 .callv [.t 45, .t 46, .t 47]])
abbrev c_hand_net_ways_p2 : VC := (.seq (.ops 0 [oo 44 .mv [.t 11]]) (.cond (.t 44) c_hand_net_ways_p1 .skip))
abbrev c_hand_net_ways_p3 : VC := (.seq (.ops 0 [oo 37 .mv [.t 0], oo 38 .mv [.t 1], oo 39 .mv [.t 2], oo 40 .mv [.t 8], oo 41 (.call 94) [.t 37, .t 38, .t 39, .t 40], oo 36 .mv [.t 41], oo 42 (.ext 0) [.t 36], oo 43 (.ext 1) [.t 36], oo 10 .mv [.t 42], oo 11 .mv [.t 43]]) c_hand_net_ways_p2)
abbrev c_hand_net_ways_p4 : VC := (.seq (.seq (.ops 0 [oo 34 .mv [.t 9], oo 35 (.bin .eql) [.t 34, kk (-1)]]) (.cond (.t 35) (.exit 1) .skip)) c_hand_net_ways_p3)
abbrev c_hand_net_ways_p5 : VC := (.ops 0 [oo 49 (.bin .add) [.t 29, kk 1], oo 29 .mv [.t 49]])
abbrev c_hand_net_ways_p6 : VC := (.seq (.block 1 (.seq (.ops 0 [oo 31 .mv [.t 29], oo 32 (.ixA 1) [.t 27, .t 29], oo 33 .ld1 [.t 32], oo 8 .mv [.t 31], oo 9 .mv [.t 33]]) c_hand_net_ways_p4)) c_hand_net_ways_p5)
abbrev c_hand_net_ways_p7 : VC := (.seq (.ops 0 [oo 30 (.bin .lss) [.t 29, .t 28]]) (.seq (.cond (.t 30) .skip (.exit 0)) c_hand_net_ways_p6))
@[go_sem] abbrev w_hand_net_ways_p7 : Nat := 1125899369975552
abbrev c_hand_net_ways_p9 : VC := (.seq (.ops 0 [oo 20 .mv [.t 0], oo 21 .nilck [.t 20], oo 22 (.fldA 13) [.t 21], oo 23 .ld1 [.t 22], oo 24 .mv [.t 1], oo 25 (.bin .add) [.t 24, kk 1], oo 26 (.ixA 1) [.t 23, .t 25], oo 27 .ld1 [.t 26], oo 28 .len [.t 27], oo 29 .mv [kk 0]]) (.block 0 (.loop c_hand_net_ways_p7)))
def c_hand_net_ways : VC := (.seq (.seq (.ops 0 [oo 12 .mv [.t 1], oo 13 .mv [.t 0], oo 14 .nilck [.t 13], oo 15 (.fldA 10) [.t 14], oo 16 .ld1 [.t 15], oo 17 .len [.t 16], oo 18 (.bin .sub) [.t 17, kk 1], oo 19 (.bin .eql) [.t 12, .t 18]]) (.cond (.t 19) .ret .skip)) c_hand_net_ways_p9)
theorem k_hand_net_ways : Comp Try.prog nobx gtab 88 50 c_hand_net_ways [] := ⟨⟨Try.f88, _, Try.func88, rfl, rfl, kr, kr⟩⟩
abbrev c_hand_net_step_p1 : VC := (.seq (.ops 0 [oo 10 .mv [.t 0], oo 11 .nilck [.t 10], oo 12 (.fldA 0) [.t 11], od 13 (.ldA 10) [.t 12] [0, 1, 2], oo 14 .mv [.t 0], oo 15 .nilck [.t 14], oo 16 (.fldA 10) [.t 15], od 17 .ld1 [.t 16] [4, 5, 6], oo 18 .mv [.t 1], oo 19 (.ixA 3) [.t 17, .t 18], od 20 (.ldA 3) [.t 19] [4, 5, 6, 7, 8, 9], oo 21 .mv [.t 0], oo 22 .nilck [.t 21], oo 23 (.fldA 11) [.t 22], od 24 .ld1 [.t 23] [11, 12, 13], oo 25 .mv [.t 1], oo 26 (.ixA 1) [.t 24, .t 25], od 27 .ld1 [.t 26] [11, 12, 13, 14, 15, 16], oo 28 .mv [.t 2], oo 29 (.ixA 2) [.t 27, .t 28], od 30 (.ldA 2) [.t 29] [11, 12, 13, 14, 15, 16, 17, 18, 19], oo 31 .mv [.t 0], oo 32 .nilck [.t 31], oo 33 (.fldA 10) [.t 32], od 34 .ld1 [.t 33] [21, 22, 23], oo 35 .mv [.t 1], oo 36 (.bin .add) [.t 35, kk 1], oo 37 (.ixA 3) [.t 34, .t 36], od 38 (.ldA 3) [.t 37] [21, 22, 23, 24, 25, 26, 27], oo 39 .mv [.t 0], oo 40 .nilck [.t 39], oo 41 (.fldA 11) [.t 40], od 42 .ld1 [.t 41] [29, 30, 31], oo 43 .mv [.t 1], oo 44 (.bin .add) [.t 43, kk 1], oo 45 (.ixA 1) [.t 42, .t 44], od 46 .ld1 [.t 45] [29, 30, 31, 32, 33, 34, 35], oo 47 .mv [.t 3], oo 48 (.ixA 2) [.t 46, .t 47], od 49 (.ldA 2) [.t 48] [29, 30, 31, 32, 33, 34, 35, 36, 37, 38], oo 50 (.call 83) [.t 13, .t 20, .t 30, .t 38, .t 49], oo 51 (.ext 0) [.t 50], oo 52 (.ext 1) [.t 50], oo 8 .mv [.t 51], oo 9 .mv [.t 52]]) .ret)
def c_hand_net_step : VC := (.seq (.ops 0 [oo 8 .mv [kk 0], oo 9 .mv [(.c (.lit (.bool false)))]]) c_hand_net_step_p1)
theorem k_hand_net_step : Comp Try.prog nobx gtab 94 53 c_hand_net_step [.t 8, .t 9] := ⟨⟨Try.f94, _, Try.func94, rfl, rfl, kr, kr⟩⟩
end Go.Proofs.Ytojjdkoglhecbaa
namespace Go.Proofs.Ytojjdkoglhecbaa
open Go.RowKit
set_option maxRecDepth 100000

abbrev c_theorbolaw06_Heavy_p1 : VC := (.seq (.ops 0 [oo 4 .mv [(.c (.lit (.bool false)))]]) .ret)
abbrev c_theorbolaw06_Heavy_p2 : VC := (.seq (.ops 0 [oo 4 .mv [(.c (.lit (.bool true)))]]) .ret)
abbrev c_theorbolaw06_Heavy_p3 : VC := (.seq (.ops 0 [oo 4 .mv [(.c (.lit (.bool false)))]]) .ret)
abbrev c_theorbolaw06_Heavy_p4 : VC := (.ops 0 [oo 44 .mv [.t 8], oo 45 .len [.t 44], oo 6 .mv [.t 45]])
abbrev c_theorbolaw06_Heavy_p5 : VC := (.seq (.ops 0 [oo 38 .mv [.t 5], oo 39 .mv [.t 6], oo 40 .mv [.t 8], oo 41 .len [.t 40], oo 42 (.bin .mul) [.t 39, .t 41], oo 43 (.bin .add) [.t 38, .t 42], oo 5 .mv [.t 43]]) c_theorbolaw06_Heavy_p4)
abbrev c_theorbolaw06_Heavy_p6 : VC := (.seq (.seq (.ops 0 [oo 36 .mv [.t 9], oo 37 (.bin .neq) [.t 36, kk 0]]) (.cond (.t 37) c_theorbolaw06_Heavy_p3 .skip)) c_theorbolaw06_Heavy_p5)
abbrev c_theorbolaw06_Heavy_p7 : VC := (.ops 0 [oo 25 .mv [.t 7], oo 26 (.bin .add) [.t 25, kk 1], oo 7 .mv [.t 26]])
abbrev c_theorbolaw06_Heavy_p8 : VC := (.seq (.block 1 (.seq (.ops 0 [od 28 (.ldA 10) [.t 2] [], oo 29 .mv [.t 1], oo 30 .mv [.t 7], oo 31 (.ixA 3) [.t 29, .t 30], od 32 (.ldA 3) [.t 31] [1, 2, 3], oo 33 (.call 33) [.t 28, .t 32], oo 27 .mv [.t 33], oo 34 (.ext 0) [.t 27], oo 35 (.ext 1) [.t 27], oo 8 .mv [.t 34], oo 9 .mv [.t 35]]) c_theorbolaw06_Heavy_p6)) c_theorbolaw06_Heavy_p7)
abbrev c_theorbolaw06_Heavy_p9 : VC := (.seq (.seq (.ops 0 [oo 21 .mv [.t 7], oo 22 .mv [.t 1], oo 23 .len [.t 22], oo 24 (.bin .lss) [.t 21, .t 23]]) (.cond (.t 24) .skip (.exit 0))) c_theorbolaw06_Heavy_p8)
@[go_sem] abbrev w_theorbolaw06_Heavy_p9 : Nat := 70368742081520
abbrev c_theorbolaw06_Heavy_p11 : VC := (.seq (.ops 0 [oo 46 .mv [.t 5], oo 47 (.bin .gtr) [.t 46, kk 6000], oo 4 .mv [.t 47]]) .ret)
abbrev c_theorbolaw06_Heavy_p12 : VC := (.seq (.seq (.ops 0 [oo 7 .mv [kk 0]]) (.block 0 (.loop c_theorbolaw06_Heavy_p9))) c_theorbolaw06_Heavy_p11)
abbrev c_theorbolaw06_Heavy_p13 : VC := (.seq (.ops 0 [oo 5 .mv [kk 0], oo 6 .mv [kk 0]]) c_theorbolaw06_Heavy_p12)
abbrev c_theorbolaw06_Heavy_p14 : VC := (.seq (.seq (.ops 0 [oo 18 .mv [.t 1], oo 19 .len [.t 18], oo 20 (.bin .gtr) [.t 19, kk 24]]) (.cond (.t 20) c_theorbolaw06_Heavy_p2 .skip)) c_theorbolaw06_Heavy_p13)
abbrev c_theorbolaw06_Heavy_p15 : VC := (.seq (.seq (.ops 0 [oo 10 (.ldA 10) [.t 2], oo 11 (.call 25) [.t 10], oo 12 (.bin .neq) [.t 11, kk 0], oo 13 .mv [.t 12], og 14 13 false .mv [.t 1], og 15 13 false (.call 27) [.t 14], og 16 13 false (.bin .neq) [.t 15, kk 0], oo 17 .pick [.t 13, (.c (.lit (.bool true))), .t 16]]) (.cond (.t 17) c_theorbolaw06_Heavy_p1 .skip)) c_theorbolaw06_Heavy_p14)
def c_theorbolaw06_Heavy : VC := (.seq (.ops 2 [oo 2 (.box 25) [.t 0], oo 4 .mv [(.c (.lit (.bool false)))]]) c_theorbolaw06_Heavy_p15)
theorem k_theorbolaw06_Heavy : Comp Try.prog nobx gtab 29 48 c_theorbolaw06_Heavy [.t 4] := ⟨⟨Try.f29, _, Try.func29, rfl, rfl, kr, kr⟩⟩
end Go.Proofs.Ytojjdkoglhecbaa
