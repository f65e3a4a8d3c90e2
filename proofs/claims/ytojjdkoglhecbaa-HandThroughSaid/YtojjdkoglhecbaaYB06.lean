/- More arguments read: grips and two chords with two grips. Functions of the program, as code on values by numbers: printed by a program from the program that was given, and held against it here. What each chord of a fingering costs: definitions, on values. The error of a hand and a sequence, program and reference, on values. What each chord of a fingering costs: the reference, on values. What each chord of a fingering costs: the program, on values. What a fingering costs, and which chord costs most: program and reference, on values. The law HandValid, on values. More arguments read: searches, grips, lists of numbers. Heaps, in plain terms: ways in their order; one goes up, one goes down. Nothing is run here. Lists that are merged, in plain terms: the costs of each list ascend; what comes next is the least of their heads, of equal ones that of the first list. Nothing is run here. The reference's first, run: lists of tails are merged. The reference's search, run: the list of the tails of a grip by way of another. -/
import Derived.Test.YtojjdkoglhecbaaG0
import Derived.Test.YtojjdkoglhecbaaWk
import Derived.Test.YtojjdkoglhecbaaYB03
import Derived.Test.YtojjdkoglhecbaaYB04
import Derived.Test.YtojjdkoglhecbaaXw
set_option linter.unusedSimpArgs false
set_option linter.unusedVariables false
namespace Go.Proofs.Ytojjdkoglhecbaa
open Go.ChangeShapes Go.WideShapes Go.ChangeAt Go.RowKit
set_option maxRecDepth 100000

def tyGrip : Ty := .st [.int, .sl .int 8]
theorem dt_grip {d : Dt} (h : d.ok tyGrip) : ∃ g : Grip, d.cells = g.cells ∧ g.fingers.length ≤ 17592186044416 := by
  obtain ⟨l, _, h1, hc, _⟩ := ok_st h
  obtain ⟨d1, r1, rfl, k1, h2, e1⟩ := oks_cons h1
  obtain ⟨d2, r2, rfl, k2, h3, e2⟩ := oks_cons h2
  obtain ⟨a, ea, _⟩ := dt_int k1
  obtain ⟨b, eb, rb, _⟩ := dt_ints k2
  exact ⟨⟨a, b⟩, by rw [hc, e1, e2, oks_nil h3, ea, eb]; rfl, by show b.length ≤ _; omega⟩
theorem dt_gripV {d : Dt} (h : d.ok tyGrip) : ∃ g : Grip, d.val = g.val ∧ g.fingers.length ≤ 17592186044416 := by
  obtain ⟨c, h1, h2⟩ := dt_grip h
  obtain ⟨l, _, _, hc, hv⟩ := ok_st h
  exact ⟨c, by rw [hv, ← hc, h1]; rfl, h2⟩
theorem ty_grip : tyOf Try.prog 10 53 = some tyGrip := by kernel_rfl
end Go.Proofs.Ytojjdkoglhecbaa
namespace Go.Proofs.Ytojjdkoglhecbaa
open Go.RowKit
set_option maxRecDepth 100000

abbrev c_hand_check_p1 : VC := (.seq (.ops 0 [oo 10 .mv [.t 5], oo 4 .mv [.t 10]]) .ret)
abbrev c_hand_check_p2 : VC := (.seq (.ops 0 [oo 8 .mv [.t 5], oo 9 (.bin .neq) [.t 8, kk 0]]) (.cond (.t 9) c_hand_check_p1 .skip))
abbrev c_hand_check_p3 : VC := (.seq (.ops 0 [oo 11 .mv [.t 1], oo 12 (.call 26) [.t 11], oo 4 .mv [.t 12]]) .ret)
abbrev c_hand_check_p4 : VC := (.seq (.seq (.ops 0 [oo 6 (.ldA 10) [.t 2], oo 7 (.call 24) [.t 6], oo 5 .mv [.t 7]]) c_hand_check_p2) c_hand_check_p3)
def c_hand_check : VC := (.seq (.ops 2 [oo 2 (.box 25) [.t 0], oo 4 .mv [kk 0]]) c_hand_check_p4)
theorem k_hand_check : Comp Try.prog nobx gtab 102 13 c_hand_check [.t 4] := ⟨⟨Try.f102, _, Try.func102, rfl, rfl, kr, kr⟩⟩
abbrev c_theorboref06_both_p1 : VC := (.seq (.ops 0 [oo 10 .mv [.t 5], oo 4 .mv [.t 10]]) .ret)
abbrev c_theorboref06_both_p2 : VC := (.seq (.ops 0 [oo 8 .mv [.t 5], oo 9 (.bin .neq) [.t 8, kk 0]]) (.cond (.t 9) c_theorboref06_both_p1 .skip))
abbrev c_theorboref06_both_p3 : VC := (.seq (.ops 0 [oo 11 .mv [.t 1], oo 12 (.call 27) [.t 11], oo 4 .mv [.t 12]]) .ret)
abbrev c_theorboref06_both_p4 : VC := (.seq (.seq (.ops 0 [oo 6 (.ldA 10) [.t 2], oo 7 (.call 25) [.t 6], oo 5 .mv [.t 7]]) c_theorboref06_both_p2) c_theorboref06_both_p3)
def c_theorboref06_both : VC := (.seq (.ops 2 [oo 2 (.box 25) [.t 0], oo 4 .mv [kk 0]]) c_theorboref06_both_p4)
theorem k_theorboref06_both : Comp Try.prog nobx gtab 113 13 c_theorboref06_both [.t 4] := ⟨⟨Try.f113, _, Try.func113, rfl, rfl, kr, kr⟩⟩
end Go.Proofs.Ytojjdkoglhecbaa
namespace Go.Proofs.Ytojjdkoglhecbaa
open Go.RowKit
set_option linter.unusedSimpArgs false
set_option linter.unusedVariables false

/-- No grip. -/
def noG : Grip := ⟨0, []⟩
/-- A list of grips. -/
def tGs (l : List Grip) : V := .sl l.length (l.flatMap Grip.cells) .no
theorem pure_tGs (l : List Grip) : (tGs l).pure = true := by rw [tGs, V.pure]; intro t h; cases h
theorem gs_l (x : Grip) : x.cells.length = 2 := rfl
theorem gs_len (l : List Grip) : (l.flatMap Grip.cells).length = l.length * 2 := flat_len gs_l l
theorem gs_take {l : List Grip} {k : Nat} (h : k < l.length) : ((l.flatMap Grip.cells).drop (k * 2)).take 2 = [vint (l.getD k noG).pos, tIs (l.getD k noG).fingers] := flat_take gs_l noG h
/-- The lengths fit. -/
def FitsG (l : List Grip) : Prop := l.length ≤ 17592186044416 ∧ ∀ g ∈ l, g.fingers.length ≤ 17592186044416
theorem FitsG.at {l : List Grip} (h : FitsG l) (k : Nat) : (l.getD k noG).fingers.length ≤ 17592186044416 := by
  rw [List.getD_eq_getElem?_getD]
  rcases Nat.lt_or_ge k l.length with hk | hk
  · rw [List.getElem?_eq_getElem hk]; exact h.2 _ (List.getElem_mem hk)
  · rw [List.getElem?_eq_none hk]; decide
end Go.Proofs.Ytojjdkoglhecbaa
namespace Go.Proofs.Ytojjdkoglhecbaa
open Go.RowKit
set_option linter.unusedSimpArgs false
set_option linter.unusedVariables false

/-- The error of a hand and a sequence. -/
noncomputable def bothE (h : Hand) (l : List Chord) : Int := if chkE h = 0 then seqE l else 60
theorem bothck_fn (h : Hand) (l : List Chord) (hl : Fits l) : Fn Try.prog Gd 102 [h.val, tCs l] (vint (bothE h l)) := by
  refine Fn.of_vx0 k_hand_check (by simp) (by rw [V.pures, pure_hand, V.pures, pure_tCs]; rfl) ?_
  have C1 := check_fn h
  have C2 := checkchords_fn l hl
  unfold bothE
  generalize seqE l = se at C2
  unfold tCs at C2
  unfold Hand.val at C1
  unfold c_hand_check Hand.val tCs
  by_cases he : chkE h = 0
  · rw [if_pos he]
    rw [he] at C1
    clear he
    repeat' (with_reducible first | refine x_ops ?_ | refine wk ?_ | (with_reducible refine xc (C1) ?_) | (with_reducible refine xc (C2) ?_) | ((first | refine gd1 ?_ ?_ | refine gd2 ?_ ?_ | refine gd3 ?_ ?_) <;> (first | exact @False.elim _ | intro hc)))
    all_goals exact finV_lit vv rfl
  · rw [if_neg he]
    rw [chk_bad he] at C1
    clear he
    repeat' (with_reducible first | refine x_ops ?_ | refine wk ?_ | (with_reducible refine xc (C1) ?_) | (with_reducible refine xc (C2) ?_) | ((first | refine gd1 ?_ ?_ | refine gd2 ?_ ?_ | refine gd3 ?_ ?_) <;> (first | exact @False.elim _ | intro hc)))
    all_goals exact finV_lit vv rfl
theorem rbothck_fn (h : Hand) (l : List Chord) (hl : Fits l) : Fn Try.prog Gd 113 [h.val, tCs l] (vint (bothE h l)) := by
  refine Fn.of_vx0 k_theorboref06_both (by simp) (by rw [V.pures, pure_hand, V.pures, pure_tCs]; rfl) ?_
  have C1 := rcheck_fn h
  have C2 := rcheckchords_fn l hl
  unfold bothE
  generalize seqE l = se at C2
  unfold tCs at C2
  unfold Hand.val at C1
  unfold c_theorboref06_both Hand.val tCs
  by_cases he : chkE h = 0
  · rw [if_pos he]
    rw [he] at C1
    clear he
    repeat' (with_reducible first | refine x_ops ?_ | refine wk ?_ | (with_reducible refine xc (C1) ?_) | (with_reducible refine xc (C2) ?_) | ((first | refine gd1 ?_ ?_ | refine gd2 ?_ ?_ | refine gd3 ?_ ?_) <;> (first | exact @False.elim _ | intro hc)))
    all_goals exact finV_lit vv rfl
  · rw [if_neg he]
    rw [chk_bad he] at C1
    clear he
    repeat' (with_reducible first | refine x_ops ?_ | refine wk ?_ | (with_reducible refine xc (C1) ?_) | (with_reducible refine xc (C2) ?_) | ((first | refine gd1 ?_ ?_ | refine gd2 ?_ ?_ | refine gd3 ?_ ?_) <;> (first | exact @False.elim _ | intro hc)))
    all_goals exact finV_lit vv rfl
end Go.Proofs.Ytojjdkoglhecbaa
namespace Go.Proofs.Ytojjdkoglhecbaa
open Go.RowKit
set_option linter.unusedSimpArgs false
set_option linter.unusedVariables false

theorem stepC_bound {h : Hand} (hk : HandOk h) {a b : Chord} {g k : Grip} (pg : 1 ≤ g.pos ∧ g.pos ≤ 18) (pk : 1 ≤ k.pos ∧ k.pos ≤ 18) : 0 ≤ stepC h a g b k ∧ stepC h a g b k ≤ 105000 := by
  have n4 := hk.n4
  have hm := mul_bound hk.shift (b := dist g.pos k.pos) ⟨dist_le, dist_bound (by omega) (by omega)⟩
  have hl := hk.lift
  have hu := slU_bound hk (a := a) (b := b) (g := g) (k := k) (f := h.low.length)
  rw [stepC]
  split <;> split <;> omega
theorem both_ok {h : Hand} {l : List Chord} (hb : bothE h l = 0) : HandOk h ∧ l.length ≤ 400 ∧ SeqOk l := by
  rw [bothE] at hb
  split at hb
  · rename_i he
    refine ⟨chk_ok he, ?_⟩
    rw [seqE] at hb
    split at hb
    · cases hb
    · split at hb
      · rename_i h1 h2
        exact ⟨by omega, by simpa using h2⟩
      · cases hb
  · cases hb
end Go.Proofs.Ytojjdkoglhecbaa
namespace Go.Proofs.Ytojjdkoglhecbaa
open Go.RowKit
set_option linter.unusedSimpArgs false
set_option linter.unusedVariables false

end Go.Proofs.Ytojjdkoglhecbaa
namespace Go.Proofs.Ytojjdkoglhecbaa
open Go.RowKit
set_option linter.unusedSimpArgs false
set_option linter.unusedVariables false

end Go.Proofs.Ytojjdkoglhecbaa
namespace Go.Proofs.Ytojjdkoglhecbaa
open Go.RowKit
set_option linter.unusedSimpArgs false
set_option linter.unusedVariables false

end Go.Proofs.Ytojjdkoglhecbaa
namespace Go.Proofs.Ytojjdkoglhecbaa
open Go.RowKit
set_option linter.unusedSimpArgs false
set_option linter.unusedVariables false

/-- A search: a hand and a sequence. -/
def srV (h : Hand) (l : List Chord) : V := .agg [tIs h.low, tIs h.high, tBs h.barre, vint h.top, vint h.jump, vint h.shift, vint h.lift, vint h.bar, vint h.stretch, vint h.slide, tCs l]
theorem pure_sr (h : Hand) (l : List Chord) : (srV h l).pure = true := by
  rw [srV, V.pure]
  simp only [V.pures, pure_tIs, pure_tBs, pure_tCs, vint, V.pure, Bool.and_self]
end Go.Proofs.Ytojjdkoglhecbaa
namespace Go.Proofs.Ytojjdkoglhecbaa
open Go.ChangeShapes Go.WideShapes Go.ChangeAt Go.RowKit
set_option maxRecDepth 100000

def tySearch : Ty := .st [tyHand, .sl tyChord 72]
theorem dt_handC {d : Dt} (h : d.ok tyHand) : ∃ x : Hand, d.cells = [tIs x.low, tIs x.high, tBs x.barre, vint x.top, vint x.jump, vint x.shift, vint x.lift, vint x.bar, vint x.stretch, vint x.slide] := by
  obtain ⟨x, hx⟩ := dt_hand h
  obtain ⟨l, _, _, hc, hv⟩ := ok_st h
  rw [hv, Hand.val] at hx
  injection hx with hx
  exact ⟨x, by rw [hc, hx]⟩
theorem dt_chordsC {b : Nat} {d : Dt} (hb : 8 ≤ b) (h : d.ok (.sl tyChord b)) : ∃ l : List Chord, d.cells = [tCs l] ∧ Fits l := by
  obtain ⟨l, h1, h2⟩ := dt_chords hb h
  exact ⟨l, by rw [dt_one h, h1], h2⟩
theorem dt_searchV {d : Dt} (h : d.ok tySearch) : ∃ x : Hand × List Chord, d.val = srV x.1 x.2 ∧ Fits x.2 := by
  obtain ⟨l, _, h1, _, hv⟩ := ok_st h
  obtain ⟨d1, r1, rfl, k1, h2, e1⟩ := oks_cons h1
  obtain ⟨d2, r2, rfl, k2, h3, e2⟩ := oks_cons h2
  obtain ⟨a, ea⟩ := dt_handC k1
  obtain ⟨b, eb, fb⟩ := dt_chordsC (by decide) k2
  exact ⟨(a, b), by rw [hv, e1, e2, oks_nil h3, ea, eb]; rfl, fb⟩
theorem dt_intV {d : Dt} (h : d.ok .int) : ∃ n : Int, d.val = vint n ∧ -9223372036854775808 ≤ n ∧ n ≤ 9223372036854775807 := by
  cases d <;> first | (rw [Dt.ok] at h; exact ⟨_, by rw [Dt.val], h⟩) | (simp [Dt.ok] at h)
theorem ty_int : tyOf Try.prog 10 3 = some .int := by kernel_rfl
theorem ty_search : tyOf Try.prog 10 35 = some tySearch := by kernel_rfl
end Go.Proofs.Ytojjdkoglhecbaa
namespace Go.Proofs.Ytojjdkoglhecbaa
open Go.RowKit
set_option linter.unusedSimpArgs false
set_option linter.unusedVariables false

/-- A way: its cost, the next grip, the rank. -/
abbrev Way := Int × Int × Int
def wyE (w : Way) : List V := [vint w.1, vint w.2.1, vint w.2.2]
theorem wy_l (w : Way) : (wyE w).length = 3 := rfl
def noW : Way := (0, 0, 0)
/-- One comes before another. -/
def befW (a b : Way) : Bool := if a.1 = b.1 then decide (a.2.1 < b.2.1) else decide (a.1 < b.1)
theorem befW_irr (a : Way) : befW a a = false := by simp [befW]
theorem befW_tr {a b c : Way} (h1 : befW a b = false) (h2 : befW b c = false) : befW a c = false := by
  unfold befW at *
  split at h1 <;> split at h2 <;> split <;> simp only [decide_eq_false_iff_not] at * <;> omega
theorem befW_as {a b : Way} (h : befW a b = true) : befW b a = false := by
  unfold befW at *
  split at h <;> split <;> simp only [decide_eq_true_eq, decide_eq_false_iff_not] at * <;> omega

/-- A heap. -/
def HpOk (H : List Way) : Prop := ∀ j, 0 < j → j < H.length → befW (H.getD j noW) (H.getD ((j - 1) / 2) noW) = false
theorem hp_min {H : List Way} (h : HpOk H) : ∀ (j : Nat), j < H.length → befW (H.getD j noW) (H.getD 0 noW) = false := by
  intro j
  induction j using Nat.strongRecOn with
  | ind j ih =>
    intro hj
    by_cases h0 : j = 0
    · subst h0; exact befW_irr _
    · exact befW_tr (h j (by omega) hj) (ih ((j - 1) / 2) (by omega) (by omega))
/-- Two change places. -/
def swW (H : List Way) (i p : Nat) : List Way := (H.set i (H.getD p noW)).set p (H.getD i noW)
theorem swW_len (H : List Way) (i p : Nat) : (swW H i p).length = H.length := by simp [swW]
theorem getD_setW {L : List Way} {i y : Nat} {v : Way} : (L.set i v).getD y noW = if i = y ∧ i < L.length then v else L.getD y noW := by
  rw [List.getD_eq_getElem?_getD, List.getElem?_set]
  by_cases e : i = y
  · subst e
    by_cases h : i < L.length
    · simp [h]
    · simp [h, List.getD_eq_getElem?_getD, List.getElem?_eq_none (Nat.le_of_not_lt h)]
  · simp [e, List.getD_eq_getElem?_getD]
theorem swW_at {H : List Way} {i p : Nat} (hi : i < H.length) (hp : p < H.length) (y : Nat) : (swW H i p).getD y noW = if y = p then H.getD i noW else if y = i then H.getD p noW else H.getD y noW := by
  rw [swW, getD_setW, getD_setW, List.length_set]
  by_cases e1 : y = p
  · subst e1; rw [if_pos ⟨rfl, hp⟩, if_pos rfl]
  · rw [if_neg (fun h => e1 h.1.symm), if_neg e1]
    by_cases e2 : y = i
    · subst e2; rw [if_pos ⟨rfl, hi⟩, if_pos rfl]
    · rw [if_neg (fun h => e2 h.1.symm), if_neg e2]
theorem swW_perm {H : List Way} {i p : Nat} (hi : i < H.length) (hp : p < H.length) : (swW H i p).Perm H := by
  rw [swW, List.getD_eq_getElem?_getD, List.getD_eq_getElem?_getD, List.getElem?_eq_getElem hi, List.getElem?_eq_getElem hp]
  exact List.set_set_perm hi hp

/-- A heap but for the place i, which may go up. -/
structure UpOk (H : List Way) (i : Nat) : Prop where
  lt : i < H.length
  oth : ∀ j, 0 < j → j < H.length → j ≠ i → befW (H.getD j noW) (H.getD ((j - 1) / 2) noW) = false
  kid : 0 < i → ∀ j, 0 < j → j < H.length → (j - 1) / 2 = i → befW (H.getD j noW) (H.getD ((i - 1) / 2) noW) = false
theorem up_end {H : List Way} {i : Nat} (h : UpOk H i) (he : i = 0 ∨ befW (H.getD i noW) (H.getD ((i - 1) / 2) noW) = false) : HpOk H := by
  intro j h0 hj
  by_cases e : j = i
  · subst e
    rcases he with he | he
    · omega
    · exact he
  · exact h.oth j h0 hj e
theorem up_step {H : List Way} {i : Nat} (h : UpOk H i) (h0 : 0 < i) (hb : befW (H.getD i noW) (H.getD ((i - 1) / 2) noW) = true) : UpOk (swW H i ((i - 1) / 2)) ((i - 1) / 2) := by
  have hi := h.lt
  have hp : (i - 1) / 2 < H.length := by omega
  have at_ := swW_at hi hp
  have hpi : (i - 1) / 2 < i := by omega
  generalize hpe : (i - 1) / 2 = p at *
  refine ⟨by rw [swW_len]; exact hp, fun j j0 hj hjp => ?_, fun p0 j j0 hj hjp => ?_⟩
  · rw [swW_len] at hj
    rw [at_ j, if_neg hjp, at_ ((j - 1) / 2)]
    by_cases hji : j = i
    · subst hji
      rw [if_pos rfl, hpe, if_pos rfl]
      exact befW_as hb
    · rw [if_neg hji]
      by_cases e1 : (j - 1) / 2 = p
      · rw [if_pos e1]
        have := h.oth j j0 hj hji
        rw [e1] at this
        exact befW_tr this (befW_as hb)
      · rw [if_neg e1]
        by_cases e2 : (j - 1) / 2 = i
        · rw [if_pos e2]; have := h.kid h0 j j0 hj e2; rwa [hpe] at this
        · rw [if_neg e2]; exact h.oth j j0 hj hji
  · rw [swW_len] at hj
    have hpp : (p - 1) / 2 < p := by omega
    rw [at_ ((p - 1) / 2), if_neg (by omega), if_neg (by omega), at_ j, if_neg (by omega)]
    have hpar := h.oth p p0 hp (by omega)
    by_cases hji : j = i
    · rw [if_pos hji]; exact hpar
    · rw [if_neg hji]
      have := h.oth j j0 hj hji
      rw [hjp] at this
      exact befW_tr this hpar

/-- A heap but for the place i, which may go down. -/
structure DnOk (H : List Way) (i : Nat) : Prop where
  oth : ∀ j, 0 < j → j < H.length → (j - 1) / 2 ≠ i → befW (H.getD j noW) (H.getD ((j - 1) / 2) noW) = false
  kid : 0 < i → ∀ j, 0 < j → j < H.length → (j - 1) / 2 = i → befW (H.getD j noW) (H.getD ((i - 1) / 2) noW) = false
theorem dn_end {H : List Way} {i : Nat} (h : DnOk H i) (he : ∀ c, (c = 2 * i + 1 ∨ c = 2 * i + 2) → c < H.length → befW (H.getD c noW) (H.getD i noW) = false) : HpOk H := by
  intro j h0 hj
  by_cases e : (j - 1) / 2 = i
  · rw [e]; exact he j (by omega) hj
  · exact h.oth j h0 hj e
/-- The least of a place and its children goes up. -/
theorem dn_step {H : List Way} {i c : Nat} (h : DnOk H i) (hi : i < H.length) (hc : c = 2 * i + 1 ∨ c = 2 * i + 2) (hcl : c < H.length) (hb : befW (H.getD i noW) (H.getD c noW) = false)
    (hmin : ∀ d, (d = 2 * i + 1 ∨ d = 2 * i + 2) → d < H.length → befW (H.getD d noW) (H.getD c noW) = false) : DnOk (swW H i c) c := by
  have at_ := swW_at hi hcl
  have hpc : (c - 1) / 2 = i := by omega
  refine ⟨fun j j0 hj hjp => ?_, fun c0 j j0 hj hjp => ?_⟩
  · rw [swW_len] at hj
    rw [at_ j, at_ ((j - 1) / 2), if_neg hjp]
    by_cases e1 : j = c
    · subst e1
      rw [if_pos rfl, hpc, if_pos rfl]; exact hb
    · rw [if_neg e1]
      by_cases e2 : j = i
      · subst e2
        have e3 : (j - 1) / 2 ≠ j := by omega
        rw [if_pos rfl, if_neg e3]
        exact h.kid j0 c (by omega) hcl hpc
      · rw [if_neg e2]
        by_cases e3 : (j - 1) / 2 = i
        · rw [if_pos e3]; exact hmin j (by omega) hj
        · rw [if_neg e3]; exact h.oth j j0 hj e3
  · rw [swW_len] at hj
    rw [hpc, at_ i, if_neg (by omega), if_pos rfl, at_ j, if_neg (by omega), if_neg (by omega)]
    have := h.oth j j0 hj (by omega)
    rwa [hjp] at this
end Go.Proofs.Ytojjdkoglhecbaa
namespace Go.Proofs.Ytojjdkoglhecbaa
open Go.RowKit

/-- One comes before another, or is it: by cost, then by list, then by rank. -/
def lexW (a b : Way) : Bool := if a.1 = b.1 then (if a.2.1 = b.2.1 then decide (a.2.2 ≤ b.2.2) else decide (a.2.1 < b.2.1)) else decide (a.1 < b.1)
theorem lexW_iff {a b : Way} : lexW a b = true ↔ a.1 < b.1 ∨ a.1 = b.1 ∧ (a.2.1 < b.2.1 ∨ a.2.1 = b.2.1 ∧ a.2.2 ≤ b.2.2) := by
  unfold lexW
  split
  · split <;> simp only [decide_eq_true_eq] <;> omega
  · simp only [decide_eq_true_eq]; omega
theorem lexW_total (a b : Way) : (lexW a b || lexW b a) = true := by
  rw [Bool.or_eq_true, lexW_iff, lexW_iff]; omega
theorem lexW_trans (a b c : Way) (h1 : lexW a b = true) (h2 : lexW b c = true) : lexW a c = true := by
  rw [lexW_iff] at *; omega
theorem befW_le {a b : Way} (h : befW a b = false) : b.1 ≤ a.1 := by
  unfold befW at h
  split at h <;> simp only [decide_eq_false_iff_not] at h <;> omega
/-- A list with its numbers. -/
def numW (c : List Int) (m : Nat) : List Way := (List.range c.length).map fun r => (c.getD r 0, (m : Int), (r : Int))
def allW (n : Nat) (c : Nat → List Int) : List Way := (List.range n).flatMap fun m => numW (c m) m
/-- Lists, merged. -/
def mrg (n : Nat) (c : Nat → List Int) : List Way := (allW n c).mergeSort lexW
def Asc (c : List Int) : Prop := ∀ i j, i ≤ j → j < c.length → c.getD i 0 ≤ c.getD j 0
section
variable {n : Nat} {c : Nat → List Int}
theorem mem_all {w : Way} : w ∈ allW n c ↔ ∃ m r, m < n ∧ r < (c m).length ∧ w = ((c m).getD r 0, (m : Int), (r : Int)) := by
  unfold allW numW
  simp only [List.mem_flatMap, List.mem_range, List.mem_map]
  constructor
  · rintro ⟨m, hm, r, hr, rfl⟩; exact ⟨m, r, hm, hr, rfl⟩
  · rintro ⟨m, r, hm, hr, rfl⟩; exact ⟨m, hm, r, hr, rfl⟩
theorem mem_mrg {w : Way} : w ∈ mrg n c ↔ ∃ m r, m < n ∧ r < (c m).length ∧ w = ((c m).getD r 0, (m : Int), (r : Int)) := by
  rw [mrg, List.mem_mergeSort]; exact mem_all
theorem all_nd : (allW n c).Nodup := by
  unfold List.Nodup allW numW
  rw [List.pairwise_flatMap]
  constructor
  · intro m _
    rw [List.pairwise_map]
    refine List.Pairwise.imp ?_ List.pairwise_lt_range
    intro a b hab he
    rw [Prod.mk.injEq, Prod.mk.injEq] at he
    omega
  · refine List.Pairwise.imp ?_ List.pairwise_lt_range
    intro a b hab x hx y hy he
    rw [List.mem_map] at hx hy
    obtain ⟨r, _, rfl⟩ := hx
    obtain ⟨r', _, rfl⟩ := hy
    rw [Prod.mk.injEq, Prod.mk.injEq] at he
    omega
theorem mrg_perm : (mrg n c).Perm (allW n c) := List.mergeSort_perm _ _
theorem mrg_nd : (mrg n c).Nodup := mrg_perm.nodup_iff.2 all_nd
theorem mrg_srt : (mrg n c).Pairwise fun a b => lexW a b = true := List.pairwise_mergeSort lexW_trans lexW_total _
theorem mrg_at {i j : Nat} (hij : i < j) (hj : j < (mrg n c).length) : lexW ((mrg n c).getD i noW) ((mrg n c).getD j noW) = true ∧ (mrg n c).getD i noW ≠ (mrg n c).getD j noW := by
  have h1 := List.pairwise_iff_getElem.1 (mrg_srt (n := n) (c := c)) i j (by omega) hj hij
  have h2 := List.pairwise_iff_getElem.1 (mrg_nd (n := n) (c := c)) i j (by omega) hj hij
  rw [List.getD_eq_getElem?_getD, List.getD_eq_getElem?_getD, List.getElem?_eq_getElem (by omega), List.getElem?_eq_getElem hj]
  exact ⟨h1, h2⟩
theorem mrg_mem_at {j : Nat} (hj : j < (mrg n c).length) : (mrg n c).getD j noW ∈ mrg n c := by
  rw [List.getD_eq_getElem?_getD, List.getElem?_eq_getElem hj]; exact List.getElem_mem hj
theorem mrg_asc : Asc ((mrg n c).map (·.1)) := by
  intro i j hij hj
  rw [List.length_map] at hj
  have e : ∀ k, k < (mrg n c).length → ((mrg n c).map (·.1)).getD k 0 = ((mrg n c).getD k noW).1 := fun k hk => by
    rw [List.getD_eq_getElem?_getD, List.getElem?_map, List.getD_eq_getElem?_getD, List.getElem?_eq_getElem hk]; rfl
  rw [e i (by omega), e j hj]
  rcases Nat.lt_or_ge i j with h1 | h1
  · have := (mrg_at h1 hj).1
    rw [lexW_iff] at this; omega
  · have : i = j := by omega
    subst this; exact Int.le_refl _
theorem mem_take_at {L : List Way} {j : Nat} {w : Way} : w ∈ L.take j ↔ ∃ i, i < j ∧ i < L.length ∧ w = L.getD i noW := by
  rw [List.mem_take_iff_getElem]
  constructor
  · rintro ⟨i, hi, rfl⟩
    exact ⟨i, by omega, by omega, by rw [List.getD_eq_getElem?_getD, List.getElem?_eq_getElem (by omega)]; rfl⟩
  · rintro ⟨i, h1, h2, rfl⟩
    exact ⟨i, by omega, by rw [List.getD_eq_getElem?_getD, List.getElem?_eq_getElem (by omega)]; rfl⟩

/-- The head of a list behind those that were taken. -/
def hdG (c : Nat → List Int) (a : Nat → Nat) (m : Nat) : Way := ((c m).getD (a m) 0, (m : Int), (a m : Int))
/-- After j have been taken: a m of the list m. -/
structure Grd (n : Nat) (c : Nat → List Int) (j : Nat) (a : Nat → Nat) : Prop where
  le : j ≤ (mrg n c).length
  al : ∀ m, m < n → a m ≤ (c m).length
  aj : ∀ m, a m ≤ j
  has : ∀ m r, m < n → r < (c m).length → (((c m).getD r 0, (m : Int), (r : Int)) ∈ (mrg n c).take j ↔ r < a m)
theorem grd_0 : Grd n c 0 fun _ => 0 := ⟨Nat.zero_le _, fun _ _ => Nat.zero_le _, fun _ => Nat.le_refl _, fun m r _ _ => by simp⟩
/-- The head of each list is not before what comes next. -/
theorem grd_hd {j : Nat} {a : Nat → Nat} (h : Grd n c j a) (hj : j < (mrg n c).length) {m : Nat} (hm : m < n) (ha : a m < (c m).length) : lexW ((mrg n c).getD j noW) (hdG c a m) = true := by
  have h1 : hdG c a m ∈ mrg n c := mem_mrg.2 ⟨m, a m, hm, ha, rfl⟩
  have h2 : ¬ hdG c a m ∈ (mrg n c).take j := fun hh => by have := (h.has m (a m) hm ha).1 hh; omega
  rw [mem_take_at] at h2
  obtain ⟨i, hi, he⟩ := List.mem_iff_getElem.1 h1
  have e1 : hdG c a m = (mrg n c).getD i noW := by rw [List.getD_eq_getElem?_getD, List.getElem?_eq_getElem hi, ← he]; rfl
  have hij : j ≤ i := by
    rcases Nat.lt_or_ge i j with h3 | h3
    · exact absurd ⟨i, h3, hi, e1⟩ h2
    · exact h3
  rw [e1]
  rcases Nat.lt_or_ge j i with h3 | h3
  · exact (mrg_at h3 hi).1
  · have : i = j := by omega
    subst this
    rw [lexW_iff]; omega
theorem grd_next (hs : ∀ m, m < n → Asc (c m)) {j : Nat} {a : Nat → Nat} (h : Grd n c j a) (hj : j < (mrg n c).length) :
    ∃ m, m < n ∧ a m < (c m).length ∧ (mrg n c).getD j noW = hdG c a m ∧ Grd n c (j + 1) (fun x => if x = m then a m + 1 else a x) := by
  obtain ⟨m, r, hm, hr, he⟩ := mem_mrg.1 (mrg_mem_at hj)
  have hnt : ¬ (mrg n c).getD j noW ∈ (mrg n c).take j := by
    rw [mem_take_at]
    rintro ⟨i, h1, h2, h3⟩
    exact (mrg_at h1 hj).2 h3.symm
  have hra : ¬ r < a m := fun hh => hnt (by rw [he]; exact (h.has m r hm hr).2 hh)
  have ha : a m < (c m).length := by omega
  have h1 := grd_hd h hj hm ha
  have h2 := hs m hm (a m) r (by omega) hr
  have h3 : a m = r := by
    rw [he, lexW_iff] at h1
    unfold hdG at h1
    dsimp only at h1
    omega
  have e : (mrg n c).getD j noW = hdG c a m := by rw [he, hdG, h3]
  refine ⟨m, hm, ha, e, hj, fun x hx => ?_, fun x => ?_, fun x q hx hq => ?_⟩
  · try dsimp only
    by_cases e1 : x = m
    · subst e1; rw [if_pos rfl]; omega
    · rw [if_neg e1]; exact h.al x hx
  · have h8 := h.aj x
    have h9 := h.aj m
    split <;> omega
  · have ht : (mrg n c).take (j + 1) = (mrg n c).take j ++ [(mrg n c).getD j noW] := by
      rw [List.take_add_one, List.getD_eq_getElem?_getD, List.getElem?_eq_getElem hj]; rfl
    rw [ht, List.mem_append, h.has x q hx hq, List.mem_singleton, e, hdG, Prod.mk.injEq, Prod.mk.injEq]
    try dsimp only
    by_cases e1 : x = m
    · subst e1
      rw [if_pos rfl]
      constructor
      · rintro (h5 | ⟨_, _, h5⟩) <;> omega
      · intro h5
        rcases Nat.lt_or_ge q (a x) with h6 | h6
        · exact .inl h6
        · have : q = a x := by omega
          subst this; exact .inr ⟨rfl, rfl, rfl⟩
    · rw [if_neg e1]
      constructor
      · rintro (h5 | ⟨_, h5, _⟩)
        · exact h5
        · omega
      · exact .inl
theorem grd_end {j : Nat} {a : Nat → Nat} (h : Grd n c j a) (hj : ¬ j < (mrg n c).length) {m : Nat} (hm : m < n) : ¬ a m < (c m).length := fun ha => by
  have h1 := (h.has m (a m) hm ha).1 (by rw [List.take_of_length_le (by omega)]; exact mem_mrg.2 ⟨m, a m, hm, ha, rfl⟩)
  omega
theorem grd_more (hs : ∀ m, m < n → Asc (c m)) {j : Nat} {a : Nat → Nat} (h : Grd n c j a) : j < (mrg n c).length ↔ ∃ m, m < n ∧ a m < (c m).length := by
  constructor
  · intro hj
    obtain ⟨m, h1, h2, _⟩ := grd_next hs h hj
    exact ⟨m, h1, h2⟩
  · rintro ⟨m, h1, h2⟩
    rcases Nat.lt_or_ge j (mrg n c).length with h3 | h3
    · exact h3
    · exact absurd h2 (grd_end h (by omega) h1)
/-- What comes next, by the heads alone: the one before which none comes. -/
theorem grd_pick (hs : ∀ m, m < n → Asc (c m)) {j : Nat} {a : Nat → Nat} (h : Grd n c j a) {m : Nat} (hm : m < n) (ha : a m < (c m).length) (hb : ∀ x, x < n → a x < (c x).length → befW (hdG c a x) (hdG c a m) = false) :
    j < (mrg n c).length ∧ (mrg n c).getD j noW = hdG c a m ∧ Grd n c (j + 1) (fun x => if x = m then a m + 1 else a x) := by
  have hj : j < (mrg n c).length := (grd_more hs h).2 ⟨m, hm, ha⟩
  obtain ⟨x, h1, h2, h3, h4⟩ := grd_next hs h hj
  have h5 := grd_hd h hj hm ha
  have h6 := hb x h1 h2
  rw [h3, lexW_iff] at h5
  unfold befW hdG at h6
  unfold hdG at h5
  dsimp only at h5 h6
  have : x = m := by
    split at h6
    · rw [decide_eq_false_iff_not] at h6; omega
    · rw [decide_eq_false_iff_not] at h6; omega
  subst this
  exact ⟨hj, h3, h4⟩
end
end Go.Proofs.Ytojjdkoglhecbaa
namespace Go.Proofs.Ytojjdkoglhecbaa
open Go.RowKit
set_option maxRecDepth 100000

abbrev c_theorboref06_first_p1 : VC := (.ops 0 [oo 65 .mv [.t 8], oo 7 .mv [.t 65]])
abbrev c_theorboref06_first_p2 : VC := (.ops 0 [oo 20 .mv [.t 8], oo 21 (.bin .add) [.t 20, kk 1], oo 8 .mv [.t 21]])
abbrev c_theorboref06_first_p3 : VC := (.seq (.block 3 (.seq (.ops 0 [oo 22 .mv [.t 6], oo 23 .mv [.t 8], oo 24 (.ixA 1) [.t 22, .t 23], od 25 .ld1 [.t 24] [0, 1, 2], oo 26 .mv [.t 0], oo 27 .mv [.t 8], oo 28 (.ixA 1) [.t 26, .t 27], od 29 .ld1 [.t 28] [4, 5, 6], oo 30 .len [.t 29], oo 31 (.bin .lss) [.t 25, .t 30], oo 32 .mv [.t 31], og 33 32 true .mv [.t 7], og 34 32 true (.bin .lss) [.t 33, kk 0], og 35 32 true .mv [.t 34], og 36 35 false .mv [.t 0], og 37 35 false .mv [.t 8], og 38 35 false (.ixA 1) [.t 36, .t 37], ⟨(some 39), (some (35, false)), .ld1, [.t 38], (some [0, 1, 2, 3, 4, 5, 6, 7, 8, 9, 10, 11, 12, 13, 14, 15, 16])⟩, og 40 35 false .mv [.t 6], og 41 35 false .mv [.t 8], og 42 35 false (.ixA 1) [.t 40, .t 41], ⟨(some 43), (some (35, false)), .ld1, [.t 42], (some [0, 1, 2, 3, 4, 5, 6, 7, 8, 9, 10, 11, 12, 13, 18, 19, 20])⟩, og 44 35 false (.ixA 1) [.t 39, .t 43], ⟨(some 45), (some (35, false)), .ld1, [.t 44], (some [0, 1, 2, 3, 4, 5, 6, 7, 8, 9, 10, 11, 12, 13, 14, 15, 16, 17, 18, 19, 20, 21, 22])⟩, og 46 35 false .nilck [.t 45], og 47 35 false (.fldA 2) [.t 46], ⟨(some 48), (some (35, false)), .ld1, [.t 47], (some [0, 1, 2, 3, 4, 5, 6, 7, 8, 9, 10, 11, 12, 13, 14, 15, 16, 17, 18, 19, 20, 21, 22, 23, 24, 25])⟩, og 49 35 false .mv [.t 0], og 50 35 false .mv [.t 7], og 51 35 false (.ixA 1) [.t 49, .t 50], ⟨(some 52), (some (35, false)), .ld1, [.t 51], (some [0, 1, 2, 3, 4, 5, 6, 7, 8, 9, 10, 11, 12, 13, 27, 28, 29])⟩, og 53 35 false .mv [.t 6], og 54 35 false .mv [.t 7], og 55 35 false (.ixA 1) [.t 53, .t 54], ⟨(some 56), (some (35, false)), .ld1, [.t 55], (some [0, 1, 2, 3, 4, 5, 6, 7, 8, 9, 10, 11, 12, 13, 31, 32, 33])⟩, og 57 35 false (.ixA 1) [.t 52, .t 56], ⟨(some 58), (some (35, false)), .ld1, [.t 57], (some [0, 1, 2, 3, 4, 5, 6, 7, 8, 9, 10, 11, 12, 13, 27, 28, 29, 30, 31, 32, 33, 34, 35])⟩, og 59 35 false .nilck [.t 58], og 60 35 false (.fldA 2) [.t 59], ⟨(some 61), (some (35, false)), .ld1, [.t 60], (some [0, 1, 2, 3, 4, 5, 6, 7, 8, 9, 10, 11, 12, 13, 27, 28, 29, 30, 31, 32, 33, 34, 35, 36, 37, 38])⟩, og 62 35 false (.bin .lss) [.t 48, .t 61], og 63 32 true .pick [.t 35, (.c (.lit (.bool true))), .t 62], oo 64 .pick [.t 32, .t 63, (.c (.lit (.bool false)))]]) (.cond (.t 64) c_theorboref06_first_p1 .skip))) c_theorboref06_first_p2)
abbrev c_theorboref06_first_p4 : VC := (.seq (.seq (.ops 0 [oo 16 .mv [.t 8], oo 17 .mv [.t 0], oo 18 .len [.t 17], oo 19 (.bin .lss) [.t 16, .t 18]]) (.cond (.t 19) .skip (.exit 2))) c_theorboref06_first_p3)
@[go_sem] abbrev w_theorboref06_first_p4 : Nat := 73786976294838141312
abbrev c_theorboref06_first_p6 : VC := (.ops 0 [oo 81 .mv [.t 6], oo 82 .mv [.t 7], oo 83 (.ixA 1) [.t 81, .t 82], oo 84 .ld1 [.t 83], oo 85 (.bin .add) [.t 84, kk 1], oo 86 (.ixA 1) [.t 81, .t 82], ⟨none, none, (.st 1), [.t 86, .t 85], none⟩])
abbrev c_theorboref06_first_p7 : VC := (.seq (.ops 14 [oo 68 .mv [.t 5], oo 69 .mv [.t 0], oo 70 .mv [.t 7], oo 71 (.ixA 1) [.t 69, .t 70], od 72 .ld1 [.t 71] [1, 2, 3], oo 73 .mv [.t 6], oo 74 .mv [.t 7], oo 75 (.ixA 1) [.t 73, .t 74], od 76 .ld1 [.t 75] [5, 6, 7], oo 77 (.ixA 1) [.t 72, .t 76], oo 78 .ld1 [.t 77], oo 79 (.mksl 1 1 [(.lit (.pointer none))] [(0, 1)]) [.t 78], oo 80 (.app 168 1 8) [.t 68, .t 79], oo 5 .mv [.t 80]]) c_theorboref06_first_p6)
abbrev c_theorboref06_first_p8 : VC := (.seq (.seq (.ops 0 [oo 66 .mv [.t 7], oo 67 (.bin .lss) [.t 66, kk 0]]) (.cond (.t 67) (.exit 0) .skip)) c_theorboref06_first_p7)
abbrev c_theorboref06_first_p9 : VC := (.seq (.seq (.ops 0 [oo 8 .mv [kk 0]]) (.block 2 (.loop c_theorboref06_first_p4))) c_theorboref06_first_p8)
abbrev c_theorboref06_first_p10 : VC := (.block 1 (.seq (.ops 0 [oo 7 .mv [kk (-1)]]) c_theorboref06_first_p9))
abbrev c_theorboref06_first_p11 : VC := (.seq (.seq (.ops 0 [oo 12 .mv [.t 5], oo 13 .len [.t 12], oo 14 .mv [.t 1], oo 15 (.bin .lss) [.t 13, .t 14]]) (.cond (.t 15) .skip (.exit 0))) c_theorboref06_first_p10)
@[go_sem] abbrev w_theorboref06_first_p11 : Nat := 154742504910672534362386848
abbrev c_theorboref06_first_p13 : VC := (.seq (.ops 0 [oo 87 .mv [.t 5], oo 4 .mv [.t 87]]) .ret)
abbrev c_theorboref06_first_p14 : VC := (.seq (.block 0 (.loop c_theorboref06_first_p11)) c_theorboref06_first_p13)
abbrev c_theorboref06_first_p15 : VC := (.seq (.ops 4 [oo 9 .mv [.t 0], oo 10 .len [.t 9], oo 11 (.mk 3 1 8 [li 0]) [.t 10, .t 10], oo 6 .mv [.t 11]]) c_theorboref06_first_p14)
abbrev c_theorboref06_first_p16 : VC := (.seq (.ops 0 [oo 5 .mv [(.c (.sl 0 [] .exact))]]) c_theorboref06_first_p15)
def c_theorboref06_first : VC := (.seq (.ops 0 [oo 4 .mv [(.c (.sl 0 [] .exact))]]) c_theorboref06_first_p16)
theorem k_theorboref06_first : Comp Try.prog nobx gtab 114 88 c_theorboref06_first [.t 4] := ⟨⟨Try.f114, _, Try.func114, rfl, rfl, kr, kr⟩⟩
abbrev c_theorboref06_search_b_p1 : VC := (.seq (.ops 0 [⟨(some 29), none, (.build [(.sl 0 [] .exact), li 0] []), [], none⟩, ⟨(some 30), none, (.mksl 1 2 [(.sl 0 [] .exact), li 0] [(0, 2)]), [.t 29], none⟩, oo 8 .mv [.t 30]]) .ret)
abbrev c_theorboref06_search_b_p2 : VC := (.seq (.ops 9 [oo 66 .mv [.t 11], oo 67 (.ldA 2) [.t 13], oo 68 .mv [.t 14], ⟨(some 69), none, (.build [li 0, (.sl 0 [] .exact), li 0, (.lit (.pointer none))] [(0, 2), (2, 1), (3, 1)]), [.t 67, .t 68, (.c (.lit (.pointer none)))], none⟩, oo 70 .boxE [.t 69], oo 71 (.mksl 1 1 [(.lit (.pointer none))] [(0, 1)]) [.t 70], ⟨(some 72), none, (.mksl 1 1 [(.sl 0 [] .exact)] [(0, 1)]), [.t 71], none⟩, oo 73 (.app 171 1 24) [.t 66, .t 72], oo 11 .mv [.t 73]]) (.exit 3))
abbrev c_theorboref06_search_b_p3 : VC := (.ops 0 [oo 117 .mv [.t 20], oo 118 (.bin .add) [.t 117, kk 1], oo 20 .mv [.t 118]])
abbrev c_theorboref06_search_b_p4 : VC := (.seq (.block 7 (.ops 28 [oo 119 .mv [.t 19], od 120 (.ldA 2) [.t 13] [], oo 121 .mv [.t 14], oo 122 .mv [.t 17], oo 123 (.bin .add) [.t 121, .t 122], oo 124 .mv [.t 9], oo 125 .mv [.t 16], oo 126 (.ixA 1) [.t 124, .t 125], od 127 .ld1 [.t 126] [5, 6, 7], oo 128 .mv [.t 20], oo 129 (.ixA 1) [.t 127, .t 128], od 130 .ld1 [.t 129] [5, 6, 7, 8, 9, 10], oo 131 .nilck [.t 130], oo 132 (.fldA 2) [.t 131], od 133 .ld1 [.t 132] [5, 6, 7, 8, 9, 10, 11, 12, 13], oo 134 (.bin .add) [.t 123, .t 133], oo 135 .mv [.t 9], oo 136 .mv [.t 16], oo 137 (.ixA 1) [.t 135, .t 136], od 138 .ld1 [.t 137] [16, 17, 18], oo 139 .mv [.t 20], oo 140 (.ixA 1) [.t 138, .t 139], od 141 .ld1 [.t 140] [16, 17, 18, 19, 20, 21], ⟨(some 142), none, (.build [li 0, (.sl 0 [] .exact), li 0, (.lit (.pointer none))] [(0, 2), (2, 1), (3, 1)]), [.t 120, .t 134, .t 141], none⟩, oo 143 .boxE [.t 142], oo 144 (.mksl 1 1 [(.lit (.pointer none))] [(0, 1)]) [.t 143], oo 145 (.app 168 1 8) [.t 119, .t 144], oo 19 .mv [.t 145]])) c_theorboref06_search_b_p3)
abbrev c_theorboref06_search_b_p5 : VC := (.seq (.seq (.ops 0 [oo 107 .mv [.t 18], oo 108 .mv [.t 107], og 109 108 true .mv [.t 20], og 110 108 true .mv [.t 9], og 111 108 true .mv [.t 16], og 112 108 true (.ixA 1) [.t 110, .t 111], og 113 108 true .ld1 [.t 112], og 114 108 true .len [.t 113], og 115 108 true (.bin .lss) [.t 109, .t 114], oo 116 .pick [.t 108, .t 115, (.c (.lit (.bool false)))]]) (.cond (.t 116) .skip (.exit 6))) c_theorboref06_search_b_p4)
@[go_sem] abbrev w_theorboref06_search_b_p5 : Nat := 89202980793960233289313659727201868015206400
def c_theorboref06_search_b_p7 : VC := (.ops 5 [oo 146 .mv [.t 15], oo 147 .mv [.t 19], ⟨(some 148), none, (.mksl 1 1 [(.sl 0 [] .exact)] [(0, 1)]), [.t 147], none⟩, oo 149 (.app 171 1 24) [.t 146, .t 148], oo 15 .mv [.t 149]])
abbrev c_theorboref06_search_b_p8 : VC := (.seq (.seq (.ops 0 [oo 20 .mv [kk 0]]) (.block 6 (.loop c_theorboref06_search_b_p5))) c_theorboref06_search_b_p7)
def c_theorboref06_search_b_p9 : VC := (.seq (.ops 0 [oo 19 .mv [(.c (.sl 0 [] .exact))]]) c_theorboref06_search_b_p8)
abbrev c_theorboref06_search_b_p10 : VC := (.ops 0 [oo 82 .mv [.t 16], oo 83 (.bin .add) [.t 82, kk 1], oo 16 .mv [.t 83]])
abbrev c_theorboref06_search_b_p11 : VC := (.seq (.block 5 (.seq (.ops 0 [od 85 (.ldA 10) [.t 4] [], oo 86 .mv [.t 1], oo 87 .mv [.t 10], oo 88 (.ixA 3) [.t 86, .t 87], od 89 (.ldA 3) [.t 88] [1, 2, 3], od 90 (.ldA 2) [.t 13] [], oo 91 .mv [.t 1], oo 92 .mv [.t 10], oo 93 (.bin .add) [.t 92, kk 1], oo 94 (.ixA 3) [.t 91, .t 93], od 95 (.ldA 3) [.t 94] [6, 7, 8, 9], oo 96 .mv [.t 2], oo 97 .mv [.t 10], oo 98 (.bin .add) [.t 97, kk 1], oo 99 (.ixA 1) [.t 96, .t 98], od 100 .ld1 [.t 99] [11, 12, 13, 14], oo 101 .mv [.t 16], oo 102 (.ixA 2) [.t 100, .t 101], od 103 (.ldA 2) [.t 102] [11, 12, 13, 14, 15, 16, 17], oo 104 (.call 84) [.t 85, .t 89, .t 90, .t 95, .t 103], oo 84 .mv [.t 104], oo 105 (.ext 0) [.t 84], oo 106 (.ext 1) [.t 84], oo 17 .mv [.t 105], oo 18 .mv [.t 106]]) c_theorboref06_search_b_p9)) c_theorboref06_search_b_p10)
abbrev c_theorboref06_search_b_p12 : VC := (.seq (.seq (.ops 0 [oo 74 .mv [.t 16], oo 75 .mv [.t 2], oo 76 .mv [.t 10], oo 77 (.bin .add) [.t 76, kk 1], oo 78 (.ixA 1) [.t 75, .t 77], oo 79 .ld1 [.t 78], oo 80 .len [.t 79], oo 81 (.bin .lss) [.t 74, .t 80]]) (.cond (.t 81) .skip (.exit 4))) c_theorboref06_search_b_p11)
@[go_sem] abbrev w_theorboref06_search_b_p12 : Nat := 1427247692705959881058267079983563657803956224
abbrev c_theorboref06_search_b_p14 : VC := (.ops 7 [oo 150 .mv [.t 11], oo 151 .mv [.t 15], oo 152 .mv [.t 3], oo 153 (.call 114) [.t 151, .t 152], ⟨(some 154), none, (.mksl 1 1 [(.sl 0 [] .exact)] [(0, 1)]), [.t 153], none⟩, oo 155 (.app 171 1 24) [.t 150, .t 154], oo 11 .mv [.t 155]])
abbrev c_theorboref06_search_b_p15 : VC := (.seq (.seq (.ops 0 [oo 16 .mv [kk 0]]) (.block 4 (.loop c_theorboref06_search_b_p12))) c_theorboref06_search_b_p14)
def c_theorboref06_search_b_p16 : VC := (.seq (.ops 0 [oo 15 .mv [(.c (.sl 0 [] .exact))]]) c_theorboref06_search_b_p15)
abbrev c_theorboref06_search_b_p17 : VC := (.seq (.seq (.ops 0 [oo 61 .mv [.t 10], oo 62 .mv [.t 1], oo 63 .len [.t 62], oo 64 (.bin .sub) [.t 63, kk 1], oo 65 (.bin .eql) [.t 61, .t 64]]) (.cond (.t 65) c_theorboref06_search_b_p2 .skip)) c_theorboref06_search_b_p16)
abbrev c_theorboref06_search_b_p18 : VC := (.seq (.ops 0 [od 54 (.ldA 10) [.t 4] [], oo 55 .mv [.t 1], oo 56 .mv [.t 10], oo 57 (.ixA 3) [.t 55, .t 56], od 58 (.ldA 3) [.t 57] [1, 2, 3], od 59 (.ldA 2) [.t 13] [], oo 60 (.call 82) [.t 54, .t 58, .t 59], oo 14 .mv [.t 60]]) c_theorboref06_search_b_p17)
abbrev c_theorboref06_search_b_p19 : VC := (.ops 0 [oo 45 .mv [.t 12], oo 46 (.bin .add) [.t 45, kk 1], oo 12 .mv [.t 46]])
abbrev c_theorboref06_search_b_p20 : VC := (.seq (.block 3 (.seq (.ops 9 [oo 47 .mv [.t 2], oo 48 .mv [.t 10], oo 49 (.ixA 1) [.t 47, .t 48], oo 50 .ld1 [.t 49], oo 51 .mv [.t 12], oo 52 (.ixA 2) [.t 50, .t 51], oo 53 (.ldA 2) [.t 52], ⟨(some 13), none, (.alloc 53 [li 0, (.sl 0 [] .exact)]), [], none⟩, ⟨none, none, (.st 2), [.t 13, .t 53], none⟩]) c_theorboref06_search_b_p18)) c_theorboref06_search_b_p19)
abbrev c_theorboref06_search_b_p21 : VC := (.seq (.seq (.ops 0 [oo 38 .mv [.t 12], oo 39 .mv [.t 2], oo 40 .mv [.t 10], oo 41 (.ixA 1) [.t 39, .t 40], oo 42 .ld1 [.t 41], oo 43 .len [.t 42], oo 44 (.bin .lss) [.t 38, .t 43]]) (.cond (.t 44) .skip (.exit 2))) c_theorboref06_search_b_p20)
@[go_sem] abbrev w_theorboref06_search_b_p21 : Nat := 91343852333181432387730302044767688453619972096
abbrev c_theorboref06_search_b_p23 : VC := (.ops 0 [oo 156 .mv [.t 11], oo 9 .mv [.t 156]])
abbrev c_theorboref06_search_b_p24 : VC := (.seq (.seq (.ops 0 [oo 12 .mv [kk 0]]) (.block 2 (.loop c_theorboref06_search_b_p21))) c_theorboref06_search_b_p23)
abbrev c_theorboref06_search_b_p25 : VC := (.ops 0 [oo 36 .mv [.t 10], oo 37 (.bin .sub) [.t 36, kk 1], oo 10 .mv [.t 37]])
abbrev c_theorboref06_search_b_p26 : VC := (.seq (.block 1 (.seq (.ops 0 [oo 11 .mv [(.c (.sl 0 [] .exact))]]) c_theorboref06_search_b_p24)) c_theorboref06_search_b_p25)
abbrev c_theorboref06_search_b_p27 : VC := (.seq (.seq (.ops 0 [oo 34 .mv [.t 10], oo 35 (.bin .geq) [.t 34, kk 0]]) (.cond (.t 35) .skip (.exit 0))) c_theorboref06_search_b_p26)
@[go_sem] abbrev w_theorboref06_search_b_p27 : Nat := 182687704666362864775460604089535377439813795328
abbrev c_theorboref06_search_b_p29 : VC := (.ops 0 [oo 173 .mv [.t 25], oo 174 .nilck [.t 173], oo 175 (.fldA 3) [.t 174], oo 176 .ld1 [.t 175], oo 25 .mv [.t 176]])
abbrev c_theorboref06_search_b_p30 : VC := (.seq (.block 11 (.ops 18 [oo 177 (.fldA 0) [.t 24], od 178 .ld1 [.t 177] [0], oo 179 .mv [.t 25], oo 180 .nilck [.t 179], oo 181 (.fldA 0) [.t 180], oo 182 (.fldA 0) [.t 181], od 183 .ld1 [.t 182] [2, 3, 4, 5], oo 184 .mv [.t 25], oo 185 .nilck [.t 184], oo 186 (.fldA 0) [.t 185], oo 187 (.fldA 1) [.t 186], od 188 .ld1 [.t 187] [7, 8, 9, 10], od 189 (.app 3 1 8) [(.c (.sl 0 [] .exact)), .t 188] [7, 8, 9, 10, 11], ⟨(some 190), none, (.build [li 0, (.sl 0 [] .exact)] [(0, 1), (1, 1)]), [.t 183, .t 189], none⟩, ⟨(some 191), none, (.mksl 1 2 [li 0, (.sl 0 [] .exact)] [(0, 2)]), [.t 190], none⟩, oo 192 (.app 53 2 32) [.t 178, .t 191], oo 193 (.fldA 0) [.t 24], ⟨none, none, (.st 1), [.t 193, .t 192], none⟩])) c_theorboref06_search_b_p29)
abbrev c_theorboref06_search_b_p31 : VC := (.seq (.seq (.ops 0 [oo 171 .mv [.t 25], oo 172 (.eqQ true) [.t 171]]) (.cond (.t 172) .skip (.exit 10))) c_theorboref06_search_b_p30)
@[go_sem] abbrev w_theorboref06_search_b_p31 : Nat := 25108403948391369801653981211684128261461797522506323591168
abbrev c_theorboref06_search_b_p33 : VC := (.ops 5 [oo 194 .mv [.t 21], oo 195 (.ldA 2) [.t 24], ⟨(some 196), none, (.mksl 1 2 [(.sl 0 [] .exact), li 0] [(0, 2)]), [.t 195], none⟩, oo 197 (.app 40 2 32) [.t 194, .t 196], oo 21 .mv [.t 197]])
abbrev c_theorboref06_search_b_p34 : VC := (.seq (.seq (.ops 0 [oo 170 .mv [.t 23], oo 25 .mv [.t 170]]) (.block 10 (.loop c_theorboref06_search_b_p31))) c_theorboref06_search_b_p33)
def c_theorboref06_search_b_p35 : VC := (.seq (.ops 7 [oo 165 .mv [.t 23], oo 166 .nilck [.t 165], oo 167 (.fldA 2) [.t 166], oo 168 .ld1 [.t 167], ⟨(some 169), none, (.build [(.sl 0 [] .exact), li 0] [(1, 1)]), [.t 168], none⟩, ⟨(some 24), none, (.alloc 40 [(.sl 0 [] .exact), li 0]), [], none⟩, ⟨none, none, (.st 2), [.t 24, .t 169], none⟩]) c_theorboref06_search_b_p34)
abbrev c_theorboref06_search_b_p36 : VC := (.ops 0 [oo 198 (.bin .add) [.t 161, kk 1], oo 161 .mv [.t 198]])
abbrev c_theorboref06_search_b_p37 : VC := (.seq (.block 9 (.seq (.ops 0 [oo 163 (.ixA 1) [.t 159, .t 161], oo 164 .ld1 [.t 163], oo 23 .mv [.t 164]]) c_theorboref06_search_b_p35)) c_theorboref06_search_b_p36)
abbrev c_theorboref06_search_b_p38 : VC := (.seq (.cond (.t 162) .skip (.exit 8)) c_theorboref06_search_b_p37)
abbrev c_theorboref06_search_b_p39 : VC := (.seq (.ops 0 [oo 162 (.bin .lss) [.t 161, .t 160]]) c_theorboref06_search_b_p38)
@[go_sem] abbrev w_theorboref06_search_b_p39 : Nat := 803469022126572134496319240334173931595668930852084613382144
abbrev c_theorboref06_search_b_p41 : VC := (.seq (.ops 0 [oo 199 .mv [.t 21], oo 8 .mv [.t 199]]) .ret)
abbrev c_theorboref06_search_b_p42 : VC := (.seq (.seq (.ops 0 [oo 157 .mv [.t 9], oo 158 .mv [.t 3], oo 159 (.call 114) [.t 157, .t 158], oo 160 .len [.t 159], oo 161 .mv [kk 0]]) (.block 8 (.loop c_theorboref06_search_b_p39))) c_theorboref06_search_b_p41)
def c_theorboref06_search_b_p43 : VC := (.seq (.ops 0 [oo 21 .mv [(.c (.sl 0 [] .exact))]]) c_theorboref06_search_b_p42)
abbrev c_theorboref06_search_b_p44 : VC := (.seq (.seq (.ops 0 [oo 31 .mv [.t 1], oo 32 .len [.t 31], oo 33 (.bin .sub) [.t 32, kk 1], oo 10 .mv [.t 33]]) (.block 0 (.loop c_theorboref06_search_b_p27))) c_theorboref06_search_b_p43)
abbrev c_theorboref06_search_b_p45 : VC := (.seq (.ops 0 [oo 9 .mv [(.c (.sl 0 [] .exact))]]) c_theorboref06_search_b_p44)
abbrev c_theorboref06_search_b_p46 : VC := (.seq (.seq (.ops 0 [oo 26 .mv [.t 1], oo 27 .len [.t 26], oo 28 (.bin .eql) [.t 27, kk 0]]) (.cond (.t 28) c_theorboref06_search_b_p1 .skip)) c_theorboref06_search_b_p45)
def c_theorboref06_search_b : VC := (.seq (.ops 2 [oo 4 (.box 25) [.t 0], oo 8 .mv [(.c (.sl 0 [] .exact))]]) c_theorboref06_search_b_p46)
theorem k_theorboref06_search_b : Comp Try.prog (fun n => [70,1000070,143,1000143].contains n) gtab 77 200 c_theorboref06_search_b [.t 8] := ⟨⟨Try.f77, _, Try.func77, rfl, rfl, kr, kr⟩⟩
end Go.Proofs.Ytojjdkoglhecbaa
namespace Go.Proofs.Ytojjdkoglhecbaa
open Go.RowKit

theorem set_eqT {α : Type} {L : List α} {i : Nat} (hi : i < L.length) (v : α) : L.set i v = L.take i ++ [v] ++ L.drop (i + 1) := by
  rw [List.set_eq_take_append_cons_drop, if_pos hi, List.append_assoc]; rfl
theorem put_sameT (m : Mm) (i : Nat) (a : AObj) : (m.put i a).obj i = some a := if_pos rfl
theorem put_otherT (m : Mm) {i q : Nat} (a : AObj) (h : q ≠ i) : (m.put i a).obj q = m.obj q := if_neg h
theorem x_genT {P : Program} {G : Ground} {a : VC} {Q : VX → St → Prop} {s : St} (F : (Nat → V) → Mm → Prop) (h0 : F s.t s.m) (h : ∀ t m, F t m → a.vx P G Q ⟨t, m⟩) : a.vx P G Q s := h s.t s.m h0
/-- A list of tails, by their cells; a list of such lists. -/
def rowT (k : Nat) (tc : Nat → List V) : V := .sl k ((List.range k).map fun r => .ept (tc r) 0) .no
def rowsT (n : Nat) (k : Nat → Nat) (tc : Nat → Nat → List V) : List V := (List.range n).map fun m => rowT (k m) (tc m)
theorem rowsT_at {n : Nat} {k : Nat → Nat} {tc : Nat → Nat → List V} {m : Nat} (hm : m < n) : (rowsT n k tc)[m]? = some (.sl (k m) ((List.range (k m)).map fun r => .ept (tc m r) 0) .no) := by
  rw [rowsT, List.getElem?_map, List.getElem?_range hm]; rfl
theorem rowsT_len {n : Nat} {k : Nat → Nat} {tc : Nat → Nat → List V} : (rowsT n k tc).length = n := by simp [rowsT]
theorem rowT_at {k r : Nat} {tc : Nat → List V} (hr : r < k) : ((List.range k).map fun r => V.ept (tc r) 0)[r]? = some (.ept (tc r) 0) := by
  rw [List.getElem?_map, List.getElem?_range hr]; rfl
theorem rowT_len {k : Nat} {tc : Nat → List V} : ((List.range k).map fun r => V.ept (tc r) 0).length = k := by simp
/-- The tails of ways. -/
def outT (tc : Nat → Nat → List V) (L : List Way) : List V := L.map fun w => .ept (tc w.2.1.toNat w.2.2.toNat) 0
theorem outT_len {tc : Nat → Nat → List V} {L : List Way} : (outT tc L).length = L.length := by simp [outT]
/-- Where the search for the least head stands. -/
def PkS (c : Nat → List Int) (a : Nat → Nat) (i : Nat) (b : Int) : Prop :=
  (b = -1 ∧ ∀ x, x < i → ¬ a x < (c x).length) ∨ ∃ m : Nat, b = m ∧ m < i ∧ a m < (c m).length ∧ ∀ x, x < i → a x < (c x).length → befW (hdG c a x) (hdG c a m) = false
section
variable {c : Nat → List Int} {a : Nat → Nat} {i : Nat}
theorem pkS_0 : PkS c a 0 (-1) := .inl ⟨rfl, fun x hx => by omega⟩
theorem pkS_no {b : Int} (h : PkS c a i b) (h1 : ¬ a i < (c i).length) : PkS c a (i + 1) b := by
  rcases h with ⟨e, h2⟩ | ⟨m, e, hm, h2, h3⟩
  · exact .inl ⟨e, fun x hx => by
      by_cases e1 : x = i
      · subst e1; exact h1
      · exact h2 x (by omega)⟩
  · exact .inr ⟨m, e, by omega, h2, fun x hx hxa => by
      by_cases e1 : x = i
      · subst e1; exact absurd hxa h1
      · exact h3 x (by omega) hxa⟩
theorem pkS_new (h : PkS c a i (-1)) (h1 : a i < (c i).length) : PkS c a (i + 1) (i : Int) := by
  rcases h with ⟨e, h2⟩ | ⟨m, e, _⟩
  · exact .inr ⟨i, rfl, by omega, h1, fun x hx hxa => by
      by_cases e1 : x = i
      · subst e1; exact befW_irr _
      · exact absurd hxa (h2 x (by omega))⟩
  · omega
theorem pkS_lt {m : Nat} (h : PkS c a i (m : Int)) (h1 : a i < (c i).length) (h2 : (c i).getD (a i) 0 < (c m).getD (a m) 0) : PkS c a (i + 1) (i : Int) := by
  rcases h with ⟨e, _⟩ | ⟨m', e, hm, h3, h4⟩
  · omega
  · have : m' = m := by omega
    subst this
    refine .inr ⟨i, rfl, by omega, h1, fun x hx hxa => ?_⟩
    by_cases e1 : x = i
    · subst e1; exact befW_irr _
    · have h5 := befW_le (h4 x (by omega) hxa)
      unfold hdG at h5 ⊢
      dsimp only at h5
      unfold befW
      dsimp only
      rw [if_neg (by omega), decide_eq_false_iff_not]
      omega
theorem pkS_ge {m : Nat} (h : PkS c a i (m : Int)) (h2 : ¬ (c i).getD (a i) 0 < (c m).getD (a m) 0) : PkS c a (i + 1) (m : Int) := by
  rcases h with ⟨e, _⟩ | ⟨m', e, hm, h3, h4⟩
  · omega
  · have : m' = m := by omega
    subst this
    refine .inr ⟨m', rfl, by omega, h3, fun x hx hxa => ?_⟩
    by_cases e1 : x = i
    · subst e1
      unfold hdG befW
      dsimp only
      split <;> rw [decide_eq_false_iff_not] <;> omega
    · exact h4 x (by omega) hxa
end
/-- The places of the lists, in memory. -/
def atC (n : Nat) (a : Nat → Nat) : List V := (List.range n).map fun m => vint (a m)
theorem atC_len {n : Nat} {a : Nat → Nat} : (atC n a).length = n := by simp [atC]
theorem atC_at {n m : Nat} {a : Nat → Nat} (hm : m < n) : (atC n a)[m]? = some (.lit (.int .i64 (a m : Int))) := by rw [atC, List.getElem?_map, List.getElem?_range hm]; rfl
theorem atC_set {n m : Nat} {a : Nat → Nat} (hm : m < n) : (atC n a).take m ++ [V.lit (.int .i64 ((a m + 1 : Nat) : Int))] ++ (atC n a).drop (m + 1) = atC n (fun x => if x = m then a m + 1 else a x) := by
  rw [← set_eqT (by rw [atC_len]; exact hm)]
  apply List.ext_getElem?
  intro y
  rw [List.getElem?_set, atC_len]
  by_cases hy : y < n
  · rw [atC_at hy]
    by_cases e : m = y
    · subst e; rw [if_pos rfl, if_pos hm, atC, List.getElem?_map, List.getElem?_range hm]; simp [vint]
    · rw [if_neg e, atC_at hy, if_neg (fun e' => e e'.symm)]
  · rw [if_neg (by omega), List.getElem?_eq_none (by rw [atC_len]; omega), List.getElem?_eq_none (by rw [atC_len]; omega)]
/-- Where first stands, with j tails. -/
structure FiSt (n : Nat) (c : Nat → List Int) (ab j : Nat) (a : Nat → Nat) (tok : Tok) (M : Mm) : Prop where
  grd : Grd n c j a
  at_ : M.obj ab = some (.box (atC n a) 3)
  lt : ab < M.next
  ap : Apb M tok j 168 1

set_option maxHeartbeats 4000000 in
theorem rfirst_fn {n : Nat} {c : Nat → List Int} {tc : Nat → Nat → List V} (hs : ∀ m, m < n → Asc (c m)) (hn : n ≤ 1000) (hc : ∀ m, m < n → (c m).length ≤ 1000)
    (htc : ∀ m r, m < n → r < (c m).length → (tc m r)[2]? = some (.lit (.int .i64 ((c m).getD r 0)))) (most : Nat) (hm : most ≤ 1000) :
    Fn Try.prog Gd 114 [.sl n (rowsT n (fun m => (c m).length) tc) .no, vint most] (.sl (min most (mrg n c).length) (outT tc ((mrg n c).take most)) .no) := by
  refine Fn.of_vx0 k_theorboref06_first (by simp) (by rw [V.pures]; rfl) ?_
  have k1 : (n : Int) * 8 ≤ 140737488355328 := by omega
  have k2 : (n : Int) ≤ 140737488355328 := by omega
  have c0 : (0 : Int) ≤ (n : Int) := by omega
  have rl := rowsT_len (n := n) (k := fun m => (c m).length) (tc := tc)
  have fl : (List.replicate n [V.lit (.int .i64 0)]).flatten = atC n fun _ => 0 := by
    rw [atC]
    apply List.ext_getElem?
    intro y
    rw [List.getElem?_map]
    by_cases hy : y < n
    · rw [List.getElem?_range hy]; simp [hy, vint]
    · rw [List.getElem?_eq_none (by simp; omega), List.getElem?_eq_none (by simp; omega)]; rfl
  have hfin : ∀ j a, Grd n c j a → (¬ j < most ∨ ¬ j < (mrg n c).length) → j ≤ most → j = min most (mrg n c).length ∧ (mrg n c).take j = (mrg n c).take most := by
    intro j a hg h1 h2
    have h3 := hg.le
    rcases h1 with h1 | h1
    · have : j = most := by omega
      subst this
      exact ⟨by omega, rfl⟩
    · exact ⟨by omega, by rw [List.take_of_length_le (by omega), List.take_of_length_le (by omega)]⟩
  unfold c_theorboref06_first
  replace hs := Hid.mk hs
  replace htc := Hid.mk htc
  replace hc := Hid.mk hc
  replace hfin := Hid.mk hfin
  repeat' (with_reducible first | refine x_ops ?_ | refine wk ?_ | ((first | refine gd1 ?_ ?_ | refine gd2 ?_ ?_ | refine gd3 ?_ ?_) <;> (first | exact @False.elim _ | intro hc)))
  refine x_genT (fun t M => (t 0 = .sl n (rowsT n (fun m => (c m).length) tc) .no ∧ t 1 = vint most ∧ t 5 = .sl 0 [] .exact ∧ ∃ ab, t 6 = .bsl ab 0 n n ∧ FiSt n c ab 0 (fun _ => 0) .exact M)) ⟨vv, vv, vv, 2, vv, grd_0, put_sameT _ _ _, by show 2 < 4; decide, .inl rfl⟩ ?_
  clear fl c0 k1 k2
  rintro t0 M0' ⟨a0, a1, a5, ab, a6, hs0⟩
  refine x_loopW w_theorboref06_first_p11 kr most (fun j t M => ∃ tok a, t 5 = .sl j (outT tc ((mrg n c).take j)) tok ∧ FiSt n c ab j a tok M) ⟨.exact, _, a5, hs0⟩ ?_
  clear a5 hs0
  rintro j t M hj ⟨tok, a, h5, hst⟩
  by_cases hjm : j < most
  case neg =>
    have c1 : ¬ (j : Int) < (most : Int) := by omega
    obtain ⟨e1, e2⟩ := hfin.out j a hst.grd (.inl hjm) hj
    rw [e2] at h5
    subst e1
    clear e2 hjm hj hst
    repeat' (with_reducible first | refine x_ops ?_ | refine wk ?_ | ((first | refine gd1 ?_ ?_ | refine gd2 ?_ ?_ | refine gd3 ?_ ?_) <;> (first | exact @False.elim _ | intro hc)))
    exact finV_ret vw (.sl _ _ _)
  have c1 : (j : Int) < (most : Int) := by omega
  have hat := hst.at_
  have hlt := hst.lt
  have hgrd := Hid.mk hst.grd
  have hal := Hid.mk hst.grd.al
  have hst0 := Hid.mk hst
  replace hjm := Hid.mk hjm
  clear hst hj
  repeat' (with_reducible first | refine x_ops ?_ | refine wk ?_ | ((first | refine gd1 ?_ ?_ | refine gd2 ?_ ?_ | refine gd3 ?_ ?_) <;> (first | exact @False.elim _ | intro hc)))
  refine x_loopF w_theorboref06_first_p4 kr n (fun i t => t 8 = vint (i : Int) ∧ ∃ b : Int, t 7 = vint b ∧ PkS c a i b) ⟨vv, _, vv, pkS_0⟩ ?_
  rintro i t2 hi ⟨h8, b, h7, hpk⟩
  by_cases hin : i < n
  case neg =>
    have hie : i = n := by omega
    subst hie
    have c2 : ¬ (i : Int) < (i : Int) := by omega
    have hpk0 := Hid.mk hpk
    rcases hpk with ⟨rfl, hno⟩ | ⟨m, rfl, hmi, hma, hmin⟩
    · have hend : ¬ j < (mrg i c).length := fun hh => by
        obtain ⟨m, h1, h2⟩ := (grd_more hs.out hgrd.out).1 hh
        exact hno m h1 h2
      obtain ⟨e1, e2⟩ := hfin.out j a hgrd.out (.inr hend) (by have := hjm.out; omega)
      rw [e2] at h5
      have c3 : (-1 : Int) < 0 := by decide
      replace hno := Hid.mk hno
      clear e2 hin hi hno hend
      repeat' (with_reducible first | refine x_ops ?_ | refine wk ?_ | ((first | refine gd1 ?_ ?_ | refine gd2 ?_ ?_ | refine gd3 ?_ ?_) <;> (first | exact @False.elim _ | intro hc)))
      exact finV_ret vw (.sl _ _ _)
    · obtain ⟨hjT, hTj, hg2⟩ := grd_pick hs.out hgrd.out hmi hma hmin
      have eo : outT tc ((mrg i c).take (j + 1)) = outT tc ((mrg i c).take j) ++ [.ept (tc m (a m)) 0] := by
        have e1 : (mrg i c)[j]? = some (hdG c a m) := by
          rw [List.getD_eq_getElem?_getD, List.getElem?_eq_getElem hjT] at hTj
          rw [List.getElem?_eq_getElem hjT]; exact congrArg some hTj
        rw [List.take_add_one, e1]
        simp [outT, hdG]
      have hol : (outT tc ((mrg i c).take j)).length = j := by rw [outT_len, List.length_take]; omega
      have c3 : ¬ (m : Int) < 0 := by omega
      have c4 : (m : Int) < (i : Int) := by omega
      have hcm := hc.out m hmi
      have c5 : (a m : Int) < ((c m).length : Int) := by omega
      have g1 := rowsT_at (k := fun m => (c m).length) (tc := tc) hmi
      have g2 := atC_at (a := a) hmi
      have g3 := rowT_at (tc := tc m) hma
      have g4 := rowT_len (k := (c m).length) (tc := tc m)
      have g5 := atC_len (n := i) (a := a)
      have w1 := w_add1 (k := a m) (by omega)
      have c6 : m + 1 ≤ i := by omega
      have w2 := atC_set (a := a) hmi
      replace hmin := Hid.mk hmin
      replace hma := Hid.mk hma
      replace hmi := Hid.mk hmi
      replace hTj := Hid.mk hTj
      replace hjT := Hid.mk hjT
      replace hg2 := Hid.mk hg2
      replace eo := Hid.mk eo
      replace hol := Hid.mk hol
      have hat0 := Hid.mk hat
      clear hin hi
      repeat' (with_reducible first | refine x_ops ?_ | refine wk ?_ | ((first | refine gd1 ?_ ?_ | refine gd2 ?_ ?_ | refine gd3 ?_ ?_) <;> (first | exact @False.elim _ | intro hc)))
      refine x_appb (xs := outT tc ((mrg i c).take j)) (ys := [.ept (tc m (a m)) 0]) vw vw (hst0.out.ap.mono (fun _ _ _ => rfl) (Nat.le_add_right _ _)) (by rw [hol.out, Nat.mul_one]) rfl (by have := hjm.out; omega) (by have := hjm.out; unfold Go.maxLen; omega) (by show M.next + 12 < M.next + 14; omega) ?_
      intro tok2 M2 hap2 hn2 hb2 hf2
      have hat2 := hb2 _ _ _ hat0.out (by show ab ≠ M.next + 12; omega)
      have hn2' : M2.next = M.next + 14 := hn2
      have hlt2 : ab < M2.next := by omega
      clear hat hb2 hf2 hn2 g1 g3
      repeat' (with_reducible first | refine x_ops ?_ | refine wk ?_ | ((first | refine gd1 ?_ ?_ | refine gd2 ?_ ?_ | refine gd3 ?_ ?_) <;> (first | exact @False.elim _ | intro hc)))
      refine nx hjm.out ⟨tok2, _, by rw [eo.out]; exact vw, ⟨hg2.out, put_sameT _ _ _, ?_, hap2.mono (fun q hq ho => ?_) ?_⟩⟩
      · show ab < M.next + 14; omega
      · exact put_otherT _ _ (fun e => by subst e; rw [hat2] at ho; cases ho)
      · exact Nat.le_of_eq hn2'
  have c2 : (i : Int) < (n : Int) := by omega
  have w1 := w_add1 (k := i) (by omega)
  have g1 := rowsT_at (k := fun m => (c m).length) (tc := tc) hin
  have g2 := atC_at (a := a) hin
  have g5 := atC_len (n := n) (a := a)
  by_cases ha : a i < (c i).length
  case neg =>
    have c3 : ¬ (a i : Int) < ((c i).length : Int) := by omega
    have hp2 := pkS_no hpk ha
    replace hp2 := Hid.mk hp2
    clear hpk ha
    have hin0 := Hid.mk hin
    clear hin hi
    repeat' (with_reducible first | refine x_ops ?_ | simp only [go_sem, Nat.reduceAdd, Nat.reduceEqDiff, Nat.reduceLT, Nat.reduceLeDiff, Nat.reduceMul, Nat.reduceSub, Nat.reducePow, Nat.reduceDiv, Nat.reduceMod, Nat.reduceBEq, Int.reduceBEq, Int.reduceLT, reduceIte, tIs, tBs, tPs, vund, *] | ((first | refine gd1 ?_ ?_ | refine gd2 ?_ ?_ | refine gd3 ?_ ?_) <;> (first | exact @False.elim _ | intro hc)))
    exact nf hin0.out ⟨vv, b, vw, hp2.out⟩ rfl
  have c3 : (a i : Int) < ((c i).length : Int) := by omega
  have d1 := htc.out i (a i) hin ha
  have g3 := rowT_at (tc := tc i) ha
  have g4 := rowT_len (k := (c i).length) (tc := tc i)
  have hpk0 := Hid.mk hpk
  rcases hpk with ⟨rfl, hno⟩ | ⟨m, rfl, hmi, hma, hmin⟩
  · have c4 : (-1 : Int) < 0 := by decide
    have hp2 := Hid.mk (pkS_new hpk0.out ha)
    have hin0 := Hid.mk hin
    replace hno := Hid.mk hno
    clear ha hin hi
    repeat' (with_reducible first | refine x_ops ?_ | simp only [go_sem, Nat.reduceAdd, Nat.reduceEqDiff, Nat.reduceLT, Nat.reduceLeDiff, Nat.reduceMul, Nat.reduceSub, Nat.reducePow, Nat.reduceDiv, Nat.reduceMod, Nat.reduceBEq, Int.reduceBEq, Int.reduceLT, reduceIte, tIs, tBs, tPs, vund, *] | ((first | refine gd1 ?_ ?_ | refine gd2 ?_ ?_ | refine gd3 ?_ ?_) <;> (first | exact @False.elim _ | intro hc)))
    exact nf hin0.out ⟨vv, _, vv, hp2.out⟩ rfl
  have c4 : ¬ (m : Int) < 0 := by omega
  have hmn : m < n := by omega
  have c5 : (m : Int) < (n : Int) := by omega
  have c6 : (a m : Int) < ((c m).length : Int) := by omega
  have d2 := htc.out m (a m) hmn hma
  have g6 := rowsT_at (k := fun m => (c m).length) (tc := tc) hmn
  have g7 := atC_at (a := a) hmn
  have g8 := rowT_at (tc := tc m) hma
  have g9 := rowT_len (k := (c m).length) (tc := tc m)
  have hin0 := Hid.mk hin
  have hpl := Hid.mk (fun h => pkS_lt hpk0.out ha h)
  have hpg := Hid.mk (fun h => pkS_ge hpk0.out h)
  replace hmin := Hid.mk hmin
  clear ha hin hi hma hmn hmi
  by_cases hlt2 : (c i).getD (a i) 0 < (c m).getD (a m) 0
  · have hp2 := Hid.mk (hpl.out hlt2)
    repeat' (with_reducible first | refine x_ops ?_ | simp only [go_sem, Nat.reduceAdd, Nat.reduceEqDiff, Nat.reduceLT, Nat.reduceLeDiff, Nat.reduceMul, Nat.reduceSub, Nat.reducePow, Nat.reduceDiv, Nat.reduceMod, Nat.reduceBEq, Int.reduceBEq, Int.reduceLT, reduceIte, tIs, tBs, tPs, vund, *] | ((first | refine gd1 ?_ ?_ | refine gd2 ?_ ?_ | refine gd3 ?_ ?_) <;> (first | exact @False.elim _ | intro hc)))
    exact nf hin0.out ⟨vv, _, vv, hp2.out⟩ rfl
  · have hp2 := Hid.mk (hpg.out hlt2)
    repeat' (with_reducible first | refine x_ops ?_ | simp only [go_sem, Nat.reduceAdd, Nat.reduceEqDiff, Nat.reduceLT, Nat.reduceLeDiff, Nat.reduceMul, Nat.reduceSub, Nat.reducePow, Nat.reduceDiv, Nat.reduceMod, Nat.reduceBEq, Int.reduceBEq, Int.reduceLT, reduceIte, tIs, tBs, tPs, vund, *] | ((first | refine gd1 ?_ ?_ | refine gd2 ?_ ?_ | refine gd3 ?_ ?_) <;> (first | exact @False.elim _ | intro hc)))
    exact nf hin0.out ⟨vv, _, vw, hp2.out⟩ rfl
end Go.Proofs.Ytojjdkoglhecbaa
namespace Go.Proofs.Ytojjdkoglhecbaa
open Go.RowKit

/-- Nothing old is changed; or at most the row of this token. -/
def Kf (M M' : Mm) : Prop := M.next ≤ M'.next ∧ ∀ q, q < M.next → M'.obj q = M.obj q
def Kt (tok : Tok) (M M' : Mm) : Prop := M.next ≤ M'.next ∧ ∀ q, q < M.next → tok ≠ .own q → M'.obj q = M.obj q
theorem Kf.refl (M : Mm) : Kf M M := ⟨Nat.le_refl _, fun _ _ => rfl⟩
theorem Kf.trans {M M1 M2 : Mm} (h : Kf M M1) (k : Kf M1 M2) : Kf M M2 := ⟨Nat.le_trans h.1 k.1, fun q hq => (k.2 q (Nat.lt_of_lt_of_le hq h.1)).trans (h.2 q hq)⟩
theorem Kf.apb {M M' : Mm} (h : Kf M M') {k : Tok} {n : Nat} {e : TypeId} {z : Nat} (ha : Apb M k n e z) : Apb M' k n e z := ha.mono (fun t ht _ => h.2 t ht) h.1
theorem Kt.box {tok : Tok} {M M' : Mm} (h : Kt tok M M') {n : Nat} {e : TypeId} {z : Nat} (ha : Apb M tok n e z) {q : Nat} (hq : q < M.next) {cs : List V} {ty : TypeId} (ho : M.obj q = some (.box cs ty)) : M'.obj q = some (.box cs ty) := by
  rw [h.2 q hq, ho]
  rintro rfl
  rcases ha with h1 | ⟨t, h1, _, h3⟩
  · cases h1
  · injection h1 with h1; subst h1; rw [ho] at h3; cases h3
/-- Two rows of different things are two rows; a row is no box. -/
theorem apbT_ne {m : Mm} {k k' : Tok} {n n' : Nat} {e e' : TypeId} {z z' : Nat} (h : Apb m k n e z) (h' : Apb m k' n' e' z') (he : e ≠ e') : ∀ q, k = .own q → k' ≠ .own q := by
  rintro q rfl rfl
  rcases h with h | ⟨t, h1, _, h2⟩
  · cases h
  · rcases h' with h | ⟨t', h3, _, h4⟩
    · cases h
    · injection h1 with h1; injection h3 with h3
      subst h1; subst h3
      rw [h2] at h4
      injection h4 with h4
      injection h4 with _ h4
      exact he h4
theorem apbT_box {m : Mm} {k : Tok} {n : Nat} {e : TypeId} {z : Nat} (h : Apb m k n e z) {q : Nat} {cs : List V} {t : TypeId} (hq : m.obj q = some (.box cs t)) : k ≠ .own q := by
  rintro rfl
  rcases h with h | ⟨t, h1, _, h3⟩
  · cases h
  · injection h1 with h1; subst h1; rw [hq] at h3; cases h3
/-- What a token's row is: the old one, or a new one. -/
def Ks (tok : Tok) (M : Mm) (tok' : Tok) : Prop := ∀ q, tok' = .own q → tok = .own q ∨ M.next ≤ q
section
variable {P : Program} {G : Ground}
/-- A slice that may grow does. -/
theorem x_appg {base i : Nat} {d : Option Nat} {e : TypeId} {size bytes : Nat} {x y : Opd} {l : List VI} {s : St} {K : St → Prop} {n j : Nat} {xs ys : List V} {k k2 : Tok} (hx : s.ev x = .sl n xs k) (hy : s.ev y = .sl j ys k2) (hap : Apb s.m k n e size)
    (h1 : xs.length = n * size) (h2 : ys.length = j * size) (h3 : (n + j) * bytes ≤ 140737488355328) (h4 : n + j ≤ maxLen) (h0 : base + i < s.m.next)
    (h : ∀ k' m', Apb m' k' (n + j) e size → (∀ q, k' = .own q → k = .own q ∨ q = base + i) → m'.next = s.m.next → (∀ q, q ≠ base + i → k ≠ .own q → m'.obj q = s.m.obj q) → goR P G base (some ⟨putT s.t d (.sl (n + j) (xs ++ ys) k'), m'⟩) l (i + 1) K) :
    vrun P G base i (⟨d, none, .app e size bytes, [x, y], none⟩ :: l) s K := by
  rw [vrun]
  unfold vstep VI.on
  simp only [if_true, List.map_cons, List.map_nil, hx, hy, sem]
  refine ⟨h1, h2, h3, h4, ?_⟩
  rcases hap with rfl | ⟨t, rfl, ht, ho⟩
  · exact goR_vrun l (i + 1) _ (h _ _ (.inr ⟨base + i, rfl, h0, if_pos rfl⟩) (fun q e => .inr (by injection e with e; exact e.symm)) rfl (fun q hne _ => if_neg hne))
  · simp only [ho]
    exact ⟨rfl, trivial, trivial, trivial, goR_vrun l (i + 1) _ (h _ _ (.inr ⟨t, rfl, ht, if_pos rfl⟩) (fun q e => .inl e) rfl (fun q _ hne => if_neg fun e => hne (by rw [e])))⟩
end
/-- The tails by way of a grip. -/
def rwLT (pos : Int) (fv : V) (ow st : Int) (cst : Nat → Int) (ac : Nat → List V) (m : Nat) : List V := [vint pos, fv, vint (ow + st + cst m), .ept (ac m) 0]
theorem rwL_snocT {f : Nat → List V} {m : Nat} : (List.range (m + 1)).map (fun r => V.ept (f r) 0) = (List.range m).map (fun r => V.ept (f r) 0) ++ [.ept (f m) 0] := by rw [List.range_succ, List.map_append]; rfl

set_option maxHeartbeats 4000000 in
theorem search_list {n k fn : Nat} {ak : Nat → Nat} {ac : Nat → Nat → List V} {cst : Nat → Int} {pos ow st : Int} {isB : Bool} {fl xs : List V} {t : Nat → V} {M : Mm} {gb : Nat} {k9 tok : Tok}
    (hk : k < n) (hn : n ≤ 1000) (s9 : t 9 = .sl n (rowsT n ak ac) k9) (s13 : t 13 = .ptr gb 0) (o13 : M.obj gb = some (.box [vint pos, .sl fn fl .no] 53)) (l13 : gb < M.next) (s14 : t 14 = vint ow) (s15 : t 15 = .sl k xs tok) (hxs : xs.length = k) (hap : Apb M tok k 171 1)
    (s16 : t 16 = vint k) (s17 : t 17 = vint st) (s18 : t 18 = vbool isB) (hak : ak k ≤ 1000) (hc : ∀ m, m < ak k → (ac k m)[2]? = some (.lit (.int .i64 (cst m)))) (hb : 0 ≤ ow ∧ ow ≤ 1000000000) (hb2 : 0 ≤ st ∧ st ≤ 1000000000) (hb3 : ∀ m, m < ak k → 0 ≤ cst m ∧ cst m ≤ 1000000000) :
    (c_theorboref06_search_b_p9).vx Try.prog Gd (fun e s' => e = .nrm ∧ ∃ tok', s'.t 15 = .sl (k + 1) (xs ++ [rowT (if isB = true then ak k else 0) (rwLT pos (.sl fn fl .no) ow st cst (ac k))]) tok' ∧ Apb s'.m tok' (k + 1) 171 1 ∧ Ks tok M tok' ∧ Kt tok M s'.m) ⟨t, M⟩ := by
  unfold c_theorboref06_search_b_p9
  have hlast : ∀ (t' : Nat → V) (M' : Mm) (q : Nat) (tk : Tok), t' 15 = .sl k xs tok → t' 19 = .sl q ((List.range q).map fun r => V.ept (rwLT pos (.sl fn fl .no) ow st cst (ac k) r) 0) tk → Kf M M' →
      (c_theorboref06_search_b_p7).vx Try.prog Gd (fun e s' => e = .nrm ∧ ∃ tok', s'.t 15 = .sl (k + 1) (xs ++ [rowT q (rwLT pos (.sl fn fl .no) ow st cst (ac k))]) tok' ∧ Apb s'.m tok' (k + 1) 171 1 ∧ Ks tok M tok' ∧ Kt tok M s'.m) ⟨t', M'⟩ := by
    intro t' M' q tk h15 h19 hkb
    unfold c_theorboref06_search_b_p7
    have hkb0 := Hid.mk hkb
    clear s9 s13 s14 s15 s16 s17 s18 hkb o13
    repeat' (with_reducible first | refine x_ops ?_ | refine wk ?_ | ((first | refine gd1 ?_ ?_ | refine gd2 ?_ ?_ | refine gd3 ?_ ?_) <;> (first | exact @False.elim _ | intro hc)))
    refine x_appg (xs := xs) (ys := [rowT q (rwLT pos (.sl fn fl .no) ow st cst (ac k))]) vw vw ((hkb0.out.apb hap).mono (fun _ _ _ => rfl) (Nat.le_add_right _ _)) (by rw [hxs, Nat.mul_one]) rfl (by omega) (by unfold Go.maxLen; omega) (by show M'.next + 3 < M'.next + 5; omega) ?_
    intro tok2 M2 hap2 htk hn2 hf2
    have hks : Ks tok M tok2 := fun p hp => (htk p hp).imp id fun h => by subst h; exact Nat.le_trans hkb0.out.1 (Nat.le_add_right _ _)
    have hkt : Kt tok M M2 := ⟨Nat.le_trans hkb0.out.1 (by rw [hn2]; exact Nat.le_add_right _ _), fun p hp hne => (hf2 p (by have := hkb0.out.1; show ¬ p = M'.next + 3; omega) hne).trans (hkb0.out.2 p hp)⟩
    replace hks := Hid.mk hks
    replace hkt := Hid.mk hkt
    clear hn2 hf2 htk
    repeat' (with_reducible first | refine x_ops ?_ | refine wk ?_ | ((first | refine gd1 ?_ ?_ | refine gd2 ?_ ?_ | refine gd3 ?_ ?_) <;> (first | exact @False.elim _ | intro hc)))
    exact ⟨_, rfl, hap2, hks.out, hkt.out⟩
  have c5 : (k : Int) < (n : Int) := by omega
  have g1 := rowsT_at (k := ak) (tc := ac) hk
  have gl := rowsT_len (n := n) (k := ak) (tc := ac)
  have hap0 := Hid.mk hap
  replace hlast := Hid.mk hlast
  replace hc := Hid.mk hc
  replace hb3 := Hid.mk hb3
  cases isB
  case false =>
    clear c5 g1
    have o13' := Hid.mk o13
    clear o13
    repeat' (with_reducible first | refine x_ops ?_ | refine wk ?_ | ((first | refine gd1 ?_ ?_ | refine gd2 ?_ ?_ | refine gd3 ?_ ?_) <;> (first | exact @False.elim _ | intro hc)))
    refine x_loopF w_theorboref06_search_b_p5 kr 0 (fun m t => t 15 = .sl k xs tok ∧ t 19 = .sl 0 [] .exact ∧ t 18 = vbool false) ⟨vw, vv, vw⟩ ?_
    rintro m t2 hm ⟨f15, f19, f18⟩
    repeat' (with_reducible first | refine x_ops ?_ | simp only [go_sem, Nat.reduceAdd, Nat.reduceEqDiff, Nat.reduceLT, Nat.reduceLeDiff, Nat.reduceMul, Nat.reduceSub, Nat.reducePow, Nat.reduceDiv, Nat.reduceMod, Nat.reduceBEq, Int.reduceBEq, Int.reduceLT, reduceIte, tIs, tBs, tPs, vund, *] | ((first | refine gd1 ?_ ?_ | refine gd2 ?_ ?_ | refine gd3 ?_ ?_) <;> (first | exact @False.elim _ | intro hc)))
    refine vx_mono (hlast.out _ M 0 .exact ?_ ?_ (Kf.refl M)) fun e s' h => h
    · exact vw
    · exact vw
  rw [if_pos rfl]
  refine x_gen (fun t => t 9 = .sl n (rowsT n ak ac) k9 ∧ t 13 = .ptr gb 0 ∧ t 14 = vint ow ∧ t 15 = .sl k xs tok ∧ t 16 = vint k ∧ t 17 = vint st ∧ t 18 = vbool true) ⟨s9, s13, s14, s15, s16, s17, s18⟩ ?_
  clear s9 s13 s14 s15 s16 s17 s18
  rintro t0 ⟨s9, s13, s14, s15, s16, s17, s18⟩
  have o13' := Hid.mk o13
  clear o13
  repeat' (with_reducible first | refine x_ops ?_ | refine wk ?_ | ((first | refine gd1 ?_ ?_ | refine gd2 ?_ ?_ | refine gd3 ?_ ?_) <;> (first | exact @False.elim _ | intro hc)))
  refine x_loopW w_theorboref06_search_b_p5 kr (ak k) (fun m t M' => t 20 = vint (m : Int) ∧ (∃ tk, t 19 = .sl m ((List.range m).map fun r => V.ept (rwLT pos (.sl fn fl .no) ow st cst (ac k) r) 0) tk ∧ Apb M' tk m 168 1 ∧ Ks .exact M tk) ∧ Kf M M') ⟨vv, ⟨.exact, vv, .inl rfl, fun q e => by cases e⟩, Kf.refl M⟩ ?_
  rintro m t2 M' hm ⟨f20, ⟨tk, f19, hal, hks⟩, hkb⟩
  by_cases hml : m < ak k
  case neg =>
    have hme : m = ak k := by omega
    subst hme
    have c1 : ¬ (ak k : Int) < (ak k : Int) := by omega
    replace hal := Hid.mk hal
    replace hks := Hid.mk hks
    replace hkb := Hid.mk hkb
    clear hml hm
    repeat' (with_reducible first | refine x_ops ?_ | refine wk ?_ | ((first | refine gd1 ?_ ?_ | refine gd2 ?_ ?_ | refine gd3 ?_ ?_) <;> (first | exact @False.elim _ | intro hc)))
    refine vx_mono (hlast.out _ M' (ak k) tk ?_ ?_ hkb.out) fun e s' h => h
    · exact vw
    · exact vw
  have c1 : (m : Int) < (ak k : Int) := by omega
  have g2 := rowT_at (tc := ac k) hml
  have g3 := rowT_len (k := ak k) (tc := ac k)
  have hc1 := hc.out m hml
  have hb4 := hb3.out m hml
  have w1 := w_add1 (k := m) (by omega)
  have w2 : IntKind.i64.wrap (ow + st) = ow + st := w_in (by omega)
  have w3 : IntKind.i64.wrap (ow + st + cst m) = ow + st + cst m := w_in (by omega)
  have o13 := (hkb.2 _ l13).trans o13'.out
  have l13' : gb < M'.next := Nat.lt_of_lt_of_le l13 hkb.1
  have hal0 := Hid.mk hal
  have hks0 := Hid.mk hks
  have hkb0 := Hid.mk hkb
  have hml0 := Hid.mk hml
  clear hal hks hkb hml hm
  repeat' (with_reducible first | refine x_ops ?_ | refine wk ?_ | ((first | refine gd1 ?_ ?_ | refine gd2 ?_ ?_ | refine gd3 ?_ ?_) <;> (first | exact @False.elim _ | intro hc)))
  refine x_appg (xs := (List.range m).map fun r => V.ept (rwLT pos (.sl fn fl .no) ow st cst (ac k) r) 0) (ys := [.ept (rwLT pos (.sl fn fl .no) ow st cst (ac k) m) 0]) vw vw (hal0.out.mono (fun _ _ _ => rfl) (Nat.le_add_right _ _)) (by simp) rfl (by omega) (by unfold Go.maxLen; omega) (by show M'.next + 26 < M'.next + 28; omega) ?_
  intro tk2 M2 hal2 htk hn2 hf2
  have hks2 : Ks .exact M tk2 := fun p hp => (htk p hp).elim (hks0.out p) fun h => by subst h; exact .inr (Nat.le_trans hkb0.out.1 (Nat.le_add_right _ _))
  have hkb2 : Kf M M2 := ⟨Nat.le_trans hkb0.out.1 (by rw [hn2]; exact Nat.le_add_right _ _), fun p hp => (hf2 p (by have := hkb0.out.1; show ¬ p = M'.next + 26; omega) (fun e => (hks0.out p e).elim (fun h => by cases h) (fun h => by omega))).trans (hkb0.out.2 p hp)⟩
  replace hal2 := Hid.mk hal2
  replace hks2 := Hid.mk hks2
  replace hkb2 := Hid.mk hkb2
  clear hn2 hf2 htk
  repeat' (with_reducible first | refine x_ops ?_ | refine wk ?_ | ((first | refine gd1 ?_ ?_ | refine gd2 ?_ ?_ | refine gd3 ?_ ?_) <;> (first | exact @False.elim _ | intro hc)))
  exact nx hml0.out ⟨vv, ⟨tk2, by rw [rwL_snocT]; exact vw, hal2.out, hks2.out⟩, hkb2.out⟩
end Go.Proofs.Ytojjdkoglhecbaa
namespace Go.Proofs.Ytojjdkoglhecbaa
open Go.RowKit
set_option maxRecDepth 100000

abbrev c_hand_list_b_p1 : VC := (.ops 19 [oo 21 .mv [.t 3], oo 22 .mv [.t 3], oo 23 .nilck [.t 22], oo 24 (.fldA 1) [.t 23], od 25 .ld1 [.t 24] [1, 2, 3], oo 26 .mv [.t 0], oo 27 .nilck [.t 26], oo 28 (.fldA 11) [.t 27], od 29 .ld1 [.t 28] [5, 6, 7], oo 30 .mv [.t 4], oo 31 (.ixA 1) [.t 29, .t 30], od 32 .ld1 [.t 31] [5, 6, 7, 8, 9, 10], oo 33 .len [.t 32], od 34 (.mk 150 1 8 [(.lit (.pointer none))]) [.t 33, .t 33] [5, 6, 7, 8, 9, 10, 11, 12], ⟨(some 35), none, (.mkslB 163 1 1 [(.sl 0 [] .exact)] [(0, 1)]), [.t 34], (some [5, 6, 7, 8, 9, 10, 11, 12, 13])⟩, oo 36 (.appM 163 1 24) [.t 25, .t 35], oo 37 .nilck [.t 21], oo 38 (.fldA 1) [.t 37], ⟨none, none, (.st 1), [.t 38, .t 36], none⟩])
abbrev c_hand_list_b_p2 : VC := (.ops 0 [oo 39 (.bin .add) [.t 18, kk 1], oo 18 .mv [.t 39]])
abbrev c_hand_list_b_p3 : VC := (.seq (.block 1 (.seq (.ops 0 [oo 20 .mv [.t 18], oo 4 .mv [.t 20]]) c_hand_list_b_p1)) c_hand_list_b_p2)
abbrev c_hand_list_b_p4 : VC := (.seq (.ops 0 [oo 19 (.bin .lss) [.t 18, .t 17]]) (.seq (.cond (.t 19) .skip (.exit 0)) c_hand_list_b_p3))
@[go_sem] abbrev w_hand_list_b_p4 : Nat := 1099511365648
abbrev c_hand_list_b_p6 : VC := (.ops 0 [oo 60 .mv [.t 3], oo 61 .nilck [.t 60], oo 62 (.fldA 2) [.t 61], oo 63 .ld1 [.t 62], oo 64 .nilck [.t 63], oo 65 (.fldA 1) [.t 64], oo 66 .mv [.t 6], oo 67 .mv [.t 5], oo 68 (.build [li 0, li 0, li 0] [(0, 1), (1, 1), (2, 1)]) [.t 66, .t 67, kk 0], oo 69 (.call 111) [.t 65, .t 68]])
abbrev c_hand_list_b_p7 : VC := (.seq (.ops 0 [oo 58 .mv [.t 6], oo 59 (.bin .neq) [.t 58, kk (-1)]]) (.cond (.t 59) c_hand_list_b_p6 .skip))
abbrev c_hand_list_b_p8 : VC := (.ops 0 [oo 70 (.bin .add) [.t 53, kk 1], oo 53 .mv [.t 70]])
abbrev c_hand_list_b_p9 : VC := (.seq (.block 3 (.seq (.ops 0 [oo 55 .mv [.t 53], oo 56 (.ixA 1) [.t 51, .t 53], oo 57 .ld1 [.t 56], oo 5 .mv [.t 55], oo 6 .mv [.t 57]]) c_hand_list_b_p7)) c_hand_list_b_p8)
abbrev c_hand_list_b_p10 : VC := (.seq (.ops 0 [oo 54 (.bin .lss) [.t 53, .t 52]]) (.seq (.cond (.t 54) .skip (.exit 2)) c_hand_list_b_p9))
@[go_sem] abbrev w_hand_list_b_p10 : Nat := 2361174234235567865952
abbrev c_hand_list_b_p12 : VC := (.seq (.ops 0 [oo 46 .mv [.t 0], oo 47 .nilck [.t 46], oo 48 (.fldA 13) [.t 47], oo 49 .ld1 [.t 48], oo 50 (.ixA 1) [.t 49, kk 0], oo 51 .ld1 [.t 50], oo 52 .len [.t 51], oo 53 .mv [kk 0]]) (.block 2 (.loop c_hand_list_b_p10)))
abbrev c_hand_list_b_p13 : VC := (.seq (.ops 0 [oo 71 .mv [.t 3], oo 2 .mv [.t 71]]) .ret)
abbrev c_hand_list_b_p14 : VC := (.seq (.seq (.ops 0 [oo 40 .mv [.t 0], oo 41 .nilck [.t 40], oo 42 (.fldA 10) [.t 41], oo 43 .ld1 [.t 42], oo 44 .len [.t 43], oo 45 (.bin .gtr) [.t 44, kk 0]]) (.cond (.t 45) c_hand_list_b_p12 .skip)) c_hand_list_b_p13)
abbrev c_hand_list_b_p15 : VC := (.seq (.seq (.ops 0 [oo 13 .mv [.t 0], oo 14 .nilck [.t 13], oo 15 (.fldA 10) [.t 14], oo 16 .ld1 [.t 15], oo 17 .len [.t 16], oo 18 .mv [kk 0]]) (.block 0 (.loop c_hand_list_b_p4))) c_hand_list_b_p14)
abbrev c_hand_list_b_p16 : VC := (.seq (.ops 7 [oo 7 .mv [.t 0], ⟨(some 8), none, (.build [(.sl 0 [] .exact), (.lit .nilFunc)] [(1, 1)]), [(.c (.fn 110 []))], none⟩, ⟨(some 9), none, (.build [(.sl 0 [] .exact), (.sl 0 [] .exact), (.lit .nilFunc), (.lit (.bool false))] [(1, 2)]), [.t 8], none⟩, oo 10 (.box 159) [.t 9], ⟨(some 11), none, (.build [(.lit (.pointer none)), (.sl 0 [] .exact), (.lit (.pointer none))] [(0, 1), (2, 1)]), [.t 7, .t 10], none⟩, oo 12 (.box 162) [.t 11], oo 3 .mv [.t 12]]) c_hand_list_b_p15)
def c_hand_list_b : VC := (.seq (.ops 0 [oo 2 .mv [(.c (.lit (.pointer none)))]]) c_hand_list_b_p16)
theorem k_hand_list_b : Comp Try.prog (fun n => [35,36,1000036].contains n) gtab 74 72 c_hand_list_b [.t 2] := ⟨⟨Try.f74, _, Try.func74, rfl, rfl, kr, kr⟩⟩
abbrev c_hand_lister_node_p1 : VC := (.ops 0 [od 43 .ld1 [.t 7] [], oo 44 .nilck [.t 43], oo 45 (.fldA 1) [.t 44], od 46 .ld1 [.t 3] [], oo 47 .nilck [.t 46], oo 48 (.fldA 0) [.t 47], od 49 .ld1 [.t 48] [3, 4, 5], oo 50 .nilck [.t 49], oo 51 (.fldA 12) [.t 50], od 52 .ld1 [.t 51] [3, 4, 5, 6, 7, 8], od 53 .ld1 [.t 4] [], oo 54 (.ixA 1) [.t 52, .t 53], od 55 .ld1 [.t 54] [3, 4, 5, 6, 7, 8, 9, 10, 11], od 56 .ld1 [.t 5] [], oo 57 (.ixA 1) [.t 55, .t 56], od 58 .ld1 [.t 57] [3, 4, 5, 6, 7, 8, 9, 10, 11, 12, 13, 14], oo 59 (.build [li 0, li 0, li 0] [(0, 1), (1, 1), (2, 1)]) [.t 58, kk (-1), kk 0], oo 60 (.call 111) [.t 45, .t 59]])
abbrev c_hand_lister_node_p2 : VC := (.ops 0 [od 61 .ld1 [.t 3] [], oo 62 .nilck [.t 61], oo 63 (.fldA 0) [.t 62], od 64 .ld1 [.t 63] [0, 1, 2], od 65 .ld1 [.t 4] [], od 66 .ld1 [.t 5] [], oo 67 (.mkfn 138) [.t 7, .t 3, .t 4, .t 5], oo 68 (.call 88) [.t 64, .t 65, .t 66, .t 67]])
def c_hand_lister_node_p3 : VC := (.seq (.seq (.ops 0 [od 32 .ld1 [.t 4] [], od 33 .ld1 [.t 3] [], oo 34 .nilck [.t 33], oo 35 (.fldA 0) [.t 34], od 36 .ld1 [.t 35] [1, 2, 3], oo 37 .nilck [.t 36], oo 38 (.fldA 10) [.t 37], od 39 .ld1 [.t 38] [1, 2, 3, 4, 5, 6], oo 40 .len [.t 39], oo 41 (.bin .sub) [.t 40, kk 1], oo 42 (.bin .eql) [.t 32, .t 41]]) (.cond (.t 42) c_hand_lister_node_p1 .skip)) c_hand_lister_node_p2)
abbrev c_hand_lister_node_p4 : VC := (.seq (.ops 0 [od 22 .ld1 [.t 3] [], oo 23 .nilck [.t 22], oo 24 (.fldA 1) [.t 23], od 25 .ld1 [.t 24] [0, 1, 2], od 26 .ld1 [.t 4] [], oo 27 (.ixA 1) [.t 25, .t 26], od 28 .ld1 [.t 27] [0, 1, 2, 3, 4, 5], od 29 .ld1 [.t 5] [], od 30 .ld1 [.t 7] [], oo 31 (.ixA 1) [.t 28, .t 29], ⟨none, none, (.st 1), [.t 31, .t 30], none⟩]) c_hand_lister_node_p3)
abbrev c_hand_lister_node_p5 : VC := (.seq (.ops 5 [⟨(some 19), none, (.build [(.sl 0 [] .exact), (.lit .nilFunc)] [(1, 1)]), [(.c (.fn 110 []))], none⟩, ⟨(some 20), none, (.build [(.sl 0 [] .exact), (.sl 0 [] .exact), (.lit .nilFunc), (.lit (.bool false))] [(1, 2)]), [.t 19], none⟩, oo 21 (.box 159) [.t 20], oo 7 (.alloc 150 [(.lit (.pointer none))]) [], ⟨none, none, (.st 1), [.t 7, .t 21], none⟩]) c_hand_lister_node_p4)
abbrev c_hand_lister_node_p6 : VC := (.seq (.ops 0 [od 69 .ld1 [.t 3] [], oo 70 .nilck [.t 69], oo 71 (.fldA 1) [.t 70], od 72 .ld1 [.t 71] [0, 1, 2], od 73 .ld1 [.t 4] [], oo 74 (.ixA 1) [.t 72, .t 73], od 75 .ld1 [.t 74] [0, 1, 2, 3, 4, 5], od 76 .ld1 [.t 5] [], oo 77 (.ixA 1) [.t 75, .t 76], oo 78 .ld1 [.t 77], oo 6 .mv [.t 78]]) .ret)
abbrev c_hand_lister_node_p7 : VC := (.seq (.seq (.ops 0 [od 8 .ld1 [.t 3] [], oo 9 .nilck [.t 8], oo 10 (.fldA 1) [.t 9], od 11 .ld1 [.t 10] [0, 1, 2], od 12 .ld1 [.t 4] [], oo 13 (.ixA 1) [.t 11, .t 12], od 14 .ld1 [.t 13] [0, 1, 2, 3, 4, 5], od 15 .ld1 [.t 5] [], oo 16 (.ixA 1) [.t 14, .t 15], oo 17 .ld1 [.t 16], oo 18 (.eqQ false) [.t 17]]) (.cond (.t 18) c_hand_lister_node_p5 .skip)) c_hand_lister_node_p6)
def c_hand_lister_node : VC := (.seq (.ops 4 [oo 3 (.box 110) [.t 0], oo 4 (.box 3) [.t 1], oo 5 (.box 3) [.t 2], oo 6 .mv [(.c (.lit (.pointer none)))]]) c_hand_lister_node_p7)
theorem k_hand_lister_node : Comp Try.prog nobx gtab 134 79 c_hand_lister_node [.t 6] := ⟨⟨Try.f134, _, Try.func134, rfl, rfl, kr, kr⟩⟩
def c_hand_lister_node_1 : VC := (.ops 0 [od 8 .ld1 [.t 2] [], oo 9 .nilck [.t 8], oo 10 (.fldA 1) [.t 9], od 11 .ld1 [.t 3] [], oo 12 .nilck [.t 11], oo 13 (.fldA 0) [.t 12], od 14 .ld1 [.t 13] [3, 4, 5], oo 15 .nilck [.t 14], oo 16 (.fldA 12) [.t 15], od 17 .ld1 [.t 16] [3, 4, 5, 6, 7, 8], od 18 .ld1 [.t 4] [], oo 19 (.ixA 1) [.t 17, .t 18], od 20 .ld1 [.t 19] [3, 4, 5, 6, 7, 8, 9, 10, 11], od 21 .ld1 [.t 5] [], oo 22 (.ixA 1) [.t 20, .t 21], od 23 .ld1 [.t 22] [3, 4, 5, 6, 7, 8, 9, 10, 11, 12, 13, 14], oo 24 .mv [.t 1], oo 25 (.bin .add) [.t 23, .t 24], od 26 .ld1 [.t 3] [], oo 27 .nilck [.t 26], oo 28 (.fldA 0) [.t 27], od 29 .ld1 [.t 28] [18, 19, 20], oo 30 .nilck [.t 29], oo 31 (.fldA 13) [.t 30], od 32 .ld1 [.t 31] [18, 19, 20, 21, 22, 23], od 33 .ld1 [.t 4] [], oo 34 (.bin .add) [.t 33, kk 1], oo 35 (.ixA 1) [.t 32, .t 34], od 36 .ld1 [.t 35] [18, 19, 20, 21, 22, 23, 24, 25, 26, 27], oo 37 .mv [.t 0], oo 38 (.ixA 1) [.t 36, .t 37], od 39 .ld1 [.t 38] [18, 19, 20, 21, 22, 23, 24, 25, 26, 27, 28, 29, 30], oo 40 (.bin .add) [.t 25, .t 39], oo 41 .mv [.t 0], oo 42 (.build [li 0, li 0, li 0] [(0, 1), (1, 1), (2, 1)]) [.t 40, .t 41, kk 0], oo 43 (.call 111) [.t 10, .t 42]])
theorem k_hand_lister_node_1 : Comp Try.prog nobx gtab 138 44 c_hand_lister_node_1 [] := ⟨⟨Try.f138, _, Try.func138, rfl, rfl, kr, kr⟩⟩
abbrev c_hand_lister_get_p1 : VC := (.ops 0 [oo 24 .mv [.t 0], oo 25 .mv [.t 1], oo 26 .mv [.t 2], oo 27 (.call 134) [.t 24, .t 25, .t 26], oo 10 .mv [.t 27]])
abbrev c_hand_lister_get_p2 : VC := (.ops 0 [oo 75 .mv [.t 10], oo 76 .nilck [.t 75], oo 77 (.fldA 1) [.t 76], oo 78 (.fldA 0) [.t 11], od 79 .ld1 [.t 78] [3], oo 80 (.fldA 0) [.t 14], od 81 .ld1 [.t 80] [5], oo 82 (.bin .add) [.t 79, .t 81], oo 83 (.fldA 0) [.t 12], od 84 .ld1 [.t 83] [8], oo 85 (.bin .sub) [.t 82, .t 84], oo 86 (.fldA 1) [.t 11], od 87 .ld1 [.t 86] [11], oo 88 (.fldA 2) [.t 11], od 89 .ld1 [.t 88] [13], oo 90 (.bin .add) [.t 89, kk 1], oo 91 (.build [li 0, li 0, li 0] [(0, 1), (1, 1), (2, 1)]) [.t 85, .t 87, .t 90], oo 92 (.call 111) [.t 77, .t 91]])
abbrev c_hand_lister_get_p3 : VC := (.seq (.ops 0 [oo 74 .mv [.t 15]]) (.cond (.t 74) c_hand_lister_get_p2 .skip))
abbrev c_hand_lister_get_p4 : VC := (.ops 0 [oo 93 .mv [.t 10], oo 94 .nilck [.t 93], oo 95 (.fldA 3) [.t 94], ⟨none, none, (.st 1), [.t 95, (.c (.lit (.bool false)))], none⟩])
abbrev c_hand_lister_get_p5 : VC := (.seq (.seq (.ops 15 [oo 63 .mv [.t 0], oo 64 .mv [.t 1], oo 65 (.bin .add) [.t 64, kk 1], oo 66 (.fldA 1) [.t 11], oo 67 .ld1 [.t 66], oo 68 (.fldA 2) [.t 11], oo 69 .ld1 [.t 68], oo 70 (.bin .add) [.t 69, kk 1], oo 71 (.call 112) [.t 63, .t 65, .t 67, .t 70], oo 62 .mv [.t 71], oo 72 (.ext 0) [.t 62], oo 73 (.ext 1) [.t 62], oo 14 (.alloc 154 [li 0, li 0, li 0]) [], ⟨none, none, (.st 3), [.t 14, .t 72], none⟩, oo 15 .mv [.t 73]]) c_hand_lister_get_p3) c_hand_lister_get_p4)
abbrev c_hand_lister_get_p6 : VC := (.seq (.ops 14 [oo 52 .mv [.t 0], oo 53 .mv [.t 1], oo 54 (.bin .add) [.t 53, kk 1], oo 55 (.fldA 1) [.t 11], oo 56 .ld1 [.t 55], oo 57 (.fldA 2) [.t 11], oo 58 .ld1 [.t 57], oo 59 (.call 112) [.t 52, .t 54, .t 56, .t 58], oo 51 .mv [.t 59], oo 60 (.ext 0) [.t 51], oo 61 (.ext 1) [.t 51], oo 12 (.alloc 154 [li 0, li 0, li 0]) [], ⟨none, none, (.st 3), [.t 12, .t 60], none⟩, oo 13 .mv [.t 61]]) c_hand_lister_get_p5)
abbrev c_hand_lister_get_p7 : VC := (.seq (.ops 14 [oo 39 .mv [.t 10], oo 40 .nilck [.t 39], oo 41 (.fldA 0) [.t 40], od 42 .ld1 [.t 41] [0, 1, 2], oo 43 .mv [.t 10], oo 44 .nilck [.t 43], oo 45 (.fldA 0) [.t 44], od 46 .ld1 [.t 45] [4, 5, 6], oo 47 .len [.t 46], oo 48 (.bin .sub) [.t 47, kk 1], oo 49 (.ixA 3) [.t 42, .t 48], od 50 (.ldA 3) [.t 49] [0, 1, 2, 3, 4, 5, 6, 7, 8, 9, 10], od 11 (.alloc 154 [li 0, li 0, li 0]) [] [], ⟨none, none, (.st 3), [.t 11, .t 50], none⟩]) c_hand_lister_get_p6)
abbrev c_hand_lister_get_p8 : VC := (.seq (.ops 0 [oo 105 (.build [li 0, li 0, li 0] []) [], ⟨none, none, (.st 3), [.t 8, .t 105], none⟩, oo 9 .mv [(.c (.lit (.bool false)))]]) .ret)
abbrev c_hand_lister_get_p9 : VC := (.ops 0 [oo 116 .mv [.t 10], oo 117 (.fldA 1) [.t 16], oo 118 .ld1 [.t 117], oo 119 (.bin .neq) [.t 118, kk (-1)], oo 120 .nilck [.t 116], oo 121 (.fldA 3) [.t 120], ⟨none, none, (.st 1), [.t 121, .t 119], none⟩])
abbrev c_hand_lister_get_p10 : VC := (.seq (.ops 11 [oo 106 .mv [.t 10], oo 107 .mv [.t 10], oo 108 .nilck [.t 107], oo 109 (.fldA 0) [.t 108], od 110 .ld1 [.t 109] [1, 2, 3], od 111 (.ldA 3) [.t 16] [], oo 112 (.mksl 1 3 [li 0, li 0, li 0] [(0, 3)]) [.t 111], oo 113 (.app 154 3 24) [.t 110, .t 112], oo 114 .nilck [.t 106], oo 115 (.fldA 0) [.t 114], ⟨none, none, (.st 1), [.t 115, .t 113], none⟩]) c_hand_lister_get_p9)
abbrev c_hand_lister_get_p11 : VC := (.seq (.seq (.ops 0 [oo 103 .mv [.t 17], oo 104 (.un .not) [.t 103]]) (.cond (.t 104) c_hand_lister_get_p8 .skip)) c_hand_lister_get_p10)
abbrev c_hand_lister_get_p12 : VC := (.seq (.ops 10 [oo 97 .mv [.t 10], oo 98 .nilck [.t 97], oo 99 (.fldA 1) [.t 98], oo 100 (.call 135) [.t 99], oo 96 .mv [.t 100], oo 101 (.ext 0) [.t 96], oo 102 (.ext 1) [.t 96], oo 16 (.alloc 154 [li 0, li 0, li 0]) [], ⟨none, none, (.st 3), [.t 16, .t 101], none⟩, oo 17 .mv [.t 102]]) c_hand_lister_get_p11)
abbrev c_hand_lister_get_p13 : VC := (.block 1 (.seq (.seq (.ops 0 [oo 35 .mv [.t 10], oo 36 .nilck [.t 35], oo 37 (.fldA 3) [.t 36], oo 38 .ld1 [.t 37]]) (.cond (.t 38) c_hand_lister_get_p7 .skip)) c_hand_lister_get_p12))
abbrev c_hand_lister_get_p14 : VC := (.seq (.seq (.ops 0 [oo 28 .mv [.t 10], oo 29 .nilck [.t 28], oo 30 (.fldA 0) [.t 29], oo 31 .ld1 [.t 30], oo 32 .len [.t 31], oo 33 .mv [.t 3], oo 34 (.bin .leq) [.t 32, .t 33]]) (.cond (.t 34) .skip (.exit 0))) c_hand_lister_get_p13)
@[go_sem] abbrev w_hand_lister_get_p14 : Nat := 5316911983139663491615228240853203456
abbrev c_hand_lister_get_p16 : VC := (.seq (.ops 0 [oo 122 .mv [.t 10], oo 123 .nilck [.t 122], oo 124 (.fldA 0) [.t 123], oo 125 .ld1 [.t 124], oo 126 .mv [.t 3], oo 127 (.ixA 3) [.t 125, .t 126], oo 128 (.ldA 3) [.t 127], ⟨none, none, (.st 3), [.t 8, .t 128], none⟩, oo 9 .mv [(.c (.lit (.bool true)))]]) .ret)
def c_hand_lister_get_p17 : VC := (.seq (.block 0 (.loop c_hand_lister_get_p14)) c_hand_lister_get_p16)
abbrev c_hand_lister_get_p18 : VC := (.seq (.seq (.ops 0 [oo 22 .mv [.t 1], oo 23 (.bin .geq) [.t 22, kk 0]]) (.cond (.t 23) c_hand_lister_get_p1 .skip)) c_hand_lister_get_p17)
abbrev c_hand_lister_get_p19 : VC := (.seq (.ops 0 [oo 18 .mv [.t 0], oo 19 .nilck [.t 18], oo 20 (.fldA 2) [.t 19], oo 21 .ld1 [.t 20], oo 10 .mv [.t 21]]) c_hand_lister_get_p18)
def c_hand_lister_get : VC := (.seq (.ops 2 [oo 8 (.alloc 154 [li 0, li 0, li 0]) [], oo 9 .mv [(.c (.lit (.bool false)))]]) c_hand_lister_get_p19)
theorem k_hand_lister_get : Comp Try.prog nobx gtab 112 129 c_hand_lister_get [(.c 8 3 true), .t 9] := ⟨⟨Try.f112, _, Try.func112, rfl, rfl, kr, kr⟩⟩
abbrev c_hand_lister_fingering_p1 : VC := (.seq (.ops 0 [⟨(some 18), none, (.build [(.sl 0 [] .exact), li 0] []), [], none⟩, oo 19 .mv [.t 1], oo 20 (.bin .eql) [.t 19, kk 0], ⟨none, none, (.st 2), [.t 4, .t 18], none⟩, oo 5 .mv [.t 20]]) .ret)
abbrev c_hand_lister_fingering_p2 : VC := (.seq (.ops 0 [⟨(some 29), none, (.build [(.sl 0 [] .exact), li 0] []), [], none⟩, ⟨none, none, (.st 2), [.t 4, .t 29], none⟩, oo 5 .mv [(.c (.lit (.bool false)))]]) .ret)
abbrev c_hand_lister_fingering_p3 : VC := (.ops 0 [oo 70 .mv [.t 0], oo 71 .mv [.t 7], oo 72 (.fldA 1) [.t 6], oo 73 .ld1 [.t 72], oo 74 (.fldA 2) [.t 6], oo 75 .ld1 [.t 74], oo 76 (.call 112) [.t 70, .t 71, .t 73, .t 75], oo 69 .mv [.t 76], oo 77 (.ext 0) [.t 69], oo 78 (.ext 1) [.t 69], ⟨none, none, (.st 3), [.t 6, .t 77], none⟩])
abbrev c_hand_lister_fingering_p4 : VC := (.seq (.ops 12 [oo 58 (.fldA 0) [.t 4], od 59 .ld1 [.t 58] [0], oo 60 (.fldA 0) [.t 8], od 61 .ld1 [.t 60] [2], oo 62 (.fldA 1) [.t 8], od 63 .ld1 [.t 62] [4], od 64 (.call 106) [.t 63] [4, 5], ⟨(some 65), none, (.build [li 0, (.sl 0 [] .exact)] [(0, 1), (1, 1)]), [.t 61, .t 64], none⟩, ⟨(some 66), none, (.mksl 1 2 [li 0, (.sl 0 [] .exact)] [(0, 2)]), [.t 65], none⟩, oo 67 (.app 53 2 32) [.t 59, .t 66], oo 68 (.fldA 0) [.t 4], ⟨none, none, (.st 1), [.t 68, .t 67], none⟩]) c_hand_lister_fingering_p3)
abbrev c_hand_lister_fingering_p5 : VC := (.seq (.ops 16 [oo 44 .mv [.t 0], oo 45 .nilck [.t 44], oo 46 (.fldA 0) [.t 45], od 47 .ld1 [.t 46] [0, 1, 2], oo 48 .nilck [.t 47], oo 49 (.fldA 11) [.t 48], od 50 .ld1 [.t 49] [0, 1, 2, 3, 4, 5], oo 51 .mv [.t 7], oo 52 (.ixA 1) [.t 50, .t 51], od 53 .ld1 [.t 52] [0, 1, 2, 3, 4, 5, 6, 7, 8], oo 54 (.fldA 1) [.t 6], od 55 .ld1 [.t 54] [10], oo 56 (.ixA 2) [.t 53, .t 55], od 57 (.ldA 2) [.t 56] [0, 1, 2, 3, 4, 5, 6, 7, 8, 9, 10, 11, 12], ⟨(some 8), none, (.alloc 53 [li 0, (.sl 0 [] .exact)]), [], (some [])⟩, ⟨none, none, (.st 2), [.t 8, .t 57], none⟩]) c_hand_lister_fingering_p4)
abbrev c_hand_lister_fingering_p6 : VC := (.ops 0 [oo 79 (.bin .add) [.t 41, kk 1], oo 41 .mv [.t 79]])
abbrev c_hand_lister_fingering_p7 : VC := (.seq (.block 1 (.seq (.ops 0 [oo 43 .mv [.t 41], oo 7 .mv [.t 43]]) c_hand_lister_fingering_p5)) c_hand_lister_fingering_p6)
abbrev c_hand_lister_fingering_p8 : VC := (.seq (.cond (.t 42) .skip (.exit 0)) c_hand_lister_fingering_p7)
abbrev c_hand_lister_fingering_p9 : VC := (.seq (.ops 0 [oo 42 (.bin .lss) [.t 41, .t 40]]) c_hand_lister_fingering_p8)
@[go_sem] abbrev w_hand_lister_fingering_p9 : Nat := 1208925819612430151451008
abbrev c_hand_lister_fingering_p11 : VC := (.seq (.ops 0 [oo 80 (.ldA 2) [.t 4], ⟨none, none, (.st 2), [.t 4, .t 80], none⟩, oo 5 .mv [(.c (.lit (.bool true)))]]) .ret)
abbrev c_hand_lister_fingering_p12 : VC := (.seq (.seq (.ops 0 [oo 33 .mv [.t 0], oo 34 .nilck [.t 33], oo 35 (.fldA 0) [.t 34], oo 36 .ld1 [.t 35], oo 37 .nilck [.t 36], oo 38 (.fldA 10) [.t 37], oo 39 .ld1 [.t 38], oo 40 .len [.t 39], oo 41 .mv [kk 0]]) (.block 0 (.loop c_hand_lister_fingering_p9))) c_hand_lister_fingering_p11)
abbrev c_hand_lister_fingering_p13 : VC := (.seq (.ops 0 [oo 30 (.fldA 0) [.t 6], oo 31 .ld1 [.t 30], oo 32 (.fldA 1) [.t 4], ⟨none, none, (.st 1), [.t 32, .t 31], none⟩]) c_hand_lister_fingering_p12)
abbrev c_hand_lister_fingering_p14 : VC := (.seq (.seq (.ops 0 [oo 27 .mv [.t 5], oo 28 (.un .not) [.t 27]]) (.cond (.t 28) c_hand_lister_fingering_p2 .skip)) c_hand_lister_fingering_p13)
abbrev c_hand_lister_fingering_p15 : VC := (.seq (.ops 9 [oo 22 .mv [.t 0], oo 23 .mv [.t 1], oo 24 (.call 112) [.t 22, kk (-1), kk 0, .t 23], oo 21 .mv [.t 24], oo 25 (.ext 0) [.t 21], oo 26 (.ext 1) [.t 21], oo 6 (.alloc 154 [li 0, li 0, li 0]) [], ⟨none, none, (.st 3), [.t 6, .t 25], none⟩, oo 5 .mv [.t 26]]) c_hand_lister_fingering_p14)
abbrev c_hand_lister_fingering_p16 : VC := (.seq (.seq (.ops 0 [oo 9 .mv [.t 0], oo 10 .nilck [.t 9], oo 11 (.fldA 0) [.t 10], oo 12 .ld1 [.t 11], oo 13 .nilck [.t 12], oo 14 (.fldA 10) [.t 13], oo 15 .ld1 [.t 14], oo 16 .len [.t 15], oo 17 (.bin .eql) [.t 16, kk 0]]) (.cond (.t 17) c_hand_lister_fingering_p1 .skip)) c_hand_lister_fingering_p15)
def c_hand_lister_fingering : VC := (.seq (.ops 2 [⟨(some 4), none, (.alloc 40 [(.sl 0 [] .exact), li 0]), [], none⟩, oo 5 .mv [(.c (.lit (.bool false)))]]) c_hand_lister_fingering_p16)
theorem k_hand_lister_fingering : Comp Try.prog nobx gtab 75 81 c_hand_lister_fingering [(.c 4 2 true), .t 5] := ⟨⟨Try.f75, _, Try.func75, rfl, rfl, kr, kr⟩⟩
abbrev c_hand_first_p1 : VC := (.seq (.ops 0 [⟨(some 14), none, (.build [(.sl 0 [] .exact), li 0] []), [], none⟩, ⟨none, none, (.st 2), [.t 2, .t 14], none⟩, oo 3 .mv [kk 62]]) .ret)
abbrev c_hand_first_p2 : VC := (.seq (.ops 0 [oo 15 (.ldA 2) [.t 4], ⟨none, none, (.st 2), [.t 2, .t 15], none⟩, oo 3 .mv [kk 0]]) .ret)
abbrev c_hand_first_p3 : VC := (.seq (.seq (.ops 0 [oo 12 .mv [.t 5], oo 13 (.un .not) [.t 12]]) (.cond (.t 13) c_hand_first_p1 .skip)) c_hand_first_p2)
abbrev c_hand_first_p4 : VC := (.seq (.ops 9 [oo 7 .mv [.t 0], oo 8 (.call 74) [.t 7], oo 9 (.call 75) [.t 8, kk 0], oo 6 .mv [.t 9], oo 10 (.ext 0) [.t 6], oo 11 (.ext 1) [.t 6], ⟨(some 4), none, (.alloc 40 [(.sl 0 [] .exact), li 0]), [], none⟩, ⟨none, none, (.st 2), [.t 4, .t 10], none⟩, oo 5 .mv [.t 11]]) c_hand_first_p3)
def c_hand_first : VC := (.seq (.ops 2 [⟨(some 2), none, (.alloc 40 [(.sl 0 [] .exact), li 0]), [], none⟩, oo 3 .mv [kk 0]]) c_hand_first_p4)
theorem k_hand_first : Comp Try.prog nobx gtab 70 16 c_hand_first [(.c 2 2 true), .t 3] := ⟨⟨Try.f70, _, Try.func70, rfl, rfl, kr, kr⟩⟩
abbrev c_hand_queue_hand_way_push_b_p1 : VC := (.ops 0 [oo 46 .mv [.t 4], oo 47 (.bin .sub) [.t 46, kk 1], oo 48 (.bin .quo) [.t 47, kk 2], oo 4 .mv [.t 48]])
abbrev c_hand_queue_hand_way_push_b_p2 : VC := (.seq (.block 1 (.ops 0 [oo 49 .mv [.t 0], oo 50 .nilck [.t 49], oo 51 (.fldA 0) [.t 50], od 52 .ld1 [.t 51] [0, 1, 2], oo 53 .mv [.t 4], oo 54 .mv [.t 0], oo 55 .nilck [.t 54], oo 56 (.fldA 0) [.t 55], od 57 .ld1 [.t 56] [5, 6, 7], oo 58 .mv [.t 4], oo 59 (.bin .sub) [.t 58, kk 1], oo 60 (.bin .quo) [.t 59, kk 2], oo 61 .mv [.t 0], oo 62 .nilck [.t 61], oo 63 (.fldA 0) [.t 62], od 64 .ld1 [.t 63] [12, 13, 14], oo 65 .mv [.t 4], oo 66 (.bin .sub) [.t 65, kk 1], oo 67 (.bin .quo) [.t 66, kk 2], oo 68 (.ixA 3) [.t 64, .t 67], od 69 (.ldA 3) [.t 68] [12, 13, 14, 15, 16, 17, 18, 19], oo 70 .mv [.t 0], oo 71 .nilck [.t 70], oo 72 (.fldA 0) [.t 71], od 73 .ld1 [.t 72] [21, 22, 23], oo 74 .mv [.t 4], oo 75 (.ixA 3) [.t 73, .t 74], od 76 (.ldA 3) [.t 75] [21, 22, 23, 24, 25, 26], oo 77 (.ixA 3) [.t 52, .t 53], ⟨none, none, (.st 3), [.t 77, .t 69], none⟩, oo 78 (.ixA 3) [.t 57, .t 60], ⟨none, none, (.st 3), [.t 78, .t 76], none⟩])) c_hand_queue_hand_way_push_b_p1)
abbrev c_hand_queue_hand_way_push_b_p3 : VC := (.seq (.seq (.ops 0 [oo 21 .mv [.t 4], oo 22 (.bin .gtr) [.t 21, kk 0], oo 23 .mv [.t 22], og 24 23 true .mv [.t 0], og 25 23 true .nilck [.t 24], og 26 23 true (.fldA 1) [.t 25], ⟨(some 27), (some (23, true)), .ld1, [.t 26], (some [0, 1, 2, 3, 4, 5])⟩, og 28 23 true .mv [.t 0], og 29 23 true .nilck [.t 28], og 30 23 true (.fldA 0) [.t 29], ⟨(some 31), (some (23, true)), .ld1, [.t 30], (some [0, 1, 2, 7, 8, 9])⟩, og 32 23 true .mv [.t 4], og 33 23 true (.ixA 3) [.t 31, .t 32], ⟨(some 34), (some (23, true)), (.ldA 3), [.t 33], (some [0, 1, 2, 7, 8, 9, 10, 11, 12])⟩, og 35 23 true .mv [.t 0], og 36 23 true .nilck [.t 35], og 37 23 true (.fldA 0) [.t 36], ⟨(some 38), (some (23, true)), .ld1, [.t 37], (some [0, 1, 2, 14, 15, 16])⟩, og 39 23 true .mv [.t 4], og 40 23 true (.bin .sub) [.t 39, kk 1], og 41 23 true (.bin .quo) [.t 40, kk 2], og 42 23 true (.ixA 3) [.t 38, .t 41], ⟨(some 43), (some (23, true)), (.ldA 3), [.t 42], (some [0, 1, 2, 14, 15, 16, 17, 18, 19, 20, 21])⟩, og 44 23 true .callv [.t 27, .t 34, .t 43], oo 45 .pick [.t 23, .t 44, (.c (.lit (.bool false)))]]) (.cond (.t 45) .skip (.exit 0))) c_hand_queue_hand_way_push_b_p2)
@[go_sem] abbrev w_hand_queue_hand_way_push_b_p3 : Nat := 604462909807314585255952
abbrev c_hand_queue_hand_way_push_b_p5 : VC := (.seq (.ops 0 [oo 15 .mv [.t 0], oo 16 .nilck [.t 15], oo 17 (.fldA 0) [.t 16], oo 18 .ld1 [.t 17], oo 19 .len [.t 18], oo 20 (.bin .sub) [.t 19, kk 1], oo 4 .mv [.t 20]]) (.block 0 (.loop c_hand_queue_hand_way_push_b_p3)))
abbrev c_hand_queue_hand_way_push_b_p6 : VC := (.seq (.ops 11 [oo 5 .mv [.t 0], oo 6 .mv [.t 0], oo 7 .nilck [.t 6], oo 8 (.fldA 0) [.t 7], od 9 .ld1 [.t 8] [1, 2, 3], od 10 (.ldA 3) [.t 3] [], oo 11 (.mksl 1 3 [li 0, li 0, li 0] [(0, 3)]) [.t 10], oo 12 (.appM 154 3 24) [.t 9, .t 11], oo 13 .nilck [.t 5], oo 14 (.fldA 0) [.t 13], ⟨none, none, (.st 1), [.t 14, .t 12], none⟩]) c_hand_queue_hand_way_push_b_p5)
def c_hand_queue_hand_way_push_b : VC := (.seq (.ops 1 [oo 3 (.box 154) [.t 1]]) c_hand_queue_hand_way_push_b_p6)
theorem k_hand_queue_hand_way_push_b : Comp Try.prog (fun n => [12,1000012].contains n) gtab 111 79 c_hand_queue_hand_way_push_b [] := ⟨⟨Try.f111, _, Try.func111, rfl, rfl, kr, kr⟩⟩
abbrev c_hand_queue_hand_way_pop_p1 : VC := (.seq (.ops 0 [oo 14 (.ldA 3) [.t 2], ⟨none, none, (.st 3), [.t 2, .t 14], none⟩, oo 3 .mv [(.c (.lit (.bool false)))]]) .ret)
abbrev c_hand_queue_hand_way_pop_p2 : VC := (.ops 0 [oo 83 .mv [.t 7], oo 6 .mv [.t 83]])
abbrev c_hand_queue_hand_way_pop_p3 : VC := (.ops 0 [oo 62 .mv [.t 7], oo 63 (.bin .add) [.t 62, kk 1], oo 7 .mv [.t 63]])
abbrev c_hand_queue_hand_way_pop_p4 : VC := (.seq (.block 3 (.seq (.ops 0 [oo 64 .mv [.t 0], oo 65 .nilck [.t 64], oo 66 (.fldA 1) [.t 65], od 67 .ld1 [.t 66] [0, 1, 2], oo 68 .mv [.t 0], oo 69 .nilck [.t 68], oo 70 (.fldA 0) [.t 69], od 71 .ld1 [.t 70] [4, 5, 6], oo 72 .mv [.t 7], oo 73 (.ixA 3) [.t 71, .t 72], od 74 (.ldA 3) [.t 73] [4, 5, 6, 7, 8, 9], oo 75 .mv [.t 0], oo 76 .nilck [.t 75], oo 77 (.fldA 0) [.t 76], od 78 .ld1 [.t 77] [11, 12, 13], oo 79 .mv [.t 6], oo 80 (.ixA 3) [.t 78, .t 79], od 81 (.ldA 3) [.t 80] [11, 12, 13, 14, 15, 16], oo 82 .callv [.t 67, .t 74, .t 81]]) (.cond (.t 82) c_hand_queue_hand_way_pop_p2 .skip))) c_hand_queue_hand_way_pop_p3)
abbrev c_hand_queue_hand_way_pop_p5 : VC := (.seq (.seq (.ops 0 [oo 52 .mv [.t 7], oo 53 .mv [.t 5], oo 54 (.bin .mul) [kk 2, .t 53], oo 55 (.bin .add) [.t 54, kk 2], oo 56 (.bin .leq) [.t 52, .t 55], oo 57 .mv [.t 56], og 58 57 true .mv [.t 7], og 59 57 true .mv [.t 4], og 60 57 true (.bin .lss) [.t 58, .t 59], oo 61 .pick [.t 57, .t 60, (.c (.lit (.bool false)))]]) (.cond (.t 61) .skip (.exit 2))) c_hand_queue_hand_way_pop_p4)
@[go_sem] abbrev w_hand_queue_hand_way_pop_p5 : Nat := 19342813109330467167928512
abbrev c_hand_queue_hand_way_pop_p7 : VC := (.seq (.ops 0 [oo 87 (.ldA 3) [.t 2], ⟨none, none, (.st 3), [.t 2, .t 87], none⟩, oo 3 .mv [(.c (.lit (.bool true)))]]) .ret)
abbrev c_hand_queue_hand_way_pop_p8 : VC := (.ops 0 [oo 114 .mv [.t 6], oo 5 .mv [.t 114]])
abbrev c_hand_queue_hand_way_pop_p9 : VC := (.seq (.ops 0 [oo 88 .mv [.t 0], oo 89 .nilck [.t 88], oo 90 (.fldA 0) [.t 89], od 91 .ld1 [.t 90] [0, 1, 2], oo 92 .mv [.t 5], oo 93 .mv [.t 0], oo 94 .nilck [.t 93], oo 95 (.fldA 0) [.t 94], od 96 .ld1 [.t 95] [5, 6, 7], oo 97 .mv [.t 6], oo 98 .mv [.t 0], oo 99 .nilck [.t 98], oo 100 (.fldA 0) [.t 99], od 101 .ld1 [.t 100] [10, 11, 12], oo 102 .mv [.t 6], oo 103 (.ixA 3) [.t 101, .t 102], od 104 (.ldA 3) [.t 103] [10, 11, 12, 13, 14, 15], oo 105 .mv [.t 0], oo 106 .nilck [.t 105], oo 107 (.fldA 0) [.t 106], od 108 .ld1 [.t 107] [17, 18, 19], oo 109 .mv [.t 5], oo 110 (.ixA 3) [.t 108, .t 109], od 111 (.ldA 3) [.t 110] [17, 18, 19, 20, 21, 22], oo 112 (.ixA 3) [.t 91, .t 92], ⟨none, none, (.st 3), [.t 112, .t 104], none⟩, oo 113 (.ixA 3) [.t 96, .t 97], ⟨none, none, (.st 3), [.t 113, .t 111], none⟩]) c_hand_queue_hand_way_pop_p8)
abbrev c_hand_queue_hand_way_pop_p10 : VC := (.seq (.seq (.ops 0 [oo 84 .mv [.t 6], oo 85 .mv [.t 5], oo 86 (.bin .eql) [.t 84, .t 85]]) (.cond (.t 86) c_hand_queue_hand_way_pop_p7 .skip)) c_hand_queue_hand_way_pop_p9)
abbrev c_hand_queue_hand_way_pop_p11 : VC := (.seq (.seq (.ops 0 [oo 49 .mv [.t 5], oo 50 (.bin .mul) [kk 2, .t 49], oo 51 (.bin .add) [.t 50, kk 1], oo 7 .mv [.t 51]]) (.block 2 (.loop c_hand_queue_hand_way_pop_p5))) c_hand_queue_hand_way_pop_p10)
abbrev c_hand_queue_hand_way_pop_p12 : VC := (.block 1 (.seq (.ops 0 [oo 48 .mv [.t 5], oo 6 .mv [.t 48]]) c_hand_queue_hand_way_pop_p11))
@[go_sem] abbrev w_hand_queue_hand_way_pop_p12 : Nat := 41538374868278621027962495657050344
abbrev c_hand_queue_hand_way_pop_p14 : VC := (.seq (.ops 0 [oo 5 .mv [kk 0]]) (.block 0 (.loop c_hand_queue_hand_way_pop_p12)))
abbrev c_hand_queue_hand_way_pop_p15 : VC := (.seq (.ops 0 [oo 39 .mv [.t 0], oo 40 .mv [.t 0], oo 41 .nilck [.t 40], oo 42 (.fldA 0) [.t 41], oo 43 .ld1 [.t 42], oo 44 .mv [.t 4], oo 45 (.slc 3 false true) [.t 43, .t 44], oo 46 .nilck [.t 39], oo 47 (.fldA 0) [.t 46], ⟨none, none, (.st 1), [.t 47, .t 45], none⟩]) c_hand_queue_hand_way_pop_p14)
abbrev c_hand_queue_hand_way_pop_p16 : VC := (.seq (.ops 0 [oo 27 .mv [.t 0], oo 28 .nilck [.t 27], oo 29 (.fldA 0) [.t 28], od 30 .ld1 [.t 29] [0, 1, 2], oo 31 .mv [.t 0], oo 32 .nilck [.t 31], oo 33 (.fldA 0) [.t 32], od 34 .ld1 [.t 33] [4, 5, 6], oo 35 .mv [.t 4], oo 36 (.ixA 3) [.t 34, .t 35], od 37 (.ldA 3) [.t 36] [4, 5, 6, 7, 8, 9], oo 38 (.ixA 3) [.t 30, kk 0], ⟨none, none, (.st 3), [.t 38, .t 37], none⟩]) c_hand_queue_hand_way_pop_p15)
abbrev c_hand_queue_hand_way_pop_p17 : VC := (.seq (.ops 0 [oo 21 .mv [.t 0], oo 22 .nilck [.t 21], oo 23 (.fldA 0) [.t 22], oo 24 .ld1 [.t 23], oo 25 .len [.t 24], oo 26 (.bin .sub) [.t 25, kk 1], oo 4 .mv [.t 26]]) c_hand_queue_hand_way_pop_p16)
abbrev c_hand_queue_hand_way_pop_p18 : VC := (.seq (.ops 0 [oo 15 .mv [.t 0], oo 16 .nilck [.t 15], oo 17 (.fldA 0) [.t 16], oo 18 .ld1 [.t 17], oo 19 (.ixA 3) [.t 18, kk 0], oo 20 (.ldA 3) [.t 19], ⟨none, none, (.st 3), [.t 2, .t 20], none⟩]) c_hand_queue_hand_way_pop_p17)
abbrev c_hand_queue_hand_way_pop_p19 : VC := (.seq (.seq (.ops 0 [oo 8 .mv [.t 0], oo 9 .nilck [.t 8], oo 10 (.fldA 0) [.t 9], oo 11 .ld1 [.t 10], oo 12 .len [.t 11], oo 13 (.bin .eql) [.t 12, kk 0]]) (.cond (.t 13) c_hand_queue_hand_way_pop_p1 .skip)) c_hand_queue_hand_way_pop_p18)
def c_hand_queue_hand_way_pop : VC := (.seq (.ops 2 [oo 2 (.alloc 154 [li 0, li 0, li 0]) [], oo 3 .mv [(.c (.lit (.bool false)))]]) c_hand_queue_hand_way_pop_p19)
theorem k_hand_queue_hand_way_pop : Comp Try.prog nobx gtab 135 115 c_hand_queue_hand_way_pop [(.c 2 3 true), .t 3] := ⟨⟨Try.f135, _, Try.func135, rfl, rfl, kr, kr⟩⟩
abbrev c_hand_way_before_p1 : VC := (.seq (.ops 0 [oo 10 (.fldA 0) [.t 2], oo 11 .ld1 [.t 10], oo 12 (.fldA 0) [.t 3], oo 13 .ld1 [.t 12], oo 14 (.bin .lss) [.t 11, .t 13], oo 4 .mv [.t 14]]) .ret)
abbrev c_hand_way_before_p2 : VC := (.seq (.ops 0 [oo 15 (.fldA 1) [.t 2], oo 16 .ld1 [.t 15], oo 17 (.fldA 1) [.t 3], oo 18 .ld1 [.t 17], oo 19 (.bin .lss) [.t 16, .t 18], oo 4 .mv [.t 19]]) .ret)
abbrev c_hand_way_before_p3 : VC := (.seq (.seq (.ops 0 [oo 5 (.fldA 0) [.t 2], oo 6 .ld1 [.t 5], oo 7 (.fldA 0) [.t 3], oo 8 .ld1 [.t 7], oo 9 (.bin .neq) [.t 6, .t 8]]) (.cond (.t 9) c_hand_way_before_p1 .skip)) c_hand_way_before_p2)
def c_hand_way_before : VC := (.seq (.ops 3 [oo 2 (.box 154) [.t 0], oo 3 (.box 154) [.t 1], oo 4 .mv [(.c (.lit (.bool false)))]]) c_hand_way_before_p3)
theorem k_hand_way_before : Comp Try.prog nobx gtab 110 20 c_hand_way_before [.t 4] := ⟨⟨Try.f110, _, Try.func110, rfl, rfl, kr, kr⟩⟩
abbrev c_hand_Through_p1 : VC := (.seq (.ops 0 [⟨(some 21), none, (.build [(.sl 0 [] .exact), li 0] []), [], none⟩, oo 22 .mv [.t 11], ⟨none, none, (.st 2), [.t 8, .t 21], none⟩, oo 9 .mv [.t 22]]) .ret)
abbrev c_hand_Through_p2 : VC := (.seq (.ops 0 [⟨(some 30), none, (.build [(.sl 0 [] .exact), li 0] []), [], none⟩, ⟨none, none, (.st 2), [.t 8, .t 30], none⟩, oo 9 .mv [kk 1]]) .ret)
abbrev c_hand_Through_p3 : VC := (.seq (.ops 0 [⟨(some 40), none, (.build [(.sl 0 [] .exact), li 0] []), [], none⟩, ⟨none, none, (.st 2), [.t 8, .t 40], none⟩, oo 9 .mv [kk 61]]) .ret)
abbrev c_hand_Through_p4 : VC := (.seq (.ops 0 [od 32 (.ldA 10) [.t 4] [], oo 33 .mv [.t 1], oo 34 .mv [.t 2], oo 35 (.ixA 3) [.t 33, .t 34], od 36 (.ldA 3) [.t 35] [1, 2, 3], od 37 (.ldA 2) [.t 7] [], oo 38 (.call 78) [.t 32, .t 36, .t 37], oo 39 (.un .not) [.t 38], oo 31 .mv [.t 39]]) (.cond (.t 31) c_hand_Through_p3 .skip))
abbrev c_hand_Through_p5 : VC := (.seq (.ops 0 [oo 24 .mv [.t 2], oo 25 .mv [.t 1], oo 26 .len [.t 25], oo 27 (.bin .sub) [.t 26, kk 1], oo 28 (.call 63) [.t 24, kk 0, .t 27], oo 29 (.un .not) [.t 28], oo 23 .mv [.t 29]]) (.cond (.t 23) c_hand_Through_p2 c_hand_Through_p4))
abbrev c_hand_Through_p6 : VC := (.seq (.ops 0 [oo 45 .mv [.t 10], oo 46 (.call 70) [.t 45], oo 47 (.ext 0) [.t 46], oo 48 (.ext 1) [.t 46], ⟨none, none, (.st 2), [.t 8, .t 47], none⟩, oo 9 .mv [.t 48]]) .ret)
abbrev c_hand_Through_p7 : VC := (.seq (.ops 0 [oo 41 .mv [.t 10], oo 42 .mv [.t 2], oo 43 (.ldA 2) [.t 7], oo 44 (.call 79) [.t 41, .t 42, .t 43]]) c_hand_Through_p6)
abbrev c_hand_Through_p8 : VC := (.seq (.block 0 (.seq (.ops 0 [oo 19 .mv [.t 11], oo 20 (.bin .neq) [.t 19, kk 0], oo 18 .mv [.t 20]]) (.cond (.t 18) c_hand_Through_p1 c_hand_Through_p5))) c_hand_Through_p7)
abbrev c_hand_Through_p9 : VC := (.seq (.ops 0 [oo 13 (.ldA 10) [.t 4], oo 14 .mv [.t 1], oo 15 (.call 69) [.t 13, .t 14], oo 12 .mv [.t 15], oo 16 (.ext 0) [.t 12], oo 17 (.ext 1) [.t 12], oo 10 .mv [.t 16], oo 11 .mv [.t 17]]) c_hand_Through_p8)
def c_hand_Through : VC := (.seq (.ops 4 [oo 4 (.box 25) [.t 0], oo 7 (.box 53) [.t 3], ⟨(some 8), none, (.alloc 40 [(.sl 0 [] .exact), li 0]), [], none⟩, oo 9 .mv [kk 0]]) c_hand_Through_p9)
theorem k_hand_Through : Comp Try.prog nobx gtab 41 49 c_hand_Through [(.c 8 2 true), .t 9] := ⟨⟨Try.f41, _, Try.func41, rfl, rfl, kr, kr⟩⟩
end Go.Proofs.Ytojjdkoglhecbaa
namespace Go.Proofs.Ytojjdkoglhecbaa
open Go.RowKit
set_option maxRecDepth 100000

abbrev c_hand_grips_p1 : VC := (.ops 0 [oo 13 .mv [.t 7], oo 14 (.bin .add) [.t 13, kk 1], oo 7 .mv [.t 14]])
abbrev c_hand_grips_p2 : VC := (.seq (.block 1 (.ops 0 [oo 15 .ld1 [.t 6], oo 16 .mv [.t 7], oo 17 .callv [.t 15, .t 16]])) c_hand_grips_p1)
abbrev c_hand_grips_p3 : VC := (.seq (.seq (.ops 0 [oo 9 .mv [.t 7], oo 10 (.fldA 3) [.t 2], oo 11 .ld1 [.t 10], oo 12 (.bin .leq) [.t 9, .t 11]]) (.cond (.t 12) .skip (.exit 0))) c_hand_grips_p2)
@[go_sem] abbrev w_hand_grips_p3 : Nat := 261760
abbrev c_hand_grips_p5 : VC := (.seq (.ops 0 [oo 18 .ld1 [.t 4], ⟨none, none, (.st 1), [.t 4, .t 18], none⟩]) .ret)
abbrev c_hand_grips_p6 : VC := (.seq (.seq (.ops 0 [oo 7 .mv [kk 1]]) (.block 0 (.loop c_hand_grips_p3))) c_hand_grips_p5)
abbrev c_hand_grips_p7 : VC := (.seq (.ops 0 [oo 8 (.mkfn 104) [.t 5, .t 3, .t 2, .t 4, .t 6], ⟨none, none, (.st 1), [.t 6, .t 8], none⟩]) c_hand_grips_p6)
abbrev c_hand_grips_p8 : VC := (.seq (.ops 1 [oo 6 (.alloc 144 [(.lit .nilFunc)]) []]) c_hand_grips_p7)
abbrev c_hand_grips_p9 : VC := (.seq (.ops 1 [⟨(some 5), none, (.alloc 22 [(.sl 0 [] .exact)]), [], none⟩]) c_hand_grips_p8)
def c_hand_grips : VC := (.seq (.ops 3 [oo 2 (.box 25) [.t 0], oo 3 (.box 47) [.t 1], ⟨(some 4), none, (.alloc 38 [(.sl 0 [] .exact)]), [], none⟩]) c_hand_grips_p9)
theorem k_hand_grips : Comp Try.prog nobx gtab 71 19 c_hand_grips [(.c 4 1 false)] := ⟨⟨Try.f71, _, Try.func71, rfl, rfl, kr, kr⟩⟩
abbrev c_hand_grips_1_b_p1 : VC := (.ops 8 [od 22 .ld1 [.t 4] [], oo 23 .mv [.t 0], od 24 .ld1 [.t 1] [], od 25 (.call 106) [.t 24] [2], ⟨(some 26), none, (.build [li 0, (.sl 0 [] .exact)] [(0, 1), (1, 1)]), [.t 23, .t 25], none⟩, ⟨(some 27), none, (.mksl 1 2 [li 0, (.sl 0 [] .exact)] [(0, 2)]), [.t 26], none⟩, oo 28 (.app 53 2 32) [.t 22, .t 27], ⟨none, none, (.st 1), [.t 4, .t 28], none⟩])
abbrev c_hand_grips_1_b_p2 : VC := (.seq (.seq (.ops 0 [oo 18 (.ldA 10) [.t 3], oo 19 (.ldA 3) [.t 2], oo 20 .ld1 [.t 1], oo 21 (.call 105) [.t 18, .t 19, .t 20]]) (.cond (.t 21) c_hand_grips_1_b_p1 .skip)) .ret)
abbrev c_hand_grips_1_b_p3 : VC := (.seq (.ops 0 [oo 59 (.fldA 0) [.t 2], od 60 .ld1 [.t 59] [0], oo 61 .mv [.t 9], oo 62 (.ixA 2) [.t 60, .t 61], od 63 (.ldA 2) [.t 62] [0, 1, 2, 3], oo 64 (.fldA 0) [.t 2], od 65 .ld1 [.t 64] [5], oo 66 .mv [.t 7], oo 67 (.ixA 2) [.t 65, .t 66], od 68 (.ldA 2) [.t 67] [5, 6, 7, 8], oo 69 .mv [.t 10], oo 70 .mv [.t 8], oo 71 (.call 108) [.t 63, .t 68, .t 69, .t 70], oo 72 (.un .not) [.t 71]]) (.cond (.t 72) (.exit 1) .skip))
abbrev c_hand_grips_1_b_p4 : VC := (.ops 0 [oo 73 (.bin .add) [.t 54, kk 1], oo 54 .mv [.t 73]])
abbrev c_hand_grips_1_b_p5 : VC := (.seq (.block 3 (.seq (.ops 0 [oo 56 .mv [.t 54], oo 57 (.ixA 1) [.t 52, .t 54], oo 58 .ld1 [.t 57], oo 9 .mv [.t 56], oo 10 .mv [.t 58]]) c_hand_grips_1_b_p3)) c_hand_grips_1_b_p4)
abbrev c_hand_grips_1_b_p6 : VC := (.seq (.ops 0 [oo 55 (.bin .lss) [.t 54, .t 53]]) (.seq (.cond (.t 55) .skip (.exit 2)) c_hand_grips_1_b_p5))
@[go_sem] abbrev w_hand_grips_1_b_p6 : Nat := 18889447917080071374336
abbrev c_hand_grips_1_b_p8 : VC := (.ops 0 [oo 81 .ld1 [.t 1], oo 82 .mv [.t 7], oo 83 (.slc 1 false true) [.t 81, .t 82], ⟨none, none, (.st 1), [.t 1, .t 83], none⟩])
abbrev c_hand_grips_1_b_p9 : VC := (.seq (.ops 0 [oo 78 .ld1 [.t 5], oo 79 .mv [.t 0], oo 80 .callv [.t 78, .t 79]]) c_hand_grips_1_b_p8)
abbrev c_hand_grips_1_b_p10 : VC := (.seq (.ops 5 [oo 74 .ld1 [.t 1], oo 75 .mv [.t 8], oo 76 (.mksl 1 1 [li 0] [(0, 1)]) [.t 75], oo 77 (.appM 3 1 8) [.t 74, .t 76], ⟨none, none, (.st 1), [.t 1, .t 77], none⟩]) c_hand_grips_1_b_p9)
abbrev c_hand_grips_1_b_p11 : VC := (.seq (.seq (.ops 0 [oo 52 .ld1 [.t 1], oo 53 .len [.t 52], oo 54 .mv [kk 0]]) (.block 2 (.loop c_hand_grips_1_b_p6))) c_hand_grips_1_b_p10)
abbrev c_hand_grips_1_b_p12 : VC := (.ops 0 [oo 39 .mv [.t 8], oo 40 (.bin .add) [.t 39, kk 1], oo 8 .mv [.t 40]])
abbrev c_hand_grips_1_b_p13 : VC := (.seq (.block 1 (.seq (.seq (.ops 0 [od 41 (.ldA 10) [.t 3] [], oo 42 .mv [.t 0], oo 43 .mv [.t 8], oo 44 (.fldA 0) [.t 2], od 45 .ld1 [.t 44] [3], oo 46 .mv [.t 7], oo 47 (.ixA 2) [.t 45, .t 46], oo 48 (.fldA 1) [.t 47], od 49 .ld1 [.t 48] [3, 4, 5, 6, 7], oo 50 (.call 107) [.t 41, .t 42, .t 43, .t 49], oo 51 (.un .not) [.t 50]]) (.cond (.t 51) (.exit 1) .skip)) c_hand_grips_1_b_p11)) c_hand_grips_1_b_p12)
abbrev c_hand_grips_1_b_p14 : VC := (.seq (.seq (.ops 0 [oo 29 .mv [.t 8], oo 30 (.fldA 0) [.t 3], oo 31 .ld1 [.t 30], oo 32 .len [.t 31], oo 33 (.bin .leq) [.t 29, .t 32], oo 34 .mv [.t 33], og 35 34 true .ld1 [.t 4], og 36 34 true .len [.t 35], og 37 34 true (.bin .leq) [.t 36, kk 200], oo 38 .pick [.t 34, .t 37, (.c (.lit (.bool false)))]]) (.cond (.t 38) .skip (.exit 0))) c_hand_grips_1_b_p13)
@[go_sem] abbrev w_hand_grips_1_b_p14 : Nat := 19342813113834066258429696
abbrev c_hand_grips_1_b_p16 : VC := (.seq (.ops 0 [oo 8 .mv [kk 1]]) (.block 0 (.loop c_hand_grips_1_b_p14)))
abbrev c_hand_grips_1_b_p17 : VC := (.seq (.seq (.ops 0 [oo 13 .mv [.t 7], oo 14 (.fldA 0) [.t 2], oo 15 .ld1 [.t 14], oo 16 .len [.t 15], oo 17 (.bin .eql) [.t 13, .t 16]]) (.cond (.t 17) c_hand_grips_1_b_p2 .skip)) (.seq .skip c_hand_grips_1_b_p16))
def c_hand_grips_1_b : VC := (.scope (.seq (.ops 0 [oo 11 .ld1 [.t 1], oo 12 .len [.t 11], oo 7 .mv [.t 12]]) c_hand_grips_1_b_p17))
theorem k_hand_grips_1_b : Comp Try.prog (fun n => [77,1000077].contains n) gtab 104 84 c_hand_grips_1_b [] := ⟨⟨Try.f104, _, Try.func104, rfl, rfl, kr, kr⟩⟩
abbrev c_slices_Clone_int_int_p1 : VC := (.seq (.ops 0 [oo 2 .mv [(.c (.sl 0 [] .exact))]]) .ret)
abbrev c_slices_Clone_int_int_p2 : VC := (.seq (.ops 4 [oo 5 (.mksl 0 1 [] []) [], oo 6 .mv [.t 0], oo 7 (.app 3 1 8) [.t 5, .t 6], oo 2 .mv [.t 7]]) .ret)
abbrev c_slices_Clone_int_int_p3 : VC := (.seq (.seq (.ops 0 [oo 3 .mv [.t 0], oo 4 (.eqN false) [.t 3]]) (.cond (.t 4) c_slices_Clone_int_int_p1 .skip)) c_slices_Clone_int_int_p2)
def c_slices_Clone_int_int : VC := (.seq (.ops 0 [oo 2 .mv [(.c (.sl 0 [] .exact))]]) c_slices_Clone_int_int_p3)
theorem k_slices_Clone_int_int : Comp Try.prog nobx gtab 106 8 c_slices_Clone_int_int [.t 2] := ⟨⟨Try.f106, _, Try.func106, rfl, rfl, kr, kr⟩⟩
abbrev c_slices_Clone_int_int_b_p1 : VC := (.seq (.ops 0 [oo 2 .mv [(.c (.sl 0 [] .exact))]]) .ret)
abbrev c_slices_Clone_int_int_b_p2 : VC := (.seq (.ops 4 [oo 5 (.mksl 0 1 [] []) [], oo 6 .mv [.t 0], oo 7 (.appM 3 1 8) [.t 5, .t 6], oo 2 .mv [.t 7]]) .ret)
abbrev c_slices_Clone_int_int_b_p3 : VC := (.seq (.seq (.ops 0 [oo 3 .mv [.t 0], oo 4 (.eqN false) [.t 3]]) (.cond (.t 4) c_slices_Clone_int_int_b_p1 .skip)) c_slices_Clone_int_int_b_p2)
def c_slices_Clone_int_int_b : VC := (.seq (.ops 0 [oo 2 .mv [(.c (.sl 0 [] .exact))]]) c_slices_Clone_int_int_b_p3)
theorem k_slices_Clone_int_int_b : Comp Try.prog (fun n => [7,1000007].contains n) gtab 106 8 c_slices_Clone_int_int_b [.t 2] := ⟨⟨Try.f106, _, Try.func106, rfl, rfl, kr, kr⟩⟩
abbrev c_theorboref06_Grips_p1 : VC := (.seq (.ops 0 [oo 12 .mv [.t 6], oo 4 .mv [(.c (.sl 0 [] .exact))], oo 5 .mv [.t 12]]) .ret)
abbrev c_theorboref06_Grips_p2 : VC := (.seq (.ops 0 [oo 10 .mv [.t 6], oo 11 (.bin .neq) [.t 10, kk 0]]) (.cond (.t 11) c_theorboref06_Grips_p1 .skip))
abbrev c_theorboref06_Grips_p3 : VC := (.seq (.ops 0 [oo 4 .mv [(.c (.sl 0 [] .exact))], oo 5 .mv [kk 1]]) .ret)
abbrev c_theorboref06_Grips_p4 : VC := (.seq (.ops 0 [oo 4 .mv [(.c (.sl 0 [] .exact))], oo 5 .mv [kk 2]]) .ret)
abbrev c_theorboref06_Grips_p5 : VC := (.seq (.ops 0 [oo 22 .mv [.t 7], oo 4 .mv [.t 22], oo 5 .mv [kk 0]]) .ret)
abbrev c_theorboref06_Grips_p6 : VC := (.seq (.seq (.ops 0 [oo 19 .mv [.t 7], oo 20 .len [.t 19], oo 21 (.bin .gtr) [.t 20, kk 200]]) (.cond (.t 21) c_theorboref06_Grips_p4 .skip)) c_theorboref06_Grips_p5)
abbrev c_theorboref06_Grips_p7 : VC := (.seq (.ops 0 [oo 16 (.ldA 10) [.t 2], oo 17 (.ldA 3) [.t 3], oo 18 (.call 72) [.t 16, .t 17], oo 7 .mv [.t 18]]) c_theorboref06_Grips_p6)
abbrev c_theorboref06_Grips_p8 : VC := (.seq (.seq (.ops 0 [oo 13 (.ldA 3) [.t 3], oo 14 (.call 67) [.t 13], oo 15 (.un .not) [.t 14]]) (.cond (.t 15) c_theorboref06_Grips_p3 .skip)) c_theorboref06_Grips_p7)
abbrev c_theorboref06_Grips_p9 : VC := (.seq (.seq (.ops 0 [oo 8 (.ldA 10) [.t 2], oo 9 (.call 25) [.t 8], oo 6 .mv [.t 9]]) c_theorboref06_Grips_p2) c_theorboref06_Grips_p8)
def c_theorboref06_Grips : VC := (.seq (.ops 4 [oo 2 (.box 25) [.t 0], oo 3 (.box 47) [.t 1], oo 4 .mv [(.c (.sl 0 [] .exact))], oo 5 .mv [kk 0]]) c_theorboref06_Grips_p9)
theorem k_theorboref06_Grips : Comp Try.prog nobx gtab 33 23 c_theorboref06_Grips [.t 4, .t 5] := ⟨⟨Try.f33, _, Try.func33, rfl, rfl, kr, kr⟩⟩
abbrev c_theorboref06_all_p1 : VC := (.ops 0 [oo 11 .mv [.t 6], oo 12 (.bin .add) [.t 11, kk 1], oo 6 .mv [.t 12]])
abbrev c_theorboref06_all_p2 : VC := (.seq (.block 1 (.ops 0 [oo 13 (.ldA 10) [.t 2], oo 14 (.ldA 3) [.t 3], oo 15 .mv [.t 6], oo 16 .mv [.t 5], oo 17 (.call 109) [.t 13, .t 14, .t 15, (.c (.sl 0 [] .exact)), .t 16], oo 5 .mv [.t 17]])) c_theorboref06_all_p1)
abbrev c_theorboref06_all_p3 : VC := (.seq (.seq (.ops 0 [oo 7 .mv [.t 6], oo 8 (.fldA 3) [.t 2], oo 9 .ld1 [.t 8], oo 10 (.bin .leq) [.t 7, .t 9]]) (.cond (.t 10) .skip (.exit 0))) c_theorboref06_all_p2)
@[go_sem] abbrev w_theorboref06_all_p3 : Nat := 262112
abbrev c_theorboref06_all_p5 : VC := (.seq (.ops 0 [oo 18 .mv [.t 5], oo 4 .mv [.t 18]]) .ret)
abbrev c_theorboref06_all_p6 : VC := (.seq (.seq (.ops 0 [oo 6 .mv [kk 1]]) (.block 0 (.loop c_theorboref06_all_p3))) c_theorboref06_all_p5)
abbrev c_theorboref06_all_p7 : VC := (.seq (.ops 0 [oo 5 .mv [(.c (.sl 0 [] .exact))]]) c_theorboref06_all_p6)
def c_theorboref06_all : VC := (.seq (.ops 3 [oo 2 (.box 25) [.t 0], oo 3 (.box 47) [.t 1], oo 4 .mv [(.c (.sl 0 [] .exact))]]) c_theorboref06_all_p7)
theorem k_theorboref06_all : Comp Try.prog nobx gtab 72 19 c_theorboref06_all [.t 4] := ⟨⟨Try.f72, _, Try.func72, rfl, rfl, kr, kr⟩⟩
abbrev c_theorboref06_extend_p1 : VC := (.seq (.ops 8 [oo 22 .mv [.t 4], oo 23 .mv [.t 2], oo 24 .mv [.t 3], oo 25 (.app 3 1 8) [(.c (.sl 0 [] .exact)), .t 24], ⟨(some 26), none, (.build [li 0, (.sl 0 [] .exact)] [(0, 1), (1, 1)]), [.t 23, .t 25], none⟩, ⟨(some 27), none, (.mksl 1 2 [li 0, (.sl 0 [] .exact)] [(0, 2)]), [.t 26], none⟩, oo 28 (.app 53 2 32) [.t 22, .t 27], oo 10 .mv [.t 28]]) .ret)
abbrev c_theorboref06_extend_p2 : VC := (.ops 0 [oo 49 .mv [.t 14], oo 50 (.bin .add) [.t 49, kk 1], oo 14 .mv [.t 50]])
abbrev c_theorboref06_extend_p3 : VC := (.seq (.block 3 (.ops 0 [oo 51 .mv [.t 13], oo 52 .mv [.t 51], ⟨(some 53), (some (52, true)), (.ldA 10), [.t 5], (some [0, 1])⟩, ⟨(some 54), (some (52, true)), (.ldA 3), [.t 6], (some [0, 1])⟩, og 55 52 true .mv [.t 14], og 56 52 true .mv [.t 11], og 57 52 true .mv [.t 3], og 58 52 true .mv [.t 14], og 59 52 true (.ixA 1) [.t 57, .t 58], ⟨(some 60), (some (52, true)), .ld1, [.t 59], (some [0, 1, 6, 7, 8])⟩, og 61 52 true .mv [.t 12], og 62 52 true (.call 116) [.t 53, .t 54, .t 55, .t 56, .t 60, .t 61], oo 63 .pick [.t 52, .t 62, (.c (.lit (.bool false)))], oo 13 .mv [.t 63]])) c_theorboref06_extend_p2)
abbrev c_theorboref06_extend_p4 : VC := (.seq (.seq (.ops 0 [oo 46 .mv [.t 14], oo 47 .mv [.t 11], oo 48 (.bin .lss) [.t 46, .t 47]]) (.cond (.t 48) .skip (.exit 2))) c_theorboref06_extend_p3)
@[go_sem] abbrev w_theorboref06_extend_p4 : Nat := 18446673704965398528
abbrev c_theorboref06_extend_p6 : VC := (.ops 11 [od 70 (.ldA 10) [.t 5] [], od 71 (.ldA 3) [.t 6] [], oo 72 .mv [.t 2], oo 73 .mv [.t 3], od 74 (.app 3 1 8) [(.c (.sl 0 [] .exact)), .t 73] [3], oo 75 .mv [.t 12], oo 76 (.mksl 1 1 [li 0] [(0, 1)]) [.t 75], od 77 (.app 3 1 8) [.t 74, .t 76] [3, 4, 5, 6], oo 78 .mv [.t 4], oo 79 (.call 109) [.t 70, .t 71, .t 72, .t 77, .t 78], oo 4 .mv [.t 79]])
abbrev c_theorboref06_extend_p7 : VC := (.seq (.ops 0 [oo 64 .mv [.t 13], oo 65 .mv [.t 64], og 66 65 true .mv [.t 4], og 67 65 true .len [.t 66], og 68 65 true (.bin .leq) [.t 67, kk 200], oo 69 .pick [.t 65, .t 68, (.c (.lit (.bool false)))]]) (.cond (.t 69) c_theorboref06_extend_p6 .skip))
abbrev c_theorboref06_extend_p8 : VC := (.seq (.seq (.ops 0 [oo 14 .mv [kk 0]]) (.block 2 (.loop c_theorboref06_extend_p4))) c_theorboref06_extend_p7)
abbrev c_theorboref06_extend_p9 : VC := (.ops 0 [oo 34 .mv [.t 12], oo 35 (.bin .add) [.t 34, kk 1], oo 12 .mv [.t 35]])
abbrev c_theorboref06_extend_p10 : VC := (.seq (.block 1 (.seq (.ops 0 [od 36 (.ldA 10) [.t 5] [], oo 37 .mv [.t 2], oo 38 .mv [.t 12], oo 39 (.fldA 0) [.t 6], od 40 .ld1 [.t 39] [3], oo 41 .mv [.t 11], oo 42 (.ixA 2) [.t 40, .t 41], oo 43 (.fldA 1) [.t 42], od 44 .ld1 [.t 43] [3, 4, 5, 6, 7], oo 45 (.call 115) [.t 36, .t 37, .t 38, .t 44], oo 13 .mv [.t 45]]) c_theorboref06_extend_p8)) c_theorboref06_extend_p9)
abbrev c_theorboref06_extend_p11 : VC := (.seq (.seq (.ops 0 [oo 29 .mv [.t 12], oo 30 (.fldA 0) [.t 5], oo 31 .ld1 [.t 30], oo 32 .len [.t 31], oo 33 (.bin .leq) [.t 29, .t 32]]) (.cond (.t 33) .skip (.exit 0))) c_theorboref06_extend_p10)
@[go_sem] abbrev w_theorboref06_extend_p11 : Nat := 1208925819614628637863952
abbrev c_theorboref06_extend_p13 : VC := (.seq (.ops 0 [oo 80 .mv [.t 4], oo 10 .mv [.t 80]]) .ret)
abbrev c_theorboref06_extend_p14 : VC := (.seq (.seq (.ops 0 [oo 12 .mv [kk 1]]) (.block 0 (.loop c_theorboref06_extend_p11))) c_theorboref06_extend_p13)
abbrev c_theorboref06_extend_p15 : VC := (.seq (.seq (.ops 0 [oo 17 .mv [.t 11], oo 18 (.fldA 0) [.t 6], oo 19 .ld1 [.t 18], oo 20 .len [.t 19], oo 21 (.bin .eql) [.t 17, .t 20]]) (.cond (.t 21) c_theorboref06_extend_p1 .skip)) c_theorboref06_extend_p14)
abbrev c_theorboref06_extend_p16 : VC := (.seq (.ops 0 [oo 15 .mv [.t 3], oo 16 .len [.t 15], oo 11 .mv [.t 16]]) c_theorboref06_extend_p15)
def c_theorboref06_extend : VC := (.seq (.ops 3 [oo 5 (.box 25) [.t 0], oo 6 (.box 47) [.t 1], oo 10 .mv [(.c (.sl 0 [] .exact))]]) c_theorboref06_extend_p16)
theorem k_theorboref06_extend : Comp Try.prog nobx gtab 109 81 c_theorboref06_extend [.t 10] := ⟨⟨Try.f109, _, Try.func109, rfl, rfl, kr, kr⟩⟩
abbrev c_theorbolaw06_SameGrips_p1 : VC := (.seq (.ops 0 [oo 4 .mv [(.c (.lit (.bool false)))]]) .ret)
abbrev c_theorbolaw06_SameGrips_p2 : VC := (.seq (.ops 0 [oo 4 .mv [(.c (.lit (.bool false)))]]) .ret)
abbrev c_theorbolaw06_SameGrips_p3 : VC := (.ops 0 [oo 15 .mv [.t 5], oo 16 (.bin .add) [.t 15, kk 1], oo 5 .mv [.t 16]])
abbrev c_theorbolaw06_SameGrips_p4 : VC := (.seq (.block 1 (.seq (.ops 0 [oo 17 .mv [.t 0], oo 18 .mv [.t 5], oo 19 (.ixA 2) [.t 17, .t 18], oo 20 (.fldA 0) [.t 19], od 21 .ld1 [.t 20] [0, 1, 2, 3], oo 22 .mv [.t 1], oo 23 .mv [.t 5], oo 24 (.ixA 2) [.t 22, .t 23], oo 25 (.fldA 0) [.t 24], od 26 .ld1 [.t 25] [5, 6, 7, 8], oo 27 (.bin .neq) [.t 21, .t 26], oo 28 .mv [.t 27], og 29 28 false .mv [.t 0], og 30 28 false .mv [.t 5], og 31 28 false (.ixA 2) [.t 29, .t 30], og 32 28 false (.fldA 1) [.t 31], ⟨(some 33), (some (28, false)), .ld1, [.t 32], (some [0, 1, 2, 3, 4, 5, 6, 7, 8, 9, 10, 11, 12, 13, 14, 15])⟩, og 34 28 false .mv [.t 1], og 35 28 false .mv [.t 5], og 36 28 false (.ixA 2) [.t 34, .t 35], og 37 28 false (.fldA 1) [.t 36], ⟨(some 38), (some (28, false)), .ld1, [.t 37], (some [0, 1, 2, 3, 4, 5, 6, 7, 8, 9, 10, 11, 17, 18, 19, 20])⟩, og 39 28 false (.call 23) [.t 33, .t 38], og 40 28 false (.un .not) [.t 39], oo 41 .pick [.t 28, (.c (.lit (.bool true))), .t 40]]) (.cond (.t 41) c_theorbolaw06_SameGrips_p2 .skip))) c_theorbolaw06_SameGrips_p3)
abbrev c_theorbolaw06_SameGrips_p5 : VC := (.seq (.seq (.ops 0 [oo 11 .mv [.t 5], oo 12 .mv [.t 0], oo 13 .len [.t 12], oo 14 (.bin .lss) [.t 11, .t 13]]) (.cond (.t 14) .skip (.exit 0))) c_theorbolaw06_SameGrips_p4)
@[go_sem] abbrev w_theorbolaw06_SameGrips_p5 : Nat := 4398046509104
abbrev c_theorbolaw06_SameGrips_p7 : VC := (.seq (.ops 0 [oo 4 .mv [(.c (.lit (.bool true)))]]) .ret)
abbrev c_theorbolaw06_SameGrips_p8 : VC := (.seq (.seq (.ops 0 [oo 5 .mv [kk 0]]) (.block 0 (.loop c_theorbolaw06_SameGrips_p5))) c_theorbolaw06_SameGrips_p7)
abbrev c_theorbolaw06_SameGrips_p9 : VC := (.seq (.seq (.ops 0 [oo 6 .mv [.t 0], oo 7 .len [.t 6], oo 8 .mv [.t 1], oo 9 .len [.t 8], oo 10 (.bin .neq) [.t 7, .t 9]]) (.cond (.t 10) c_theorbolaw06_SameGrips_p1 .skip)) c_theorbolaw06_SameGrips_p8)
def c_theorbolaw06_SameGrips : VC := (.seq (.ops 0 [oo 4 .mv [(.c (.lit (.bool false)))]]) c_theorbolaw06_SameGrips_p9)
theorem k_theorbolaw06_SameGrips : Comp Try.prog nobx gtab 34 42 c_theorbolaw06_SameGrips [.t 4] := ⟨⟨Try.f34, _, Try.func34, rfl, rfl, kr, kr⟩⟩
end Go.Proofs.Ytojjdkoglhecbaa
