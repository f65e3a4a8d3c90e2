/- Functions of the program, as code on values by numbers: printed by a program from the program that was given, and held against it here. What each chord of a fingering costs: definitions, on values. The error of a hand and a sequence, program and reference, on values. What each chord of a fingering costs: the reference, on values. What each chord of a fingering costs: the program, on values. What a fingering costs, and which chord costs most: program and reference, on values. The law HandValid, on values. More arguments read: searches, grips, lists of numbers. Heaps, in plain terms: ways in their order; one goes up, one goes down. Nothing is run here. Lists that are merged, in plain terms: the costs of each list ascend; what comes next is the least of their heads, of equal ones that of the first list. Nothing is run here. The reference's first, run: lists of tails are merged. The reference's search, run: the list of the tails of a grip by way of another. The grips of a chord, in order: plain. The grips that the program lists: what the closure goes on, on values. The grips that the program lists, on values. What grips and Grips of the program answer, on values. The grips that the reference lists: extend, on values. What Grips of the reference answers, on values; the law HandGrips. -/
import Derived.Test.YtojjdkoglhecbaaG0
import Derived.Test.YtojjdkoglhecbaaWk
import Derived.Test.YtojjdkoglhecbaaVB03
import Derived.Test.YtojjdkoglhecbaaVB04
import Derived.Test.YtojjdkoglhecbaaXw
set_option linter.unusedSimpArgs false
set_option linter.unusedVariables false
namespace Go.Proofs.Ytojjdkoglhecbaa
open Go.RowKit
set_option maxRecDepth 100000

abbrev c_hand_check_p1 : VC := (.seq (.ops 0 [oo 10 .mv [.t 5], oo 4 .mv [.t 10]]) .ret)
abbrev c_hand_check_p2 : VC := (.seq (.ops 0 [oo 8 .mv [.t 5], oo 9 (.bin .neq) [.t 8, kk 0]]) (.cond (.t 9) c_hand_check_p1 .skip))
abbrev c_hand_check_p3 : VC := (.seq (.ops 0 [oo 11 .mv [.t 1], oo 12 (.call 26) [.t 11], oo 4 .mv [.t 12]]) .ret)
abbrev c_hand_check_p4 : VC := (.seq (.seq (.ops 0 [oo 6 (.ldA 10) [.t 2], oo 7 (.call 24) [.t 6], oo 5 .mv [.t 7]]) c_hand_check_p2) c_hand_check_p3)
def c_hand_check : VC := (.seq (.ops 2 [oo 2 (.box 25) [.t 0], oo 4 .mv [kk 0]]) c_hand_check_p4)
theorem k_hand_check : Comp Try.prog nobx gtab 102 13 c_hand_check [.t 4] := ⟨⟨Try.f102, _, Try.func102, rfl, rfl, kr, kr⟩⟩
abbrev c_hand_prices_p1 : VC := (.seq (.ops 0 [oo 19 .mv [.t 8], oo 6 .mv [(.c (.sl 0 [] .exact))], oo 7 .mv [.t 19]]) .ret)
abbrev c_hand_prices_p2 : VC := (.seq (.ops 0 [oo 17 .mv [.t 8], oo 18 (.bin .neq) [.t 17, kk 0]]) (.cond (.t 18) c_hand_prices_p1 .skip))
abbrev c_hand_prices_p3 : VC := (.seq (.ops 0 [oo 6 .mv [(.c (.sl 0 [] .exact))], oo 7 .mv [kk 1]]) .ret)
abbrev c_hand_prices_p4 : VC := (.seq (.ops 0 [oo 40 .mv [.t 6], oo 6 .mv [.t 40], oo 7 .mv [kk 61]]) .ret)
abbrev c_hand_prices_p5 : VC := (.seq (.ops 0 [oo 72 .mv [.t 6], oo 6 .mv [.t 72], oo 7 .mv [kk 61]]) .ret)
abbrev c_hand_prices_p6 : VC := (.ops 0 [oo 73 .mv [.t 11], oo 74 .mv [.t 12], oo 75 (.bin .add) [.t 73, .t 74], oo 11 .mv [.t 75]])
abbrev c_hand_prices_p7 : VC := (.seq (.seq (.ops 0 [oo 70 .mv [.t 13], oo 71 (.un .not) [.t 70]]) (.cond (.t 71) c_hand_prices_p5 .skip)) c_hand_prices_p6)
abbrev c_hand_prices_p8 : VC := (.seq (.ops 0 [od 51 (.ldA 10) [.t 3] [], oo 52 .mv [.t 1], oo 53 .mv [.t 9], oo 54 (.bin .sub) [.t 53, kk 1], oo 55 (.ixA 3) [.t 52, .t 54], od 56 (.ldA 3) [.t 55] [1, 2, 3, 4], oo 57 .mv [.t 2], oo 58 .mv [.t 9], oo 59 (.bin .sub) [.t 58, kk 1], oo 60 (.ixA 2) [.t 57, .t 59], od 61 (.ldA 2) [.t 60] [6, 7, 8, 9], od 62 (.ldA 3) [.t 10] [], oo 63 .mv [.t 2], oo 64 .mv [.t 9], oo 65 (.ixA 2) [.t 63, .t 64], od 66 (.ldA 2) [.t 65] [12, 13, 14], oo 67 (.call 83) [.t 51, .t 56, .t 61, .t 62, .t 66], oo 50 .mv [.t 67], oo 68 (.ext 0) [.t 50], oo 69 (.ext 1) [.t 50], oo 12 .mv [.t 68], oo 13 .mv [.t 69]]) c_hand_prices_p7)
abbrev c_hand_prices_p9 : VC := (.ops 5 [oo 76 .mv [.t 6], oo 77 .mv [.t 11], oo 78 (.mksl 1 1 [li 0] [(0, 1)]) [.t 77], oo 79 (.app 3 1 8) [.t 76, .t 78], oo 6 .mv [.t 79]])
abbrev c_hand_prices_p10 : VC := (.seq (.seq (.ops 0 [oo 48 .mv [.t 9], oo 49 (.bin .gtr) [.t 48, kk 0]]) (.cond (.t 49) c_hand_prices_p8 .skip)) c_hand_prices_p9)
abbrev c_hand_prices_p11 : VC := (.seq (.ops 0 [od 41 (.ldA 10) [.t 3] [], od 42 (.ldA 3) [.t 10] [], oo 43 .mv [.t 2], oo 44 .mv [.t 9], oo 45 (.ixA 2) [.t 43, .t 44], od 46 (.ldA 2) [.t 45] [2, 3, 4], oo 47 (.call 81) [.t 41, .t 42, .t 46], oo 11 .mv [.t 47]]) c_hand_prices_p10)
abbrev c_hand_prices_p12 : VC := (.seq (.seq (.ops 0 [od 32 (.ldA 10) [.t 3] [], od 33 (.ldA 3) [.t 10] [], oo 34 .mv [.t 2], oo 35 .mv [.t 9], oo 36 (.ixA 2) [.t 34, .t 35], od 37 (.ldA 2) [.t 36] [2, 3, 4], oo 38 (.call 78) [.t 32, .t 33, .t 37], oo 39 (.un .not) [.t 38]]) (.cond (.t 39) c_hand_prices_p4 .skip)) c_hand_prices_p11)
abbrev c_hand_prices_p13 : VC := (.ops 0 [oo 80 (.bin .add) [.t 27, kk 1], oo 27 .mv [.t 80]])
abbrev c_hand_prices_p14 : VC := (.seq (.block 1 (.seq (.ops 6 [oo 29 .mv [.t 27], oo 30 (.ixA 3) [.t 25, .t 27], oo 31 (.ldA 3) [.t 30], ⟨(some 10), none, (.alloc 47 [(.sl 0 [] .exact), (.sl 0 [] .exact), (.sl 0 [] .exact)]), [], none⟩, oo 9 .mv [.t 29], ⟨none, none, (.st 3), [.t 10, .t 31], none⟩]) c_hand_prices_p12)) c_hand_prices_p13)
abbrev c_hand_prices_p15 : VC := (.seq (.ops 0 [oo 28 (.bin .lss) [.t 27, .t 26]]) (.seq (.cond (.t 28) .skip (.exit 0)) c_hand_prices_p14))
@[go_sem] abbrev w_hand_prices_p15 : Nat := 2417851639229258215210688
abbrev c_hand_prices_p17 : VC := (.seq (.ops 0 [oo 81 .mv [.t 6], oo 6 .mv [.t 81], oo 7 .mv [kk 0]]) .ret)
abbrev c_hand_prices_p18 : VC := (.seq (.seq (.ops 0 [oo 25 .mv [.t 1], oo 26 .len [.t 25], oo 27 .mv [kk 0]]) (.block 0 (.loop c_hand_prices_p15))) c_hand_prices_p17)
abbrev c_hand_prices_p19 : VC := (.seq (.seq (.ops 0 [oo 20 .mv [.t 2], oo 21 .len [.t 20], oo 22 .mv [.t 1], oo 23 .len [.t 22], oo 24 (.bin .neq) [.t 21, .t 23]]) (.cond (.t 24) c_hand_prices_p3 .skip)) c_hand_prices_p18)
abbrev c_hand_prices_p20 : VC := (.seq (.seq (.ops 0 [oo 14 (.ldA 10) [.t 3], oo 15 .mv [.t 1], oo 16 (.call 102) [.t 14, .t 15], oo 8 .mv [.t 16]]) c_hand_prices_p2) c_hand_prices_p19)
def c_hand_prices : VC := (.seq (.ops 3 [oo 3 (.box 25) [.t 0], oo 6 .mv [(.c (.sl 0 [] .exact))], oo 7 .mv [kk 0]]) c_hand_prices_p20)
theorem k_hand_prices : Comp Try.prog nobx gtab 90 82 c_hand_prices [.t 6, .t 7] := ⟨⟨Try.f90, _, Try.func90, rfl, rfl, kr, kr⟩⟩
abbrev c_hand_Valid_p1 : VC := (.seq (.ops 0 [oo 25 .mv [.t 9], oo 26 .len [.t 25], oo 27 .mv [.t 8], oo 6 .mv [kk 0], oo 7 .mv [.t 26], oo 8 .mv [.t 27]]) .ret)
abbrev c_hand_Valid_p2 : VC := (.seq (.ops 0 [oo 20 .mv [.t 8], oo 6 .mv [kk 0], oo 7 .mv [kk 0], oo 8 .mv [.t 20]]) .ret)
abbrev c_hand_Valid_p3 : VC := (.seq (.ops 0 [oo 24 (.bin .eql) [.t 19, kk 61], oo 23 .mv [.t 24]]) (.cond (.t 23) c_hand_Valid_p1 c_hand_Valid_p2))
abbrev c_hand_Valid_p4 : VC := (.block 0 (.seq (.ops 0 [oo 22 (.bin .eql) [.t 19, kk 0], oo 21 .mv [.t 22]]) (.cond (.t 21) .skip c_hand_Valid_p3)))
abbrev c_hand_Valid_p5 : VC := (.ops 0 [oo 34 .mv [.t 6], oo 35 .mv [.t 11], oo 36 (.bin .add) [.t 34, .t 35], oo 6 .mv [.t 36]])
abbrev c_hand_Valid_p6 : VC := (.ops 0 [oo 37 (.bin .add) [.t 30, kk 1], oo 30 .mv [.t 37]])
abbrev c_hand_Valid_p7 : VC := (.seq (.block 2 (.seq (.ops 0 [oo 32 (.ixA 1) [.t 28, .t 30], oo 33 .ld1 [.t 32], oo 11 .mv [.t 33]]) c_hand_Valid_p5)) c_hand_Valid_p6)
abbrev c_hand_Valid_p8 : VC := (.seq (.ops 0 [oo 31 (.bin .lss) [.t 30, .t 29]]) (.seq (.cond (.t 31) .skip (.exit 1)) c_hand_Valid_p7))
@[go_sem] abbrev w_hand_Valid_p8 : Nat := 273804167232
abbrev c_hand_Valid_p10 : VC := (.seq (.ops 0 [oo 38 .mv [.t 6], oo 6 .mv [.t 38], oo 7 .mv [kk 0], oo 8 .mv [kk 0]]) .ret)
abbrev c_hand_Valid_p11 : VC := (.seq (.seq (.ops 0 [oo 28 .mv [.t 9], oo 29 .len [.t 28], oo 30 .mv [kk 0]]) (.block 1 (.loop c_hand_Valid_p8))) c_hand_Valid_p10)
abbrev c_hand_Valid_p12 : VC := (.seq (.seq (.ops 0 [oo 19 .mv [.t 8]]) c_hand_Valid_p4) c_hand_Valid_p11)
abbrev c_hand_Valid_p13 : VC := (.seq (.ops 0 [oo 13 (.ldA 10) [.t 3], oo 14 .mv [.t 1], oo 15 .mv [.t 2], oo 16 (.call 90) [.t 13, .t 14, .t 15], oo 12 .mv [.t 16], oo 17 (.ext 0) [.t 12], oo 18 (.ext 1) [.t 12], oo 9 .mv [.t 17], oo 8 .mv [.t 18]]) c_hand_Valid_p12)
def c_hand_Valid : VC := (.seq (.ops 4 [oo 3 (.box 25) [.t 0], oo 6 .mv [kk 0], oo 7 .mv [kk 0], oo 8 .mv [kk 0]]) c_hand_Valid_p13)
theorem k_hand_Valid : Comp Try.prog nobx gtab 56 39 c_hand_Valid [.t 6, .t 7, .t 8] := ⟨⟨Try.f56, _, Try.func56, rfl, rfl, kr, kr⟩⟩
end Go.Proofs.Ytojjdkoglhecbaa
namespace Go.Proofs.Ytojjdkoglhecbaa
open Go.RowKit
set_option linter.unusedSimpArgs false
set_option linter.unusedVariables false

/-- No grip. -/
def noG : Grip := ⟨0, []⟩
/-- A list of grips. -/
def tGs (l : List Grip) : V := .sl l.length (l.flatMap Grip.cells) .no
theorem pure_tGs (l : List Grip) : (tGs l).pure = true := by rw [tGs, V.pure]; intro t h; cases h
theorem gs_l (x : Grip) : x.cells.length = 2 := rfl
theorem gs_len (l : List Grip) : (l.flatMap Grip.cells).length = l.length * 2 := flat_len gs_l l
theorem gs_take {l : List Grip} {k : Nat} (h : k < l.length) : ((l.flatMap Grip.cells).drop (k * 2)).take 2 = [vint (l.getD k noG).pos, tIs (l.getD k noG).fingers] := flat_take gs_l noG h
/-- The lengths fit. -/
def FitsG (l : List Grip) : Prop := l.length ≤ 17592186044416 ∧ ∀ g ∈ l, g.fingers.length ≤ 17592186044416
theorem FitsG.at {l : List Grip} (h : FitsG l) (k : Nat) : (l.getD k noG).fingers.length ≤ 17592186044416 := by
  rw [List.getD_eq_getElem?_getD]
  rcases Nat.lt_or_ge k l.length with hk | hk
  · rw [List.getElem?_eq_getElem hk]; exact h.2 _ (List.getElem_mem hk)
  · rw [List.getElem?_eq_none hk]; decide
/-- The chord k is fingered right. -/
def PrOk (h : Hand) (l : List Chord) (g : List Grip) (k : Nat) : Prop :=
  FitG h (l.getD k noC) (g.getD k noG) ∧ (0 < k → StepOk h (l.getD (k - 1) noC) (g.getD (k - 1) noG) (l.getD k noC) (g.getD k noG))
/-- What it costs. -/
def prC (h : Hand) (l : List Chord) (g : List Grip) (k : Nat) : Int :=
  if 0 < k then ownC h (l.getD k noC) (g.getD k noG) + stepC h (l.getD (k - 1) noC) (g.getD (k - 1) noG) (l.getD k noC) (g.getD k noG) else ownC h (l.getD k noC) (g.getD k noG)
/-- What the first ones cost. -/
def prL (h : Hand) (l : List Chord) (g : List Grip) (k : Nat) : List Int := (List.range k).map (prC h l g)
theorem prL_len (h : Hand) (l : List Chord) (g : List Grip) (k : Nat) : (prL h l g k).length = k := by simp [prL]
theorem prL_succ (h : Hand) (l : List Chord) (g : List Grip) (k : Nat) : prL h l g (k + 1) = prL h l g k ++ [prC h l g k] := by simp [prL, List.range_succ]
open Classical in
/-- How many are right ahead of the first wrong one, among the first ones. -/
noncomputable def prN (h : Hand) (l : List Chord) (g : List Grip) : Nat → Nat
  | 0 => 0
  | k + 1 => if prN h l g k = k ∧ PrOk h l g k then k + 1 else prN h l g k
theorem prN_all {h : Hand} {l : List Chord} {g : List Grip} : ∀ {k : Nat}, (∀ i, i < k → PrOk h l g i) → prN h l g k = k
  | 0, _ => rfl
  | k + 1, ha => by rw [prN, if_pos ⟨prN_all fun i hi => ha i (by omega), ha k (by omega)⟩]
theorem prN_bad {h : Hand} {l : List Chord} {g : List Grip} {k : Nat} (ha : ∀ i, i < k → PrOk h l g i) (hb : ¬ PrOk h l g k) : ∀ {n : Nat}, k < n → prN h l g n = k
  | 0, hn => by omega
  | n + 1, hn => by
    rcases Nat.lt_or_ge k n with h1 | h1
    · rw [prN, prN_bad ha hb h1, if_neg (fun hh => by omega)]
    · have : n = k := by omega
      subst this
      rw [prN, prN_all ha, if_neg (fun hh => hb hh.2)]
end Go.Proofs.Ytojjdkoglhecbaa
namespace Go.Proofs.Ytojjdkoglhecbaa
open Go.RowKit
set_option linter.unusedSimpArgs false
set_option linter.unusedVariables false

/-- The error of a hand and a sequence. -/
noncomputable def bothE (h : Hand) (l : List Chord) : Int := if chkE h = 0 then seqE l else 60
theorem bothck_fn (h : Hand) (l : List Chord) (hl : Fits l) : Fn Try.prog Gd 102 [h.val, tCs l] (vint (bothE h l)) := by
  refine Fn.of_vx0 k_hand_check (by simp) (by rw [V.pures, pure_hand, V.pures, pure_tCs]; rfl) ?_
  have C1 := check_fn h
  have C2 := checkchords_fn l hl
  unfold bothE
  generalize seqE l = se at C2
  unfold tCs at C2
  unfold Hand.val at C1
  unfold c_hand_check Hand.val tCs
  by_cases he : chkE h = 0
  · rw [if_pos he]
    rw [he] at C1
    clear he
    repeat' (with_reducible first | refine x_ops ?_ | refine wk ?_ | (with_reducible refine xc (C1) ?_) | (with_reducible refine xc (C2) ?_) | ((first | refine gd1 ?_ ?_ | refine gd2 ?_ ?_ | refine gd3 ?_ ?_) <;> (first | exact @False.elim _ | intro hc)))
    all_goals exact finV_lit vv rfl
  · rw [if_neg he]
    rw [chk_bad he] at C1
    clear he
    repeat' (with_reducible first | refine x_ops ?_ | refine wk ?_ | (with_reducible refine xc (C1) ?_) | (with_reducible refine xc (C2) ?_) | ((first | refine gd1 ?_ ?_ | refine gd2 ?_ ?_ | refine gd3 ?_ ?_) <;> (first | exact @False.elim _ | intro hc)))
    all_goals exact finV_lit vv rfl
end Go.Proofs.Ytojjdkoglhecbaa
namespace Go.Proofs.Ytojjdkoglhecbaa
open Go.RowKit
set_option linter.unusedSimpArgs false
set_option linter.unusedVariables false

theorem stepC_bound {h : Hand} (hk : HandOk h) {a b : Chord} {g k : Grip} (pg : 1 ≤ g.pos ∧ g.pos ≤ 18) (pk : 1 ≤ k.pos ∧ k.pos ≤ 18) : 0 ≤ stepC h a g b k ∧ stepC h a g b k ≤ 105000 := by
  have n4 := hk.n4
  have hm := mul_bound hk.shift (b := dist g.pos k.pos) ⟨dist_le, dist_bound (by omega) (by omega)⟩
  have hl := hk.lift
  have hu := slU_bound hk (a := a) (b := b) (g := g) (k := k) (f := h.low.length)
  rw [stepC]
  split <;> split <;> omega
theorem prC_bound {h : Hand} (hk : HandOk h) {l : List Chord} {g : List Grip} {k : Nat} (hs : ChordOk (l.getD k noC)) (h1 : PrOk h l g k) (h2 : 0 < k → PrOk h l g (k - 1)) :
    (0 ≤ ownC h (l.getD k noC) (g.getD k noG) ∧ ownC h (l.getD k noC) (g.getD k noG) ≤ 404000) ∧ 0 ≤ prC h l g k ∧ prC h l g k ≤ 509000 := by
  have n4 := hk.n4
  have ht := hk.top
  have hp := h1.1.pos
  have ho := ownU_bound hk hs (g := g.getD k noG) ⟨hp.1, by omega⟩ (k := h.low.length) (Nat.le_refl _)
  have ho' : 0 ≤ ownC h (l.getD k noC) (g.getD k noG) ∧ ownC h (l.getD k noC) (g.getD k noG) ≤ 404000 := by rw [ownC]; omega
  refine ⟨ho', ?_⟩
  rw [prC]
  split
  · rename_i hk0
    have hq := (h2 hk0).1.pos
    have := stepC_bound hk (a := l.getD (k - 1) noC) (b := l.getD k noC) (g := g.getD (k - 1) noG) (k := g.getD k noG) ⟨hq.1, by omega⟩ ⟨hp.1, by omega⟩
    omega
  · omega
/-- What costs answers. -/
noncomputable def cosR (h : Hand) (l : List Chord) (g : List Grip) : List Int × Int × Int :=
  if bothE h l = 0 then (if g.length = l.length then (if prN h l g l.length = l.length then (prL h l g l.length, 0, 0) else ([], (prN h l g l.length : Int), 61)) else ([], 0, 1)) else ([], 0, bothE h l)
theorem both_ok {h : Hand} {l : List Chord} (hb : bothE h l = 0) : HandOk h ∧ l.length ≤ 400 ∧ SeqOk l := by
  rw [bothE] at hb
  split at hb
  · rename_i he
    refine ⟨chk_ok he, ?_⟩
    rw [seqE] at hb
    split at hb
    · cases hb
    · split at hb
      · rename_i h1 h2
        exact ⟨by omega, by simpa using h2⟩
      · cases hb
  · cases hb
end Go.Proofs.Ytojjdkoglhecbaa
namespace Go.Proofs.Ytojjdkoglhecbaa
open Go.RowKit
set_option linter.unusedSimpArgs false
set_option linter.unusedVariables false

end Go.Proofs.Ytojjdkoglhecbaa
namespace Go.Proofs.Ytojjdkoglhecbaa
open Go.RowKit
set_option linter.unusedSimpArgs false
set_option linter.unusedVariables false

/-- What prices answers. -/
noncomputable def priR (h : Hand) (l : List Chord) (g : List Grip) : List Int × Int :=
  if bothE h l = 0 then (if g.length = l.length then (prL h l g (prN h l g l.length), if prN h l g l.length = l.length then 0 else 61) else ([], 1)) else ([], bothE h l)
set_option maxHeartbeats 2000000 in
theorem prices_fn (h : Hand) (l : List Chord) (hl : Fits l) (g : List Grip) (hg : FitsG g) : Fn Try.prog Gd 90 [h.val, tCs l, tGs g] (.tup [tIs (priR h l g).1, vint (priR h l g).2]) := by
  refine Fn.of_vx0 k_hand_prices (by simp) (by rw [V.pures, pure_hand, V.pures, pure_tCs, V.pures, pure_tGs]; rfl) ?_
  have C1 := bothck_fn h l hl
  unfold priR
  unfold c_hand_prices tCs tGs
  unfold tCs at C1
  by_cases he : bothE h l = 0
  case neg =>
    rw [if_neg he]
    generalize bothE h l = be at he C1
    have e1 : (be == 0) = false := by simpa using he
    clear he
    unfold Hand.val at C1 ⊢
    repeat' (with_reducible first | refine x_ops ?_ | refine wk ?_ | (with_reducible refine xc (C1) ?_) | ((first | refine gd1 ?_ ?_ | refine gd2 ?_ ?_ | refine gd3 ?_ ?_) <;> (first | exact @False.elim _ | intro hc)))
    exact finV_ret vv (.tup (.cons (.sl _ _ _) (.cons (.lit _) .nil)))
  rw [if_pos he]
  obtain ⟨hk, h400, hseq⟩ := both_ok he
  rw [he] at C1
  clear he
  by_cases hlen : g.length = l.length
  case neg =>
    rw [if_neg hlen]
    have e1 : ((g.length : Int) == (l.length : Int)) = false := by simp; omega
    clear hlen h400
    unfold Hand.val at C1 ⊢
    repeat' (with_reducible first | refine x_ops ?_ | refine wk ?_ | (with_reducible refine xc (C1) ?_) | ((first | refine gd1 ?_ ?_ | refine gd2 ?_ ?_ | refine gd3 ?_ ?_) <;> (first | exact @False.elim _ | intro hc)))
    exact finV_ret vv (.tup (.cons (.sl _ _ _) (.cons (.lit _) .nil)))
  rw [if_pos hlen]
  have e1 : ((g.length : Int) == (l.length : Int)) = true := by simp; omega
  replace hlen := Hid.mk hlen
  unfold Hand.val at C1 ⊢
  repeat' (with_reducible first | refine x_ops ?_ | refine wk ?_ | (with_reducible refine xc (C1) ?_) | ((first | refine gd1 ?_ ?_ | refine gd2 ?_ ?_ | refine gd3 ?_ ?_) <;> (first | exact @False.elim _ | intro hc)))
  refine x_loopW w_hand_prices_p15 (by kernel_rfl) l.length (fun k t m => t 27 = vint (k : Int) ∧ (∃ tok, t 6 = .sl k ((prL h l g k).map vint) tok ∧ Apb m tok k 3 1) ∧
    m.obj 0 = some (.box [tIs h.low, tIs h.high, tBs h.barre, vint h.top, vint h.jump, vint h.shift, vint h.lift, vint h.bar, vint h.stretch, vint h.slide] 25) ∧ 0 < m.next ∧ ∀ i, i < k → PrOk h l g i) ?_ ?_
  · exact ⟨vv, ⟨.exact, vv, .inl rfl⟩, vv, by ((refine ve ?_; try exact True.intro)); try omega, fun i h => by omega⟩
  rintro k t m hkk ⟨h11, ⟨tok, h10, hap⟩, hm, hn, hI⟩
  replace hI := Hid.mk hI
  by_cases hlt : k < l.length
  · have hlg : k < g.length := by rw [hlen.out]; exact hlt
    have g1 := chs_take hlt
    have g2 := chs_len l
    have g3 := gs_take hlg
    have g4 := gs_len g
    have c1 : (k : Int) < (l.length : Int) := by omega
    have c2 : (k : Int) < (g.length : Int) := by omega
    have c3 : k * 3 + 3 ≤ l.length * 3 := by omega
    have c4 : k * 2 + 2 ≤ g.length * 2 := by omega
    have w2 := w_add1 (k := k) (by omega)
    have n6 : 0 < m.next + 6 := by omega
    have x0 : ¬ 0 = m.next + 3 := by omega
    have hok := (hseq k hlt).1
    have C3 := fits_fn h hk (l.getD k noC) (hl.at k) (g.getD k noG) (hg.at k)
    cases ht : fitB h (l.getD k noC) (g.getD k noG)
    · rw [ht] at C3
      have e2 : prN h l g l.length = k := prN_bad hI.out (fun hh => by rw [fit_true.2 hh.1] at ht; cases ht) hlt
      rw [e2, if_neg (by omega)]
      have e7 := prL_len h l g k
      clear ht e2 hok
      unfold Hand.val Chord.val Chord.cells Grip.val Grip.cells at C3
      generalize l.getD k noC = cb at *
      generalize g.getD k noG = gb at *
      repeat' (with_reducible first | refine x_ops ?_ | refine wk ?_ | (with_reducible refine xc (C3) ?_) | ((first | refine gd1 ?_ ?_ | refine gd2 ?_ ?_ | refine gd3 ?_ ?_) <;> (first | exact @False.elim _ | intro hc)))
      exact finV_ret vv (.tup (.cons (.sl _ _ _) (.cons (.lit _) .nil)))
    rw [ht] at C3
    have hfit := fit_true.1 ht
    have htop := hk.top
    have hpos := hfit.pos
    have C4 := own_fn h hk (l.getD k noC) hok (hl.at k) (g.getD k noG) hfit.len ⟨hpos.1, by omega⟩
    by_cases hk0 : 0 < k
    · have c5 : (0 : Int) < (k : Int) := by omega
      have g5 := chs_take (l := l) (k := k - 1) (by omega)
      have g6 := gs_take (l := g) (k := k - 1) (by omega)
      have c6 : ((k - 1 : Nat) : Int) < (l.length : Int) := by omega
      have c7 : ((k - 1 : Nat) : Int) < (g.length : Int) := by omega
      have c8 : (k - 1) * 3 + 3 ≤ l.length * 3 := by omega
      have c9 : (k - 1) * 2 + 2 ≤ g.length * 2 := by omega
      have w1 := w_sub1 hk0 (by omega)
      have hfit1 := (hI.out (k - 1) (by omega)).1
      have hpos1 := hfit1.pos
      have C5 := step_fn h hk (l.getD (k - 1) noC) (l.getD k noC) (hseq (k - 1) (by omega)).1 hok ((hseq k hlt).2 hk0) (hl.at _) (hl.at _) (g.getD (k - 1) noG) (g.getD k noG) hfit1.len hfit.len ⟨hpos1.1, by omega⟩ ⟨hpos.1, by omega⟩
      by_cases hst : StepOk h (l.getD (k - 1) noC) (g.getD (k - 1) noG) (l.getD k noC) (g.getD k noG)
      · have hpk : PrOk h l g k := ⟨hfit, fun _ => hst⟩
        have hb := prC_bound hk hok hpk (fun _ => hI.out (k - 1) (by omega))
        have epc : prC h l g k = ownC h (l.getD k noC) (g.getD k noG) + stepC h (l.getD (k - 1) noC) (g.getD (k - 1) noG) (l.getD k noC) (g.getD k noG) := by rw [prC, if_pos hk0]
        rw [stepR_ok hst] at C5
        have w3 : IntKind.i64.wrap (ownC h (l.getD k noC) (g.getD k noG) + stepC h (l.getD (k - 1) noC) (g.getD (k - 1) noG) (l.getD k noC) (g.getD k noG)) = ownC h (l.getD k noC) (g.getD k noG) + stepC h (l.getD (k - 1) noC) (g.getD (k - 1) noG) (l.getD k noC) (g.getD k noG) := w_in (by omega)
        replace hpk := Hid.mk hpk
        replace epc := Hid.mk epc
        clear hb hst ht hok hfit hfit1 hpos hpos1 htop
        unfold Hand.val Chord.val Chord.cells Grip.val Grip.cells at C3 C4 C5
        generalize l.getD (k - 1) noC = ca at *
        generalize g.getD (k - 1) noG = ga at *
        generalize l.getD k noC = cb at *
        generalize g.getD k noG = gb at *
        repeat' (with_reducible first | refine x_ops ?_ | refine wk ?_ | (with_reducible refine xc (C3) ?_) | (with_reducible refine xc (C4) ?_) | (with_reducible refine xc (C5) ?_) | ((first | refine gd1 ?_ ?_ | refine gd2 ?_ ?_ | refine gd3 ?_ ?_) <;> (first | exact @False.elim _ | intro hc)))
        refine x_appb (xs := (prL h l g k).map vint) (ys := [vint (prC h l g k)]) vw (by rw [epc.out]; exact vw) (hap.mono (fun q hq _ => by (simp only [put_obj]; repeat rw [if_neg (by omega)])) (by simp only [put_next]; omega)) (by rw [List.length_map, prL_len, Nat.mul_one]) rfl (by omega) (by unfold Go.maxLen; omega) (by show m.next + 9 < m.next + 11; omega) ?_
        intro tok' m' hap' hn' hbox hobj
        have ho := hbox 0 _ _ (by simp only [put_obj]; rw [if_neg (by omega)]; exact hm) (by show ¬ 0 = m.next + 9; omega)
        replace hn' : m'.next = m.next + 11 := hn'
        clear hbox hobj hap
        repeat' (with_reducible first | refine x_ops ?_ | refine wk ?_ | ((first | refine gd1 ?_ ?_ | refine gd2 ?_ ?_ | refine gd3 ?_ ?_) <;> (first | exact @False.elim _ | intro hc)))
        refine nx (by omega) ⟨vv, ⟨tok', ?_, hap'.mono (fun _ _ _ => rfl) (Nat.le_of_eq hn')⟩, ho, by ((refine ve ?_; try exact True.intro)); omega, fun i h => ?_⟩
        · rw [prL_succ, List.map_append]; exact vv
        · by_cases hi : i = k
          · subst hi; exact hpk.out
          · exact hI.out i (by omega)
      · have e2 : prN h l g l.length = k := prN_bad hI.out (fun hh => hst (hh.2 hk0)) hlt
        rw [stepR_no hst] at C5
        rw [e2, if_neg (by omega)]
        have e7 := prL_len h l g k
        clear hst ht hok hfit hfit1 hpos hpos1 htop e2
        unfold Hand.val Chord.val Chord.cells Grip.val Grip.cells at C3 C4 C5
        generalize l.getD (k - 1) noC = ca at *
        generalize g.getD (k - 1) noG = ga at *
        generalize l.getD k noC = cb at *
        generalize g.getD k noG = gb at *
        repeat' (with_reducible first | refine x_ops ?_ | refine wk ?_ | (with_reducible refine xc (C3) ?_) | (with_reducible refine xc (C4) ?_) | (with_reducible refine xc (C5) ?_) | ((first | refine gd1 ?_ ?_ | refine gd2 ?_ ?_ | refine gd3 ?_ ?_) <;> (first | exact @False.elim _ | intro hc)))
        exact finV_ret vv (.tup (.cons (.sl _ _ _) (.cons (.lit _) .nil)))
    · have c5 : ¬ (0 : Int) < (k : Int) := by omega
      have hpk : PrOk h l g k := ⟨hfit, fun hh => absurd hh hk0⟩
      have epc : prC h l g k = ownC h (l.getD k noC) (g.getD k noG) := by rw [prC, if_neg hk0]
      replace hpk := Hid.mk hpk
      replace epc := Hid.mk epc
      clear ht hok hfit hpos htop
      unfold Hand.val Chord.val Chord.cells Grip.val Grip.cells at C3 C4
      generalize l.getD k noC = cb at *
      generalize g.getD k noG = gb at *
      repeat' (with_reducible first | refine x_ops ?_ | refine wk ?_ | (with_reducible refine xc (C3) ?_) | (with_reducible refine xc (C4) ?_) | ((first | refine gd1 ?_ ?_ | refine gd2 ?_ ?_ | refine gd3 ?_ ?_) <;> (first | exact @False.elim _ | intro hc)))
      refine x_appb (xs := (prL h l g k).map vint) (ys := [vint (prC h l g k)]) vw (by rw [epc.out]; exact vw) (hap.mono (fun q hq _ => by (simp only [put_obj]; repeat rw [if_neg (by omega)])) (by simp only [put_next]; omega)) (by rw [List.length_map, prL_len, Nat.mul_one]) rfl (by omega) (by unfold Go.maxLen; omega) (by show m.next + 9 < m.next + 11; omega) ?_
      intro tok' m' hap' hn' hbox hobj
      have ho := hbox 0 _ _ (by simp only [put_obj]; rw [if_neg (by omega)]; exact hm) (by show ¬ 0 = m.next + 9; omega)
      replace hn' : m'.next = m.next + 11 := hn'
      clear hbox hobj hap
      repeat' (with_reducible first | refine x_ops ?_ | refine wk ?_ | ((first | refine gd1 ?_ ?_ | refine gd2 ?_ ?_ | refine gd3 ?_ ?_) <;> (first | exact @False.elim _ | intro hc)))
      refine nx (by omega) ⟨vv, ⟨tok', ?_, hap'.mono (fun _ _ _ => rfl) (Nat.le_of_eq hn')⟩, ho, by ((refine ve ?_; try exact True.intro)); omega, fun i h => ?_⟩
      · rw [prL_succ, List.map_append]; exact vv
      · by_cases hi : i = k
        · subst hi; exact hpk.out
        · exact hI.out i (by omega)
  · have hkl : k = l.length := by omega
    subst hkl
    have c1 : ¬ (l.length : Int) < (l.length : Int) := by omega
    rw [prN_all hI.out, if_pos rfl]
    clear hlt hap
    have e5 := prL_len h l g l.length
    replace e5 := Hid.mk e5
    repeat' (with_reducible first | refine x_ops ?_ | refine wk ?_ | ((first | refine gd1 ?_ ?_ | refine gd2 ?_ ?_ | refine gd3 ?_ ?_) <;> (first | exact @False.elim _ | intro hc)))
    exact finV_ret vv (by rw [e5.out]; exact .tup (.cons (.sl _ _ _) (.cons (.lit _) .nil)))
end Go.Proofs.Ytojjdkoglhecbaa
namespace Go.Proofs.Ytojjdkoglhecbaa
open Go.RowKit
set_option linter.unusedSimpArgs false
set_option linter.unusedVariables false

/-- The sum of the first ones. -/
def smI (l : List Int) : Nat → Int
  | 0 => 0
  | k + 1 => smI l k + l.getD k 0
theorem sm_bound {l : List Int} (hc : ∀ i, i < l.length → 0 ≤ l.getD i 0 ∧ l.getD i 0 ≤ 509000) : ∀ {k : Nat}, k ≤ l.length → 0 ≤ smI l k ∧ smI l k ≤ 509000 * k
  | 0, _ => by simp [smI]
  | k + 1, hk => by have := sm_bound hc (k := k) (by omega); have := hc k (by omega); rw [smI]; omega
theorem prN_le (h : Hand) (l : List Chord) (g : List Grip) (n : Nat) : prN h l g n ≤ n := by
  induction n with
  | zero => exact Nat.le_refl _
  | succ n ih => rw [prN]; split <;> omega
theorem prN_ok {h : Hand} {l : List Chord} {g : List Grip} {n : Nat} (hn : prN h l g n = n) : ∀ i, i < n → PrOk h l g i := by
  induction n with
  | zero => intro i hi; omega
  | succ n ih =>
    rw [prN] at hn
    split at hn
    · rename_i hh
      intro i hi
      by_cases e : i = n
      · subst e; exact hh.2
      · exact ih hh.1 i (by omega)
    · have := prN_le h l g n; omega
theorem prL_at {h : Hand} {l : List Chord} {g : List Grip} {n i : Nat} (hi : i < n) : (prL h l g n).getD i 0 = prC h l g i := by
  rw [prL, List.getD_eq_getElem?_getD, List.getElem?_map, List.getElem?_range hi]; rfl
/-- What prices and costs answer, case by case. -/
theorem pri_cases (h : Hand) (l : List Chord) (g : List Grip) :
    (∃ L : List Int, priR h l g = (L, 0) ∧ cosR h l g = (L, 0, 0) ∧ L.length = l.length ∧ l.length ≤ 400 ∧ ∀ i, i < L.length → 0 ≤ L.getD i 0 ∧ L.getD i 0 ≤ 509000) ∨
    (∃ (L : List Int), priR h l g = (L, 61) ∧ cosR h l g = ([], (L.length : Int), 61) ∧ L.length ≤ 400) ∨
    (∃ e : Int, (e == 0) = false ∧ (e == 61) = false ∧ priR h l g = ([], e) ∧ cosR h l g = ([], 0, e)) := by
  rw [priR, cosR]
  by_cases hb : bothE h l = 0
  · rw [if_pos hb, if_pos hb]
    obtain ⟨hk, h400, hseq⟩ := both_ok hb
    by_cases hl : g.length = l.length
    · rw [if_pos hl, if_pos hl]
      by_cases hp : prN h l g l.length = l.length
      · rw [if_pos hp, if_pos hp]
        refine .inl ⟨_, by rw [hp], rfl, prL_len h l g _, h400, fun i hi => ?_⟩
        rw [prL_len] at hi
        rw [prL_at hi]
        have hok := prN_ok hp
        exact (prC_bound hk (hseq i hi).1 (hok i hi) fun h0 => hok (i - 1) (by omega)).2
      · rw [if_neg hp, if_neg hp]
        have := prN_le h l g l.length
        exact .inr (.inl ⟨_, rfl, by rw [prL_len], by rw [prL_len]; omega⟩)
    · rw [if_neg hl, if_neg hl]
      exact .inr (.inr ⟨1, rfl, rfl, rfl, rfl⟩)
  · rw [if_neg hb, if_neg hb]
    refine .inr (.inr ⟨_, by simpa using hb, ?_, rfl, rfl⟩)
    unfold bothE seqE
    split <;> (try split) <;> (try split) <;> rfl
/-- What Valid answers. -/
noncomputable def valR (h : Hand) (l : List Chord) (g : List Grip) : Int × Int × Int := (smI (cosR h l g).1 (cosR h l g).1.length, (cosR h l g).2.1, (cosR h l g).2.2)

theorem valid_fn (h : Hand) (l : List Chord) (hl : Fits l) (g : List Grip) (hg : FitsG g) : Fn Try.prog Gd 56 [h.val, tCs l, tGs g] (.tup [vint (valR h l g).1, vint (valR h l g).2.1, vint (valR h l g).2.2]) := by
  refine Fn.of_vx0 k_hand_Valid (by simp) (by rw [V.pures, pure_hand, V.pures, pure_tCs, V.pures, pure_tGs]; rfl) ?_
  have C1 := prices_fn h l hl g hg
  unfold valR
  unfold c_hand_Valid
  rcases pri_cases h l g with ⟨L, e1, e2, hL, h4, hb⟩ | ⟨L, e1, e2, hL⟩ | ⟨e, n1, n2, e1, e2⟩
  · rw [e1] at C1
    rw [e2]
    have hs := fun k (hk : k ≤ L.length) => sm_bound hb (k := k) hk
    have h5 : L.length ≤ 400 := by omega
    clear e1 e2 hb hl hg hL h4
    dsimp only at C1 ⊢
    unfold Hand.val at C1 ⊢
    unfold tCs tGs tIs at C1 ⊢
    repeat' (with_reducible first | refine x_ops ?_ | refine wk ?_ | (with_reducible refine xc (C1) ?_) | ((first | refine gd1 ?_ ?_ | refine gd2 ?_ ?_ | refine gd3 ?_ ?_) <;> (first | exact @False.elim _ | intro hc)))
    refine x_loopF w_hand_Valid_p8 (by kernel_rfl) L.length (fun k t => t 30 = vint (k : Int) ∧ t 6 = vint (smI L k)) ?_ ?_
    · exact ⟨vv, vv⟩
    rintro k t hk ⟨h30, h6⟩
    by_cases hlt : k < L.length
    · have g1 := ints_at hlt
      have c2 : (k : Int) < (L.length : Int) := by omega
      have w2 := w_add1 (k := k) (by omega)
      have h3 := hs (k + 1) (by omega)
      have w3 : IntKind.i64.wrap (smI L k + L.getD k 0) = smI L (k + 1) := by rw [smI] at h3 ⊢; exact w_in (by omega)
      clear hs h3
      repeat' (with_reducible first | refine x_ops ?_ | refine wk ?_ | ((first | refine gd1 ?_ ?_ | refine gd2 ?_ ?_ | refine gd3 ?_ ?_) <;> (first | exact @False.elim _ | intro hc)))
      exact nf (by omega) ⟨vv, vv⟩ rfl
    · have hkl : k = L.length := by omega
      subst hkl
      have c1 : ¬ (L.length : Int) < (L.length : Int) := by omega
      clear hs
      repeat' (with_reducible first | refine x_ops ?_ | refine wk ?_ | ((first | refine gd1 ?_ ?_ | refine gd2 ?_ ?_ | refine gd3 ?_ ?_) <;> (first | exact @False.elim _ | intro hc)))
      exact finV_dry rfl vv
  · rw [e1] at C1
    rw [e2]
    clear e1 e2 hl hg
    dsimp only at C1 ⊢
    unfold Hand.val at C1 ⊢
    unfold tCs tGs tIs at C1 ⊢
    repeat' (with_reducible first | refine x_ops ?_ | refine wk ?_ | (with_reducible refine xc (C1) ?_) | ((first | refine gd1 ?_ ?_ | refine gd2 ?_ ?_ | refine gd3 ?_ ?_) <;> (first | exact @False.elim _ | intro hc)))
    exact finV_dry rfl vv
  · rw [e1] at C1
    rw [e2]
    clear e1 e2 hl hg
    dsimp only at C1 ⊢
    unfold Hand.val at C1 ⊢
    unfold tCs tGs tIs at C1 ⊢
    repeat' (with_reducible first | refine x_ops ?_ | refine wk ?_ | (with_reducible refine xc (C1) ?_) | ((first | refine gd1 ?_ ?_ | refine gd2 ?_ ?_ | refine gd3 ?_ ?_) <;> (first | exact @False.elim _ | intro hc)))
    exact finV_dry rfl vv
end Go.Proofs.Ytojjdkoglhecbaa
namespace Go.Proofs.Ytojjdkoglhecbaa
open Go.RowKit
set_option linter.unusedSimpArgs false
set_option linter.unusedVariables false

/-- A search: a hand and a sequence. -/
def srV (h : Hand) (l : List Chord) : V := .agg [tIs h.low, tIs h.high, tBs h.barre, vint h.top, vint h.jump, vint h.shift, vint h.lift, vint h.bar, vint h.stretch, vint h.slide, tCs l]
theorem pure_sr (h : Hand) (l : List Chord) : (srV h l).pure = true := by
  rw [srV, V.pure]
  simp only [V.pures, pure_tIs, pure_tBs, pure_tCs, vint, V.pure, Bool.and_self]
end Go.Proofs.Ytojjdkoglhecbaa
namespace Go.Proofs.Ytojjdkoglhecbaa
open Go.ChangeShapes Go.WideShapes Go.ChangeAt Go.RowKit
set_option maxRecDepth 100000

def tySearch : Ty := .st [tyHand, .sl tyChord 72]
theorem dt_handC {d : Dt} (h : d.ok tyHand) : ∃ x : Hand, d.cells = [tIs x.low, tIs x.high, tBs x.barre, vint x.top, vint x.jump, vint x.shift, vint x.lift, vint x.bar, vint x.stretch, vint x.slide] := by
  obtain ⟨x, hx⟩ := dt_hand h
  obtain ⟨l, _, _, hc, hv⟩ := ok_st h
  rw [hv, Hand.val] at hx
  injection hx with hx
  exact ⟨x, by rw [hc, hx]⟩
theorem dt_chordsC {b : Nat} {d : Dt} (hb : 8 ≤ b) (h : d.ok (.sl tyChord b)) : ∃ l : List Chord, d.cells = [tCs l] ∧ Fits l := by
  obtain ⟨l, h1, h2⟩ := dt_chords hb h
  exact ⟨l, by rw [dt_one h, h1], h2⟩
theorem dt_searchV {d : Dt} (h : d.ok tySearch) : ∃ x : Hand × List Chord, d.val = srV x.1 x.2 ∧ Fits x.2 := by
  obtain ⟨l, _, h1, _, hv⟩ := ok_st h
  obtain ⟨d1, r1, rfl, k1, h2, e1⟩ := oks_cons h1
  obtain ⟨d2, r2, rfl, k2, h3, e2⟩ := oks_cons h2
  obtain ⟨a, ea⟩ := dt_handC k1
  obtain ⟨b, eb, fb⟩ := dt_chordsC (by decide) k2
  exact ⟨(a, b), by rw [hv, e1, e2, oks_nil h3, ea, eb]; rfl, fb⟩
theorem dt_intV {d : Dt} (h : d.ok .int) : ∃ n : Int, d.val = vint n ∧ -9223372036854775808 ≤ n ∧ n ≤ 9223372036854775807 := by
  cases d <;> first | (rw [Dt.ok] at h; exact ⟨_, by rw [Dt.val], h⟩) | (simp [Dt.ok] at h)
theorem dt_intsV {d : Dt} (h : d.ok (.sl .int 8)) : ∃ l : List Int, d.val = tIs l ∧ l.length ≤ 17592186044416 ∧ ∀ a ∈ l, -9223372036854775808 ≤ a ∧ a ≤ 9223372036854775807 := by
  obtain ⟨l, h1, h2, h3⟩ := dt_ints h
  rw [dt_one h] at h1
  exact ⟨l, List.cons.inj h1 |>.1, by omega, h3⟩
theorem ty_int : tyOf Try.prog 10 3 = some .int := by kernel_rfl
theorem ty_ints : tyOf Try.prog 10 22 = some (.sl .int 8) := by kernel_rfl
theorem ty_search : tyOf Try.prog 10 35 = some tySearch := by kernel_rfl
end Go.Proofs.Ytojjdkoglhecbaa
namespace Go.Proofs.Ytojjdkoglhecbaa
open Go.RowKit
set_option linter.unusedSimpArgs false
set_option linter.unusedVariables false

/-- A way: its cost, the next grip, the rank. -/
abbrev Way := Int × Int × Int
def wyE (w : Way) : List V := [vint w.1, vint w.2.1, vint w.2.2]
theorem wy_l (w : Way) : (wyE w).length = 3 := rfl
def noW : Way := (0, 0, 0)
/-- One comes before another. -/
def befW (a b : Way) : Bool := if a.1 = b.1 then decide (a.2.1 < b.2.1) else decide (a.1 < b.1)
theorem befW_irr (a : Way) : befW a a = false := by simp [befW]
theorem befW_tr {a b c : Way} (h1 : befW a b = false) (h2 : befW b c = false) : befW a c = false := by
  unfold befW at *
  split at h1 <;> split at h2 <;> split <;> simp only [decide_eq_false_iff_not] at * <;> omega
theorem befW_as {a b : Way} (h : befW a b = true) : befW b a = false := by
  unfold befW at *
  split at h <;> split <;> simp only [decide_eq_true_eq, decide_eq_false_iff_not] at * <;> omega

/-- A heap. -/
def HpOk (H : List Way) : Prop := ∀ j, 0 < j → j < H.length → befW (H.getD j noW) (H.getD ((j - 1) / 2) noW) = false
theorem hp_min {H : List Way} (h : HpOk H) : ∀ (j : Nat), j < H.length → befW (H.getD j noW) (H.getD 0 noW) = false := by
  intro j
  induction j using Nat.strongRecOn with
  | ind j ih =>
    intro hj
    by_cases h0 : j = 0
    · subst h0; exact befW_irr _
    · exact befW_tr (h j (by omega) hj) (ih ((j - 1) / 2) (by omega) (by omega))
/-- Two change places. -/
def swW (H : List Way) (i p : Nat) : List Way := (H.set i (H.getD p noW)).set p (H.getD i noW)
theorem swW_len (H : List Way) (i p : Nat) : (swW H i p).length = H.length := by simp [swW]
theorem getD_setW {L : List Way} {i y : Nat} {v : Way} : (L.set i v).getD y noW = if i = y ∧ i < L.length then v else L.getD y noW := by
  rw [List.getD_eq_getElem?_getD, List.getElem?_set]
  by_cases e : i = y
  · subst e
    by_cases h : i < L.length
    · simp [h]
    · simp [h, List.getD_eq_getElem?_getD, List.getElem?_eq_none (Nat.le_of_not_lt h)]
  · simp [e, List.getD_eq_getElem?_getD]
theorem swW_at {H : List Way} {i p : Nat} (hi : i < H.length) (hp : p < H.length) (y : Nat) : (swW H i p).getD y noW = if y = p then H.getD i noW else if y = i then H.getD p noW else H.getD y noW := by
  rw [swW, getD_setW, getD_setW, List.length_set]
  by_cases e1 : y = p
  · subst e1; rw [if_pos ⟨rfl, hp⟩, if_pos rfl]
  · rw [if_neg (fun h => e1 h.1.symm), if_neg e1]
    by_cases e2 : y = i
    · subst e2; rw [if_pos ⟨rfl, hi⟩, if_pos rfl]
    · rw [if_neg (fun h => e2 h.1.symm), if_neg e2]
theorem swW_perm {H : List Way} {i p : Nat} (hi : i < H.length) (hp : p < H.length) : (swW H i p).Perm H := by
  rw [swW, List.getD_eq_getElem?_getD, List.getD_eq_getElem?_getD, List.getElem?_eq_getElem hi, List.getElem?_eq_getElem hp]
  exact List.set_set_perm hi hp

/-- A heap but for the place i, which may go up. -/
structure UpOk (H : List Way) (i : Nat) : Prop where
  lt : i < H.length
  oth : ∀ j, 0 < j → j < H.length → j ≠ i → befW (H.getD j noW) (H.getD ((j - 1) / 2) noW) = false
  kid : 0 < i → ∀ j, 0 < j → j < H.length → (j - 1) / 2 = i → befW (H.getD j noW) (H.getD ((i - 1) / 2) noW) = false
theorem up_end {H : List Way} {i : Nat} (h : UpOk H i) (he : i = 0 ∨ befW (H.getD i noW) (H.getD ((i - 1) / 2) noW) = false) : HpOk H := by
  intro j h0 hj
  by_cases e : j = i
  · subst e
    rcases he with he | he
    · omega
    · exact he
  · exact h.oth j h0 hj e
theorem up_step {H : List Way} {i : Nat} (h : UpOk H i) (h0 : 0 < i) (hb : befW (H.getD i noW) (H.getD ((i - 1) / 2) noW) = true) : UpOk (swW H i ((i - 1) / 2)) ((i - 1) / 2) := by
  have hi := h.lt
  have hp : (i - 1) / 2 < H.length := by omega
  have at_ := swW_at hi hp
  have hpi : (i - 1) / 2 < i := by omega
  generalize hpe : (i - 1) / 2 = p at *
  refine ⟨by rw [swW_len]; exact hp, fun j j0 hj hjp => ?_, fun p0 j j0 hj hjp => ?_⟩
  · rw [swW_len] at hj
    rw [at_ j, if_neg hjp, at_ ((j - 1) / 2)]
    by_cases hji : j = i
    · subst hji
      rw [if_pos rfl, hpe, if_pos rfl]
      exact befW_as hb
    · rw [if_neg hji]
      by_cases e1 : (j - 1) / 2 = p
      · rw [if_pos e1]
        have := h.oth j j0 hj hji
        rw [e1] at this
        exact befW_tr this (befW_as hb)
      · rw [if_neg e1]
        by_cases e2 : (j - 1) / 2 = i
        · rw [if_pos e2]; have := h.kid h0 j j0 hj e2; rwa [hpe] at this
        · rw [if_neg e2]; exact h.oth j j0 hj hji
  · rw [swW_len] at hj
    have hpp : (p - 1) / 2 < p := by omega
    rw [at_ ((p - 1) / 2), if_neg (by omega), if_neg (by omega), at_ j, if_neg (by omega)]
    have hpar := h.oth p p0 hp (by omega)
    by_cases hji : j = i
    · rw [if_pos hji]; exact hpar
    · rw [if_neg hji]
      have := h.oth j j0 hj hji
      rw [hjp] at this
      exact befW_tr this hpar

/-- A heap but for the place i, which may go down. -/
structure DnOk (H : List Way) (i : Nat) : Prop where
  oth : ∀ j, 0 < j → j < H.length → (j - 1) / 2 ≠ i → befW (H.getD j noW) (H.getD ((j - 1) / 2) noW) = false
  kid : 0 < i → ∀ j, 0 < j → j < H.length → (j - 1) / 2 = i → befW (H.getD j noW) (H.getD ((i - 1) / 2) noW) = false
theorem dn_end {H : List Way} {i : Nat} (h : DnOk H i) (he : ∀ c, (c = 2 * i + 1 ∨ c = 2 * i + 2) → c < H.length → befW (H.getD c noW) (H.getD i noW) = false) : HpOk H := by
  intro j h0 hj
  by_cases e : (j - 1) / 2 = i
  · rw [e]; exact he j (by omega) hj
  · exact h.oth j h0 hj e
/-- The least of a place and its children goes up. -/
theorem dn_step {H : List Way} {i c : Nat} (h : DnOk H i) (hi : i < H.length) (hc : c = 2 * i + 1 ∨ c = 2 * i + 2) (hcl : c < H.length) (hb : befW (H.getD i noW) (H.getD c noW) = false)
    (hmin : ∀ d, (d = 2 * i + 1 ∨ d = 2 * i + 2) → d < H.length → befW (H.getD d noW) (H.getD c noW) = false) : DnOk (swW H i c) c := by
  have at_ := swW_at hi hcl
  have hpc : (c - 1) / 2 = i := by omega
  refine ⟨fun j j0 hj hjp => ?_, fun c0 j j0 hj hjp => ?_⟩
  · rw [swW_len] at hj
    rw [at_ j, at_ ((j - 1) / 2), if_neg hjp]
    by_cases e1 : j = c
    · subst e1
      rw [if_pos rfl, hpc, if_pos rfl]; exact hb
    · rw [if_neg e1]
      by_cases e2 : j = i
      · subst e2
        have e3 : (j - 1) / 2 ≠ j := by omega
        rw [if_pos rfl, if_neg e3]
        exact h.kid j0 c (by omega) hcl hpc
      · rw [if_neg e2]
        by_cases e3 : (j - 1) / 2 = i
        · rw [if_pos e3]; exact hmin j (by omega) hj
        · rw [if_neg e3]; exact h.oth j j0 hj e3
  · rw [swW_len] at hj
    rw [hpc, at_ i, if_neg (by omega), if_pos rfl, at_ j, if_neg (by omega), if_neg (by omega)]
    have := h.oth j j0 hj (by omega)
    rwa [hjp] at this
end Go.Proofs.Ytojjdkoglhecbaa
namespace Go.Proofs.Ytojjdkoglhecbaa
open Go.RowKit

/-- One comes before another, or is it: by cost, then by list, then by rank. -/
def lexW (a b : Way) : Bool := if a.1 = b.1 then (if a.2.1 = b.2.1 then decide (a.2.2 ≤ b.2.2) else decide (a.2.1 < b.2.1)) else decide (a.1 < b.1)
theorem lexW_iff {a b : Way} : lexW a b = true ↔ a.1 < b.1 ∨ a.1 = b.1 ∧ (a.2.1 < b.2.1 ∨ a.2.1 = b.2.1 ∧ a.2.2 ≤ b.2.2) := by
  unfold lexW
  split
  · split <;> simp only [decide_eq_true_eq] <;> omega
  · simp only [decide_eq_true_eq]; omega
theorem lexW_total (a b : Way) : (lexW a b || lexW b a) = true := by
  rw [Bool.or_eq_true, lexW_iff, lexW_iff]; omega
theorem lexW_trans (a b c : Way) (h1 : lexW a b = true) (h2 : lexW b c = true) : lexW a c = true := by
  rw [lexW_iff] at *; omega
/-- A list with its numbers. -/
def numW (c : List Int) (m : Nat) : List Way := (List.range c.length).map fun r => (c.getD r 0, (m : Int), (r : Int))
def allW (n : Nat) (c : Nat → List Int) : List Way := (List.range n).flatMap fun m => numW (c m) m
/-- Lists, merged. -/
def mrg (n : Nat) (c : Nat → List Int) : List Way := (allW n c).mergeSort lexW
def Asc (c : List Int) : Prop := ∀ i j, i ≤ j → j < c.length → c.getD i 0 ≤ c.getD j 0
section
variable {n : Nat} {c : Nat → List Int}
theorem mem_all {w : Way} : w ∈ allW n c ↔ ∃ m r, m < n ∧ r < (c m).length ∧ w = ((c m).getD r 0, (m : Int), (r : Int)) := by
  unfold allW numW
  simp only [List.mem_flatMap, List.mem_range, List.mem_map]
  constructor
  · rintro ⟨m, hm, r, hr, rfl⟩; exact ⟨m, r, hm, hr, rfl⟩
  · rintro ⟨m, r, hm, hr, rfl⟩; exact ⟨m, hm, r, hr, rfl⟩
theorem mem_mrg {w : Way} : w ∈ mrg n c ↔ ∃ m r, m < n ∧ r < (c m).length ∧ w = ((c m).getD r 0, (m : Int), (r : Int)) := by
  rw [mrg, List.mem_mergeSort]; exact mem_all
theorem all_nd : (allW n c).Nodup := by
  unfold List.Nodup allW numW
  rw [List.pairwise_flatMap]
  constructor
  · intro m _
    rw [List.pairwise_map]
    refine List.Pairwise.imp ?_ List.pairwise_lt_range
    intro a b hab he
    rw [Prod.mk.injEq, Prod.mk.injEq] at he
    omega
  · refine List.Pairwise.imp ?_ List.pairwise_lt_range
    intro a b hab x hx y hy he
    rw [List.mem_map] at hx hy
    obtain ⟨r, _, rfl⟩ := hx
    obtain ⟨r', _, rfl⟩ := hy
    rw [Prod.mk.injEq, Prod.mk.injEq] at he
    omega
theorem mrg_perm : (mrg n c).Perm (allW n c) := List.mergeSort_perm _ _
theorem mrg_nd : (mrg n c).Nodup := mrg_perm.nodup_iff.2 all_nd
theorem mrg_srt : (mrg n c).Pairwise fun a b => lexW a b = true := List.pairwise_mergeSort lexW_trans lexW_total _
theorem mrg_at {i j : Nat} (hij : i < j) (hj : j < (mrg n c).length) : lexW ((mrg n c).getD i noW) ((mrg n c).getD j noW) = true ∧ (mrg n c).getD i noW ≠ (mrg n c).getD j noW := by
  have h1 := List.pairwise_iff_getElem.1 (mrg_srt (n := n) (c := c)) i j (by omega) hj hij
  have h2 := List.pairwise_iff_getElem.1 (mrg_nd (n := n) (c := c)) i j (by omega) hj hij
  rw [List.getD_eq_getElem?_getD, List.getD_eq_getElem?_getD, List.getElem?_eq_getElem (by omega), List.getElem?_eq_getElem hj]
  exact ⟨h1, h2⟩
theorem mrg_mem_at {j : Nat} (hj : j < (mrg n c).length) : (mrg n c).getD j noW ∈ mrg n c := by
  rw [List.getD_eq_getElem?_getD, List.getElem?_eq_getElem hj]; exact List.getElem_mem hj
theorem mrg_asc : Asc ((mrg n c).map (·.1)) := by
  intro i j hij hj
  rw [List.length_map] at hj
  have e : ∀ k, k < (mrg n c).length → ((mrg n c).map (·.1)).getD k 0 = ((mrg n c).getD k noW).1 := fun k hk => by
    rw [List.getD_eq_getElem?_getD, List.getElem?_map, List.getD_eq_getElem?_getD, List.getElem?_eq_getElem hk]; rfl
  rw [e i (by omega), e j hj]
  rcases Nat.lt_or_ge i j with h1 | h1
  · have := (mrg_at h1 hj).1
    rw [lexW_iff] at this; omega
  · have : i = j := by omega
    subst this; exact Int.le_refl _
theorem mem_take_at {L : List Way} {j : Nat} {w : Way} : w ∈ L.take j ↔ ∃ i, i < j ∧ i < L.length ∧ w = L.getD i noW := by
  rw [List.mem_take_iff_getElem]
  constructor
  · rintro ⟨i, hi, rfl⟩
    exact ⟨i, by omega, by omega, by rw [List.getD_eq_getElem?_getD, List.getElem?_eq_getElem (by omega)]; rfl⟩
  · rintro ⟨i, h1, h2, rfl⟩
    exact ⟨i, by omega, by rw [List.getD_eq_getElem?_getD, List.getElem?_eq_getElem (by omega)]; rfl⟩

/-- The head of a list behind those that were taken. -/
def hdG (c : Nat → List Int) (a : Nat → Nat) (m : Nat) : Way := ((c m).getD (a m) 0, (m : Int), (a m : Int))
/-- After j have been taken: a m of the list m. -/
structure Grd (n : Nat) (c : Nat → List Int) (j : Nat) (a : Nat → Nat) : Prop where
  le : j ≤ (mrg n c).length
  al : ∀ m, m < n → a m ≤ (c m).length
  aj : ∀ m, a m ≤ j
  has : ∀ m r, m < n → r < (c m).length → (((c m).getD r 0, (m : Int), (r : Int)) ∈ (mrg n c).take j ↔ r < a m)
theorem grd_0 : Grd n c 0 fun _ => 0 := ⟨Nat.zero_le _, fun _ _ => Nat.zero_le _, fun _ => Nat.le_refl _, fun m r _ _ => by simp⟩
/-- The head of each list is not before what comes next. -/
theorem grd_hd {j : Nat} {a : Nat → Nat} (h : Grd n c j a) (hj : j < (mrg n c).length) {m : Nat} (hm : m < n) (ha : a m < (c m).length) : lexW ((mrg n c).getD j noW) (hdG c a m) = true := by
  have h1 : hdG c a m ∈ mrg n c := mem_mrg.2 ⟨m, a m, hm, ha, rfl⟩
  have h2 : ¬ hdG c a m ∈ (mrg n c).take j := fun hh => by have := (h.has m (a m) hm ha).1 hh; omega
  rw [mem_take_at] at h2
  obtain ⟨i, hi, he⟩ := List.mem_iff_getElem.1 h1
  have e1 : hdG c a m = (mrg n c).getD i noW := by rw [List.getD_eq_getElem?_getD, List.getElem?_eq_getElem hi, ← he]; rfl
  have hij : j ≤ i := by
    rcases Nat.lt_or_ge i j with h3 | h3
    · exact absurd ⟨i, h3, hi, e1⟩ h2
    · exact h3
  rw [e1]
  rcases Nat.lt_or_ge j i with h3 | h3
  · exact (mrg_at h3 hi).1
  · have : i = j := by omega
    subst this
    rw [lexW_iff]; omega
theorem grd_next (hs : ∀ m, m < n → Asc (c m)) {j : Nat} {a : Nat → Nat} (h : Grd n c j a) (hj : j < (mrg n c).length) :
    ∃ m, m < n ∧ a m < (c m).length ∧ (mrg n c).getD j noW = hdG c a m ∧ Grd n c (j + 1) (fun x => if x = m then a m + 1 else a x) := by
  obtain ⟨m, r, hm, hr, he⟩ := mem_mrg.1 (mrg_mem_at hj)
  have hnt : ¬ (mrg n c).getD j noW ∈ (mrg n c).take j := by
    rw [mem_take_at]
    rintro ⟨i, h1, h2, h3⟩
    exact (mrg_at h1 hj).2 h3.symm
  have hra : ¬ r < a m := fun hh => hnt (by rw [he]; exact (h.has m r hm hr).2 hh)
  have ha : a m < (c m).length := by omega
  have h1 := grd_hd h hj hm ha
  have h2 := hs m hm (a m) r (by omega) hr
  have h3 : a m = r := by
    rw [he, lexW_iff] at h1
    unfold hdG at h1
    dsimp only at h1
    omega
  have e : (mrg n c).getD j noW = hdG c a m := by rw [he, hdG, h3]
  refine ⟨m, hm, ha, e, hj, fun x hx => ?_, fun x => ?_, fun x q hx hq => ?_⟩
  · try dsimp only
    by_cases e1 : x = m
    · subst e1; rw [if_pos rfl]; omega
    · rw [if_neg e1]; exact h.al x hx
  · have h8 := h.aj x
    have h9 := h.aj m
    split <;> omega
  · have ht : (mrg n c).take (j + 1) = (mrg n c).take j ++ [(mrg n c).getD j noW] := by
      rw [List.take_add_one, List.getD_eq_getElem?_getD, List.getElem?_eq_getElem hj]; rfl
    rw [ht, List.mem_append, h.has x q hx hq, List.mem_singleton, e, hdG, Prod.mk.injEq, Prod.mk.injEq]
    try dsimp only
    by_cases e1 : x = m
    · subst e1
      rw [if_pos rfl]
      constructor
      · rintro (h5 | ⟨_, _, h5⟩) <;> omega
      · intro h5
        rcases Nat.lt_or_ge q (a x) with h6 | h6
        · exact .inl h6
        · have : q = a x := by omega
          subst this; exact .inr ⟨rfl, rfl, rfl⟩
    · rw [if_neg e1]
      constructor
      · rintro (h5 | ⟨_, h5, _⟩)
        · exact h5
        · omega
      · exact .inl
theorem grd_end {j : Nat} {a : Nat → Nat} (h : Grd n c j a) (hj : ¬ j < (mrg n c).length) {m : Nat} (hm : m < n) : ¬ a m < (c m).length := fun ha => by
  have h1 := (h.has m (a m) hm ha).1 (by rw [List.take_of_length_le (by omega)]; exact mem_mrg.2 ⟨m, a m, hm, ha, rfl⟩)
  omega
theorem grd_more (hs : ∀ m, m < n → Asc (c m)) {j : Nat} {a : Nat → Nat} (h : Grd n c j a) : j < (mrg n c).length ↔ ∃ m, m < n ∧ a m < (c m).length := by
  constructor
  · intro hj
    obtain ⟨m, h1, h2, _⟩ := grd_next hs h hj
    exact ⟨m, h1, h2⟩
  · rintro ⟨m, h1, h2⟩
    rcases Nat.lt_or_ge j (mrg n c).length with h3 | h3
    · exact h3
    · exact absurd h2 (grd_end h (by omega) h1)
/-- What comes next, by the heads alone: the one before which none comes. -/
theorem grd_pick (hs : ∀ m, m < n → Asc (c m)) {j : Nat} {a : Nat → Nat} (h : Grd n c j a) {m : Nat} (hm : m < n) (ha : a m < (c m).length) (hb : ∀ x, x < n → a x < (c x).length → befW (hdG c a x) (hdG c a m) = false) :
    j < (mrg n c).length ∧ (mrg n c).getD j noW = hdG c a m ∧ Grd n c (j + 1) (fun x => if x = m then a m + 1 else a x) := by
  have hj : j < (mrg n c).length := (grd_more hs h).2 ⟨m, hm, ha⟩
  obtain ⟨x, h1, h2, h3, h4⟩ := grd_next hs h hj
  have h5 := grd_hd h hj hm ha
  have h6 := hb x h1 h2
  rw [h3, lexW_iff] at h5
  unfold befW hdG at h6
  unfold hdG at h5
  dsimp only at h5 h6
  have : x = m := by
    split at h6
    · rw [decide_eq_false_iff_not] at h6; omega
    · rw [decide_eq_false_iff_not] at h6; omega
  subst this
  exact ⟨hj, h3, h4⟩
end
end Go.Proofs.Ytojjdkoglhecbaa
namespace Go.Proofs.Ytojjdkoglhecbaa
open Go.RowKit

theorem x_genT {P : Program} {G : Ground} {a : VC} {Q : VX → St → Prop} {s : St} (F : (Nat → V) → Mm → Prop) (h0 : F s.t s.m) (h : ∀ t m, F t m → a.vx P G Q ⟨t, m⟩) : a.vx P G Q s := h s.t s.m h0
section
variable {c : Nat → List Int} {a : Nat → Nat} {i : Nat}
end
end Go.Proofs.Ytojjdkoglhecbaa
namespace Go.Proofs.Ytojjdkoglhecbaa
open Go.RowKit

/-- Nothing old is changed; or at most the row of this token. -/
def Kf (M M' : Mm) : Prop := M.next ≤ M'.next ∧ ∀ q, q < M.next → M'.obj q = M.obj q
def Kt (tok : Tok) (M M' : Mm) : Prop := M.next ≤ M'.next ∧ ∀ q, q < M.next → tok ≠ .own q → M'.obj q = M.obj q
theorem Kf.refl (M : Mm) : Kf M M := ⟨Nat.le_refl _, fun _ _ => rfl⟩
theorem Kf.trans {M M1 M2 : Mm} (h : Kf M M1) (k : Kf M1 M2) : Kf M M2 := ⟨Nat.le_trans h.1 k.1, fun q hq => (k.2 q (Nat.lt_of_lt_of_le hq h.1)).trans (h.2 q hq)⟩
theorem Kt.box {tok : Tok} {M M' : Mm} (h : Kt tok M M') {n : Nat} {e : TypeId} {z : Nat} (ha : Apb M tok n e z) {q : Nat} (hq : q < M.next) {cs : List V} {ty : TypeId} (ho : M.obj q = some (.box cs ty)) : M'.obj q = some (.box cs ty) := by
  rw [h.2 q hq, ho]
  rintro rfl
  rcases ha with h1 | ⟨t, h1, _, h3⟩
  · cases h1
  · injection h1 with h1; subst h1; rw [ho] at h3; cases h3
theorem apbT_box {m : Mm} {k : Tok} {n : Nat} {e : TypeId} {z : Nat} (h : Apb m k n e z) {q : Nat} {cs : List V} {t : TypeId} (hq : m.obj q = some (.box cs t)) : k ≠ .own q := by
  rintro rfl
  rcases h with h | ⟨t, h1, _, h3⟩
  · cases h
  · injection h1 with h1; subst h1; rw [hq] at h3; cases h3
section
variable {P : Program} {G : Ground}
/-- A slice that may grow does. -/
theorem x_appg {base i : Nat} {d : Option Nat} {e : TypeId} {size bytes : Nat} {x y : Opd} {l : List VI} {s : St} {K : St → Prop} {n j : Nat} {xs ys : List V} {k k2 : Tok} (hx : s.ev x = .sl n xs k) (hy : s.ev y = .sl j ys k2) (hap : Apb s.m k n e size)
    (h1 : xs.length = n * size) (h2 : ys.length = j * size) (h3 : (n + j) * bytes ≤ 140737488355328) (h4 : n + j ≤ maxLen) (h0 : base + i < s.m.next)
    (h : ∀ k' m', Apb m' k' (n + j) e size → (∀ q, k' = .own q → k = .own q ∨ q = base + i) → m'.next = s.m.next → (∀ q, q ≠ base + i → k ≠ .own q → m'.obj q = s.m.obj q) → goR P G base (some ⟨putT s.t d (.sl (n + j) (xs ++ ys) k'), m'⟩) l (i + 1) K) :
    vrun P G base i (⟨d, none, .app e size bytes, [x, y], none⟩ :: l) s K := by
  rw [vrun]
  unfold vstep VI.on
  simp only [if_true, List.map_cons, List.map_nil, hx, hy, sem]
  refine ⟨h1, h2, h3, h4, ?_⟩
  rcases hap with rfl | ⟨t, rfl, ht, ho⟩
  · exact goR_vrun l (i + 1) _ (h _ _ (.inr ⟨base + i, rfl, h0, if_pos rfl⟩) (fun q e => .inr (by injection e with e; exact e.symm)) rfl (fun q hne _ => if_neg hne))
  · simp only [ho]
    exact ⟨rfl, trivial, trivial, trivial, goR_vrun l (i + 1) _ (h _ _ (.inr ⟨t, rfl, ht, if_pos rfl⟩) (fun q e => .inl e) rfl (fun q _ hne => if_neg fun e => hne (by rw [e])))⟩
end
end Go.Proofs.Ytojjdkoglhecbaa
namespace Go.Proofs.Ytojjdkoglhecbaa
open Go.RowKit
set_option maxRecDepth 100000

abbrev c_hand_list_b_p1 : VC := (.ops 19 [oo 21 .mv [.t 3], oo 22 .mv [.t 3], oo 23 .nilck [.t 22], oo 24 (.fldA 1) [.t 23], od 25 .ld1 [.t 24] [1, 2, 3], oo 26 .mv [.t 0], oo 27 .nilck [.t 26], oo 28 (.fldA 11) [.t 27], od 29 .ld1 [.t 28] [5, 6, 7], oo 30 .mv [.t 4], oo 31 (.ixA 1) [.t 29, .t 30], od 32 .ld1 [.t 31] [5, 6, 7, 8, 9, 10], oo 33 .len [.t 32], od 34 (.mk 150 1 8 [(.lit (.pointer none))]) [.t 33, .t 33] [5, 6, 7, 8, 9, 10, 11, 12], ⟨(some 35), none, (.mkslB 163 1 1 [(.sl 0 [] .exact)] [(0, 1)]), [.t 34], (some [5, 6, 7, 8, 9, 10, 11, 12, 13])⟩, oo 36 (.appM 163 1 24) [.t 25, .t 35], oo 37 .nilck [.t 21], oo 38 (.fldA 1) [.t 37], ⟨none, none, (.st 1), [.t 38, .t 36], none⟩])
abbrev c_hand_list_b_p2 : VC := (.ops 0 [oo 39 (.bin .add) [.t 18, kk 1], oo 18 .mv [.t 39]])
abbrev c_hand_list_b_p3 : VC := (.seq (.block 1 (.seq (.ops 0 [oo 20 .mv [.t 18], oo 4 .mv [.t 20]]) c_hand_list_b_p1)) c_hand_list_b_p2)
abbrev c_hand_list_b_p4 : VC := (.seq (.ops 0 [oo 19 (.bin .lss) [.t 18, .t 17]]) (.seq (.cond (.t 19) .skip (.exit 0)) c_hand_list_b_p3))
@[go_sem] abbrev w_hand_list_b_p4 : Nat := 1099511365648
abbrev c_hand_list_b_p6 : VC := (.ops 0 [oo 60 .mv [.t 3], oo 61 .nilck [.t 60], oo 62 (.fldA 2) [.t 61], oo 63 .ld1 [.t 62], oo 64 .nilck [.t 63], oo 65 (.fldA 1) [.t 64], oo 66 .mv [.t 6], oo 67 .mv [.t 5], oo 68 (.build [li 0, li 0, li 0] [(0, 1), (1, 1), (2, 1)]) [.t 66, .t 67, kk 0], oo 69 (.call 111) [.t 65, .t 68]])
abbrev c_hand_list_b_p7 : VC := (.seq (.ops 0 [oo 58 .mv [.t 6], oo 59 (.bin .neq) [.t 58, kk (-1)]]) (.cond (.t 59) c_hand_list_b_p6 .skip))
abbrev c_hand_list_b_p8 : VC := (.ops 0 [oo 70 (.bin .add) [.t 53, kk 1], oo 53 .mv [.t 70]])
abbrev c_hand_list_b_p9 : VC := (.seq (.block 3 (.seq (.ops 0 [oo 55 .mv [.t 53], oo 56 (.ixA 1) [.t 51, .t 53], oo 57 .ld1 [.t 56], oo 5 .mv [.t 55], oo 6 .mv [.t 57]]) c_hand_list_b_p7)) c_hand_list_b_p8)
abbrev c_hand_list_b_p10 : VC := (.seq (.ops 0 [oo 54 (.bin .lss) [.t 53, .t 52]]) (.seq (.cond (.t 54) .skip (.exit 2)) c_hand_list_b_p9))
@[go_sem] abbrev w_hand_list_b_p10 : Nat := 2361174234235567865952
abbrev c_hand_list_b_p12 : VC := (.seq (.ops 0 [oo 46 .mv [.t 0], oo 47 .nilck [.t 46], oo 48 (.fldA 13) [.t 47], oo 49 .ld1 [.t 48], oo 50 (.ixA 1) [.t 49, kk 0], oo 51 .ld1 [.t 50], oo 52 .len [.t 51], oo 53 .mv [kk 0]]) (.block 2 (.loop c_hand_list_b_p10)))
abbrev c_hand_list_b_p13 : VC := (.seq (.ops 0 [oo 71 .mv [.t 3], oo 2 .mv [.t 71]]) .ret)
abbrev c_hand_list_b_p14 : VC := (.seq (.seq (.ops 0 [oo 40 .mv [.t 0], oo 41 .nilck [.t 40], oo 42 (.fldA 10) [.t 41], oo 43 .ld1 [.t 42], oo 44 .len [.t 43], oo 45 (.bin .gtr) [.t 44, kk 0]]) (.cond (.t 45) c_hand_list_b_p12 .skip)) c_hand_list_b_p13)
abbrev c_hand_list_b_p15 : VC := (.seq (.seq (.ops 0 [oo 13 .mv [.t 0], oo 14 .nilck [.t 13], oo 15 (.fldA 10) [.t 14], oo 16 .ld1 [.t 15], oo 17 .len [.t 16], oo 18 .mv [kk 0]]) (.block 0 (.loop c_hand_list_b_p4))) c_hand_list_b_p14)
abbrev c_hand_list_b_p16 : VC := (.seq (.ops 7 [oo 7 .mv [.t 0], ⟨(some 8), none, (.build [(.sl 0 [] .exact), (.lit .nilFunc)] [(1, 1)]), [(.c (.fn 110 []))], none⟩, ⟨(some 9), none, (.build [(.sl 0 [] .exact), (.sl 0 [] .exact), (.lit .nilFunc), (.lit (.bool false))] [(1, 2)]), [.t 8], none⟩, oo 10 (.box 159) [.t 9], ⟨(some 11), none, (.build [(.lit (.pointer none)), (.sl 0 [] .exact), (.lit (.pointer none))] [(0, 1), (2, 1)]), [.t 7, .t 10], none⟩, oo 12 (.box 162) [.t 11], oo 3 .mv [.t 12]]) c_hand_list_b_p15)
def c_hand_list_b : VC := (.seq (.ops 0 [oo 2 .mv [(.c (.lit (.pointer none)))]]) c_hand_list_b_p16)
theorem k_hand_list_b : Comp Try.prog (fun n => [35,36,1000036].contains n) gtab 74 72 c_hand_list_b [.t 2] := ⟨⟨Try.f74, _, Try.func74, rfl, rfl, kr, kr⟩⟩
abbrev c_hand_lister_node_p1 : VC := (.ops 0 [od 43 .ld1 [.t 7] [], oo 44 .nilck [.t 43], oo 45 (.fldA 1) [.t 44], od 46 .ld1 [.t 3] [], oo 47 .nilck [.t 46], oo 48 (.fldA 0) [.t 47], od 49 .ld1 [.t 48] [3, 4, 5], oo 50 .nilck [.t 49], oo 51 (.fldA 12) [.t 50], od 52 .ld1 [.t 51] [3, 4, 5, 6, 7, 8], od 53 .ld1 [.t 4] [], oo 54 (.ixA 1) [.t 52, .t 53], od 55 .ld1 [.t 54] [3, 4, 5, 6, 7, 8, 9, 10, 11], od 56 .ld1 [.t 5] [], oo 57 (.ixA 1) [.t 55, .t 56], od 58 .ld1 [.t 57] [3, 4, 5, 6, 7, 8, 9, 10, 11, 12, 13, 14], oo 59 (.build [li 0, li 0, li 0] [(0, 1), (1, 1), (2, 1)]) [.t 58, kk (-1), kk 0], oo 60 (.call 111) [.t 45, .t 59]])
abbrev c_hand_lister_node_p2 : VC := (.ops 0 [od 61 .ld1 [.t 3] [], oo 62 .nilck [.t 61], oo 63 (.fldA 0) [.t 62], od 64 .ld1 [.t 63] [0, 1, 2], od 65 .ld1 [.t 4] [], od 66 .ld1 [.t 5] [], oo 67 (.mkfn 138) [.t 7, .t 3, .t 4, .t 5], oo 68 (.call 88) [.t 64, .t 65, .t 66, .t 67]])
def c_hand_lister_node_p3 : VC := (.seq (.seq (.ops 0 [od 32 .ld1 [.t 4] [], od 33 .ld1 [.t 3] [], oo 34 .nilck [.t 33], oo 35 (.fldA 0) [.t 34], od 36 .ld1 [.t 35] [1, 2, 3], oo 37 .nilck [.t 36], oo 38 (.fldA 10) [.t 37], od 39 .ld1 [.t 38] [1, 2, 3, 4, 5, 6], oo 40 .len [.t 39], oo 41 (.bin .sub) [.t 40, kk 1], oo 42 (.bin .eql) [.t 32, .t 41]]) (.cond (.t 42) c_hand_lister_node_p1 .skip)) c_hand_lister_node_p2)
abbrev c_hand_lister_node_p4 : VC := (.seq (.ops 0 [od 22 .ld1 [.t 3] [], oo 23 .nilck [.t 22], oo 24 (.fldA 1) [.t 23], od 25 .ld1 [.t 24] [0, 1, 2], od 26 .ld1 [.t 4] [], oo 27 (.ixA 1) [.t 25, .t 26], od 28 .ld1 [.t 27] [0, 1, 2, 3, 4, 5], od 29 .ld1 [.t 5] [], od 30 .ld1 [.t 7] [], oo 31 (.ixA 1) [.t 28, .t 29], ⟨none, none, (.st 1), [.t 31, .t 30], none⟩]) c_hand_lister_node_p3)
abbrev c_hand_lister_node_p5 : VC := (.seq (.ops 5 [⟨(some 19), none, (.build [(.sl 0 [] .exact), (.lit .nilFunc)] [(1, 1)]), [(.c (.fn 110 []))], none⟩, ⟨(some 20), none, (.build [(.sl 0 [] .exact), (.sl 0 [] .exact), (.lit .nilFunc), (.lit (.bool false))] [(1, 2)]), [.t 19], none⟩, oo 21 (.box 159) [.t 20], oo 7 (.alloc 150 [(.lit (.pointer none))]) [], ⟨none, none, (.st 1), [.t 7, .t 21], none⟩]) c_hand_lister_node_p4)
abbrev c_hand_lister_node_p6 : VC := (.seq (.ops 0 [od 69 .ld1 [.t 3] [], oo 70 .nilck [.t 69], oo 71 (.fldA 1) [.t 70], od 72 .ld1 [.t 71] [0, 1, 2], od 73 .ld1 [.t 4] [], oo 74 (.ixA 1) [.t 72, .t 73], od 75 .ld1 [.t 74] [0, 1, 2, 3, 4, 5], od 76 .ld1 [.t 5] [], oo 77 (.ixA 1) [.t 75, .t 76], oo 78 .ld1 [.t 77], oo 6 .mv [.t 78]]) .ret)
abbrev c_hand_lister_node_p7 : VC := (.seq (.seq (.ops 0 [od 8 .ld1 [.t 3] [], oo 9 .nilck [.t 8], oo 10 (.fldA 1) [.t 9], od 11 .ld1 [.t 10] [0, 1, 2], od 12 .ld1 [.t 4] [], oo 13 (.ixA 1) [.t 11, .t 12], od 14 .ld1 [.t 13] [0, 1, 2, 3, 4, 5], od 15 .ld1 [.t 5] [], oo 16 (.ixA 1) [.t 14, .t 15], oo 17 .ld1 [.t 16], oo 18 (.eqQ false) [.t 17]]) (.cond (.t 18) c_hand_lister_node_p5 .skip)) c_hand_lister_node_p6)
def c_hand_lister_node : VC := (.seq (.ops 4 [oo 3 (.box 110) [.t 0], oo 4 (.box 3) [.t 1], oo 5 (.box 3) [.t 2], oo 6 .mv [(.c (.lit (.pointer none)))]]) c_hand_lister_node_p7)
theorem k_hand_lister_node : Comp Try.prog nobx gtab 134 79 c_hand_lister_node [.t 6] := ⟨⟨Try.f134, _, Try.func134, rfl, rfl, kr, kr⟩⟩
def c_hand_lister_node_1 : VC := (.ops 0 [od 8 .ld1 [.t 2] [], oo 9 .nilck [.t 8], oo 10 (.fldA 1) [.t 9], od 11 .ld1 [.t 3] [], oo 12 .nilck [.t 11], oo 13 (.fldA 0) [.t 12], od 14 .ld1 [.t 13] [3, 4, 5], oo 15 .nilck [.t 14], oo 16 (.fldA 12) [.t 15], od 17 .ld1 [.t 16] [3, 4, 5, 6, 7, 8], od 18 .ld1 [.t 4] [], oo 19 (.ixA 1) [.t 17, .t 18], od 20 .ld1 [.t 19] [3, 4, 5, 6, 7, 8, 9, 10, 11], od 21 .ld1 [.t 5] [], oo 22 (.ixA 1) [.t 20, .t 21], od 23 .ld1 [.t 22] [3, 4, 5, 6, 7, 8, 9, 10, 11, 12, 13, 14], oo 24 .mv [.t 1], oo 25 (.bin .add) [.t 23, .t 24], od 26 .ld1 [.t 3] [], oo 27 .nilck [.t 26], oo 28 (.fldA 0) [.t 27], od 29 .ld1 [.t 28] [18, 19, 20], oo 30 .nilck [.t 29], oo 31 (.fldA 13) [.t 30], od 32 .ld1 [.t 31] [18, 19, 20, 21, 22, 23], od 33 .ld1 [.t 4] [], oo 34 (.bin .add) [.t 33, kk 1], oo 35 (.ixA 1) [.t 32, .t 34], od 36 .ld1 [.t 35] [18, 19, 20, 21, 22, 23, 24, 25, 26, 27], oo 37 .mv [.t 0], oo 38 (.ixA 1) [.t 36, .t 37], od 39 .ld1 [.t 38] [18, 19, 20, 21, 22, 23, 24, 25, 26, 27, 28, 29, 30], oo 40 (.bin .add) [.t 25, .t 39], oo 41 .mv [.t 0], oo 42 (.build [li 0, li 0, li 0] [(0, 1), (1, 1), (2, 1)]) [.t 40, .t 41, kk 0], oo 43 (.call 111) [.t 10, .t 42]])
theorem k_hand_lister_node_1 : Comp Try.prog nobx gtab 138 44 c_hand_lister_node_1 [] := ⟨⟨Try.f138, _, Try.func138, rfl, rfl, kr, kr⟩⟩
abbrev c_hand_queue_hand_way_push_b_p1 : VC := (.ops 0 [oo 46 .mv [.t 4], oo 47 (.bin .sub) [.t 46, kk 1], oo 48 (.bin .quo) [.t 47, kk 2], oo 4 .mv [.t 48]])
abbrev c_hand_queue_hand_way_push_b_p2 : VC := (.seq (.block 1 (.ops 0 [oo 49 .mv [.t 0], oo 50 .nilck [.t 49], oo 51 (.fldA 0) [.t 50], od 52 .ld1 [.t 51] [0, 1, 2], oo 53 .mv [.t 4], oo 54 .mv [.t 0], oo 55 .nilck [.t 54], oo 56 (.fldA 0) [.t 55], od 57 .ld1 [.t 56] [5, 6, 7], oo 58 .mv [.t 4], oo 59 (.bin .sub) [.t 58, kk 1], oo 60 (.bin .quo) [.t 59, kk 2], oo 61 .mv [.t 0], oo 62 .nilck [.t 61], oo 63 (.fldA 0) [.t 62], od 64 .ld1 [.t 63] [12, 13, 14], oo 65 .mv [.t 4], oo 66 (.bin .sub) [.t 65, kk 1], oo 67 (.bin .quo) [.t 66, kk 2], oo 68 (.ixA 3) [.t 64, .t 67], od 69 (.ldA 3) [.t 68] [12, 13, 14, 15, 16, 17, 18, 19], oo 70 .mv [.t 0], oo 71 .nilck [.t 70], oo 72 (.fldA 0) [.t 71], od 73 .ld1 [.t 72] [21, 22, 23], oo 74 .mv [.t 4], oo 75 (.ixA 3) [.t 73, .t 74], od 76 (.ldA 3) [.t 75] [21, 22, 23, 24, 25, 26], oo 77 (.ixA 3) [.t 52, .t 53], ⟨none, none, (.st 3), [.t 77, .t 69], none⟩, oo 78 (.ixA 3) [.t 57, .t 60], ⟨none, none, (.st 3), [.t 78, .t 76], none⟩])) c_hand_queue_hand_way_push_b_p1)
abbrev c_hand_queue_hand_way_push_b_p3 : VC := (.seq (.seq (.ops 0 [oo 21 .mv [.t 4], oo 22 (.bin .gtr) [.t 21, kk 0], oo 23 .mv [.t 22], og 24 23 true .mv [.t 0], og 25 23 true .nilck [.t 24], og 26 23 true (.fldA 1) [.t 25], ⟨(some 27), (some (23, true)), .ld1, [.t 26], (some [0, 1, 2, 3, 4, 5])⟩, og 28 23 true .mv [.t 0], og 29 23 true .nilck [.t 28], og 30 23 true (.fldA 0) [.t 29], ⟨(some 31), (some (23, true)), .ld1, [.t 30], (some [0, 1, 2, 7, 8, 9])⟩, og 32 23 true .mv [.t 4], og 33 23 true (.ixA 3) [.t 31, .t 32], ⟨(some 34), (some (23, true)), (.ldA 3), [.t 33], (some [0, 1, 2, 7, 8, 9, 10, 11, 12])⟩, og 35 23 true .mv [.t 0], og 36 23 true .nilck [.t 35], og 37 23 true (.fldA 0) [.t 36], ⟨(some 38), (some (23, true)), .ld1, [.t 37], (some [0, 1, 2, 14, 15, 16])⟩, og 39 23 true .mv [.t 4], og 40 23 true (.bin .sub) [.t 39, kk 1], og 41 23 true (.bin .quo) [.t 40, kk 2], og 42 23 true (.ixA 3) [.t 38, .t 41], ⟨(some 43), (some (23, true)), (.ldA 3), [.t 42], (some [0, 1, 2, 14, 15, 16, 17, 18, 19, 20, 21])⟩, og 44 23 true .callv [.t 27, .t 34, .t 43], oo 45 .pick [.t 23, .t 44, (.c (.lit (.bool false)))]]) (.cond (.t 45) .skip (.exit 0))) c_hand_queue_hand_way_push_b_p2)
@[go_sem] abbrev w_hand_queue_hand_way_push_b_p3 : Nat := 604462909807314585255952
abbrev c_hand_queue_hand_way_push_b_p5 : VC := (.seq (.ops 0 [oo 15 .mv [.t 0], oo 16 .nilck [.t 15], oo 17 (.fldA 0) [.t 16], oo 18 .ld1 [.t 17], oo 19 .len [.t 18], oo 20 (.bin .sub) [.t 19, kk 1], oo 4 .mv [.t 20]]) (.block 0 (.loop c_hand_queue_hand_way_push_b_p3)))
abbrev c_hand_queue_hand_way_push_b_p6 : VC := (.seq (.ops 11 [oo 5 .mv [.t 0], oo 6 .mv [.t 0], oo 7 .nilck [.t 6], oo 8 (.fldA 0) [.t 7], od 9 .ld1 [.t 8] [1, 2, 3], od 10 (.ldA 3) [.t 3] [], oo 11 (.mksl 1 3 [li 0, li 0, li 0] [(0, 3)]) [.t 10], oo 12 (.appM 154 3 24) [.t 9, .t 11], oo 13 .nilck [.t 5], oo 14 (.fldA 0) [.t 13], ⟨none, none, (.st 1), [.t 14, .t 12], none⟩]) c_hand_queue_hand_way_push_b_p5)
def c_hand_queue_hand_way_push_b : VC := (.seq (.ops 1 [oo 3 (.box 154) [.t 1]]) c_hand_queue_hand_way_push_b_p6)
theorem k_hand_queue_hand_way_push_b : Comp Try.prog (fun n => [12,1000012].contains n) gtab 111 79 c_hand_queue_hand_way_push_b [] := ⟨⟨Try.f111, _, Try.func111, rfl, rfl, kr, kr⟩⟩
abbrev c_hand_queue_hand_way_pop_p1 : VC := (.seq (.ops 0 [oo 14 (.ldA 3) [.t 2], ⟨none, none, (.st 3), [.t 2, .t 14], none⟩, oo 3 .mv [(.c (.lit (.bool false)))]]) .ret)
abbrev c_hand_queue_hand_way_pop_p2 : VC := (.ops 0 [oo 83 .mv [.t 7], oo 6 .mv [.t 83]])
abbrev c_hand_queue_hand_way_pop_p3 : VC := (.ops 0 [oo 62 .mv [.t 7], oo 63 (.bin .add) [.t 62, kk 1], oo 7 .mv [.t 63]])
abbrev c_hand_queue_hand_way_pop_p4 : VC := (.seq (.block 3 (.seq (.ops 0 [oo 64 .mv [.t 0], oo 65 .nilck [.t 64], oo 66 (.fldA 1) [.t 65], od 67 .ld1 [.t 66] [0, 1, 2], oo 68 .mv [.t 0], oo 69 .nilck [.t 68], oo 70 (.fldA 0) [.t 69], od 71 .ld1 [.t 70] [4, 5, 6], oo 72 .mv [.t 7], oo 73 (.ixA 3) [.t 71, .t 72], od 74 (.ldA 3) [.t 73] [4, 5, 6, 7, 8, 9], oo 75 .mv [.t 0], oo 76 .nilck [.t 75], oo 77 (.fldA 0) [.t 76], od 78 .ld1 [.t 77] [11, 12, 13], oo 79 .mv [.t 6], oo 80 (.ixA 3) [.t 78, .t 79], od 81 (.ldA 3) [.t 80] [11, 12, 13, 14, 15, 16], oo 82 .callv [.t 67, .t 74, .t 81]]) (.cond (.t 82) c_hand_queue_hand_way_pop_p2 .skip))) c_hand_queue_hand_way_pop_p3)
abbrev c_hand_queue_hand_way_pop_p5 : VC := (.seq (.seq (.ops 0 [oo 52 .mv [.t 7], oo 53 .mv [.t 5], oo 54 (.bin .mul) [kk 2, .t 53], oo 55 (.bin .add) [.t 54, kk 2], oo 56 (.bin .leq) [.t 52, .t 55], oo 57 .mv [.t 56], og 58 57 true .mv [.t 7], og 59 57 true .mv [.t 4], og 60 57 true (.bin .lss) [.t 58, .t 59], oo 61 .pick [.t 57, .t 60, (.c (.lit (.bool false)))]]) (.cond (.t 61) .skip (.exit 2))) c_hand_queue_hand_way_pop_p4)
@[go_sem] abbrev w_hand_queue_hand_way_pop_p5 : Nat := 19342813109330467167928512
abbrev c_hand_queue_hand_way_pop_p7 : VC := (.seq (.ops 0 [oo 87 (.ldA 3) [.t 2], ⟨none, none, (.st 3), [.t 2, .t 87], none⟩, oo 3 .mv [(.c (.lit (.bool true)))]]) .ret)
abbrev c_hand_queue_hand_way_pop_p8 : VC := (.ops 0 [oo 114 .mv [.t 6], oo 5 .mv [.t 114]])
abbrev c_hand_queue_hand_way_pop_p9 : VC := (.seq (.ops 0 [oo 88 .mv [.t 0], oo 89 .nilck [.t 88], oo 90 (.fldA 0) [.t 89], od 91 .ld1 [.t 90] [0, 1, 2], oo 92 .mv [.t 5], oo 93 .mv [.t 0], oo 94 .nilck [.t 93], oo 95 (.fldA 0) [.t 94], od 96 .ld1 [.t 95] [5, 6, 7], oo 97 .mv [.t 6], oo 98 .mv [.t 0], oo 99 .nilck [.t 98], oo 100 (.fldA 0) [.t 99], od 101 .ld1 [.t 100] [10, 11, 12], oo 102 .mv [.t 6], oo 103 (.ixA 3) [.t 101, .t 102], od 104 (.ldA 3) [.t 103] [10, 11, 12, 13, 14, 15], oo 105 .mv [.t 0], oo 106 .nilck [.t 105], oo 107 (.fldA 0) [.t 106], od 108 .ld1 [.t 107] [17, 18, 19], oo 109 .mv [.t 5], oo 110 (.ixA 3) [.t 108, .t 109], od 111 (.ldA 3) [.t 110] [17, 18, 19, 20, 21, 22], oo 112 (.ixA 3) [.t 91, .t 92], ⟨none, none, (.st 3), [.t 112, .t 104], none⟩, oo 113 (.ixA 3) [.t 96, .t 97], ⟨none, none, (.st 3), [.t 113, .t 111], none⟩]) c_hand_queue_hand_way_pop_p8)
abbrev c_hand_queue_hand_way_pop_p10 : VC := (.seq (.seq (.ops 0 [oo 84 .mv [.t 6], oo 85 .mv [.t 5], oo 86 (.bin .eql) [.t 84, .t 85]]) (.cond (.t 86) c_hand_queue_hand_way_pop_p7 .skip)) c_hand_queue_hand_way_pop_p9)
abbrev c_hand_queue_hand_way_pop_p11 : VC := (.seq (.seq (.ops 0 [oo 49 .mv [.t 5], oo 50 (.bin .mul) [kk 2, .t 49], oo 51 (.bin .add) [.t 50, kk 1], oo 7 .mv [.t 51]]) (.block 2 (.loop c_hand_queue_hand_way_pop_p5))) c_hand_queue_hand_way_pop_p10)
abbrev c_hand_queue_hand_way_pop_p12 : VC := (.block 1 (.seq (.ops 0 [oo 48 .mv [.t 5], oo 6 .mv [.t 48]]) c_hand_queue_hand_way_pop_p11))
@[go_sem] abbrev w_hand_queue_hand_way_pop_p12 : Nat := 41538374868278621027962495657050344
abbrev c_hand_queue_hand_way_pop_p14 : VC := (.seq (.ops 0 [oo 5 .mv [kk 0]]) (.block 0 (.loop c_hand_queue_hand_way_pop_p12)))
abbrev c_hand_queue_hand_way_pop_p15 : VC := (.seq (.ops 0 [oo 39 .mv [.t 0], oo 40 .mv [.t 0], oo 41 .nilck [.t 40], oo 42 (.fldA 0) [.t 41], oo 43 .ld1 [.t 42], oo 44 .mv [.t 4], oo 45 (.slc 3 false true) [.t 43, .t 44], oo 46 .nilck [.t 39], oo 47 (.fldA 0) [.t 46], ⟨none, none, (.st 1), [.t 47, .t 45], none⟩]) c_hand_queue_hand_way_pop_p14)
abbrev c_hand_queue_hand_way_pop_p16 : VC := (.seq (.ops 0 [oo 27 .mv [.t 0], oo 28 .nilck [.t 27], oo 29 (.fldA 0) [.t 28], od 30 .ld1 [.t 29] [0, 1, 2], oo 31 .mv [.t 0], oo 32 .nilck [.t 31], oo 33 (.fldA 0) [.t 32], od 34 .ld1 [.t 33] [4, 5, 6], oo 35 .mv [.t 4], oo 36 (.ixA 3) [.t 34, .t 35], od 37 (.ldA 3) [.t 36] [4, 5, 6, 7, 8, 9], oo 38 (.ixA 3) [.t 30, kk 0], ⟨none, none, (.st 3), [.t 38, .t 37], none⟩]) c_hand_queue_hand_way_pop_p15)
abbrev c_hand_queue_hand_way_pop_p17 : VC := (.seq (.ops 0 [oo 21 .mv [.t 0], oo 22 .nilck [.t 21], oo 23 (.fldA 0) [.t 22], oo 24 .ld1 [.t 23], oo 25 .len [.t 24], oo 26 (.bin .sub) [.t 25, kk 1], oo 4 .mv [.t 26]]) c_hand_queue_hand_way_pop_p16)
abbrev c_hand_queue_hand_way_pop_p18 : VC := (.seq (.ops 0 [oo 15 .mv [.t 0], oo 16 .nilck [.t 15], oo 17 (.fldA 0) [.t 16], oo 18 .ld1 [.t 17], oo 19 (.ixA 3) [.t 18, kk 0], oo 20 (.ldA 3) [.t 19], ⟨none, none, (.st 3), [.t 2, .t 20], none⟩]) c_hand_queue_hand_way_pop_p17)
abbrev c_hand_queue_hand_way_pop_p19 : VC := (.seq (.seq (.ops 0 [oo 8 .mv [.t 0], oo 9 .nilck [.t 8], oo 10 (.fldA 0) [.t 9], oo 11 .ld1 [.t 10], oo 12 .len [.t 11], oo 13 (.bin .eql) [.t 12, kk 0]]) (.cond (.t 13) c_hand_queue_hand_way_pop_p1 .skip)) c_hand_queue_hand_way_pop_p18)
def c_hand_queue_hand_way_pop : VC := (.seq (.ops 2 [oo 2 (.alloc 154 [li 0, li 0, li 0]) [], oo 3 .mv [(.c (.lit (.bool false)))]]) c_hand_queue_hand_way_pop_p19)
theorem k_hand_queue_hand_way_pop : Comp Try.prog nobx gtab 135 115 c_hand_queue_hand_way_pop [(.c 2 3 true), .t 3] := ⟨⟨Try.f135, _, Try.func135, rfl, rfl, kr, kr⟩⟩
abbrev c_hand_way_before_p1 : VC := (.seq (.ops 0 [oo 10 (.fldA 0) [.t 2], oo 11 .ld1 [.t 10], oo 12 (.fldA 0) [.t 3], oo 13 .ld1 [.t 12], oo 14 (.bin .lss) [.t 11, .t 13], oo 4 .mv [.t 14]]) .ret)
abbrev c_hand_way_before_p2 : VC := (.seq (.ops 0 [oo 15 (.fldA 1) [.t 2], oo 16 .ld1 [.t 15], oo 17 (.fldA 1) [.t 3], oo 18 .ld1 [.t 17], oo 19 (.bin .lss) [.t 16, .t 18], oo 4 .mv [.t 19]]) .ret)
abbrev c_hand_way_before_p3 : VC := (.seq (.seq (.ops 0 [oo 5 (.fldA 0) [.t 2], oo 6 .ld1 [.t 5], oo 7 (.fldA 0) [.t 3], oo 8 .ld1 [.t 7], oo 9 (.bin .neq) [.t 6, .t 8]]) (.cond (.t 9) c_hand_way_before_p1 .skip)) c_hand_way_before_p2)
def c_hand_way_before : VC := (.seq (.ops 3 [oo 2 (.box 154) [.t 0], oo 3 (.box 154) [.t 1], oo 4 .mv [(.c (.lit (.bool false)))]]) c_hand_way_before_p3)
theorem k_hand_way_before : Comp Try.prog nobx gtab 110 20 c_hand_way_before [.t 4] := ⟨⟨Try.f110, _, Try.func110, rfl, rfl, kr, kr⟩⟩
end Go.Proofs.Ytojjdkoglhecbaa
namespace Go.Proofs.Ytojjdkoglhecbaa
open Go.RowKit
set_option maxRecDepth 100000

abbrev c_hand_Grips_p1 : VC := (.seq (.ops 0 [oo 12 .mv [.t 6], oo 4 .mv [(.c (.sl 0 [] .exact))], oo 5 .mv [.t 12]]) .ret)
abbrev c_hand_Grips_p2 : VC := (.seq (.ops 0 [oo 10 .mv [.t 6], oo 11 (.bin .neq) [.t 10, kk 0]]) (.cond (.t 11) c_hand_Grips_p1 .skip))
abbrev c_hand_Grips_p3 : VC := (.seq (.ops 0 [oo 4 .mv [(.c (.sl 0 [] .exact))], oo 5 .mv [kk 1]]) .ret)
abbrev c_hand_Grips_p4 : VC := (.seq (.ops 0 [oo 4 .mv [(.c (.sl 0 [] .exact))], oo 5 .mv [kk 2]]) .ret)
abbrev c_hand_Grips_p5 : VC := (.seq (.ops 0 [oo 22 .mv [.t 7], oo 4 .mv [.t 22], oo 5 .mv [kk 0]]) .ret)
abbrev c_hand_Grips_p6 : VC := (.seq (.seq (.ops 0 [oo 19 .mv [.t 7], oo 20 .len [.t 19], oo 21 (.bin .gtr) [.t 20, kk 200]]) (.cond (.t 21) c_hand_Grips_p4 .skip)) c_hand_Grips_p5)
abbrev c_hand_Grips_p7 : VC := (.seq (.ops 0 [oo 16 (.ldA 10) [.t 2], oo 17 (.ldA 3) [.t 3], oo 18 (.call 71) [.t 16, .t 17], oo 7 .mv [.t 18]]) c_hand_Grips_p6)
abbrev c_hand_Grips_p8 : VC := (.seq (.seq (.ops 0 [oo 13 (.ldA 3) [.t 3], oo 14 (.call 65) [.t 13], oo 15 (.un .not) [.t 14]]) (.cond (.t 15) c_hand_Grips_p3 .skip)) c_hand_Grips_p7)
abbrev c_hand_Grips_p9 : VC := (.seq (.seq (.ops 0 [oo 8 (.ldA 10) [.t 2], oo 9 (.call 24) [.t 8], oo 6 .mv [.t 9]]) c_hand_Grips_p2) c_hand_Grips_p8)
def c_hand_Grips : VC := (.seq (.ops 4 [oo 2 (.box 25) [.t 0], oo 3 (.box 47) [.t 1], oo 4 .mv [(.c (.sl 0 [] .exact))], oo 5 .mv [kk 0]]) c_hand_Grips_p9)
theorem k_hand_Grips : Comp Try.prog nobx gtab 32 23 c_hand_Grips [.t 4, .t 5] := ⟨⟨Try.f32, _, Try.func32, rfl, rfl, kr, kr⟩⟩
abbrev c_hand_grips_p1 : VC := (.ops 0 [oo 13 .mv [.t 7], oo 14 (.bin .add) [.t 13, kk 1], oo 7 .mv [.t 14]])
abbrev c_hand_grips_p2 : VC := (.seq (.block 1 (.ops 0 [oo 15 .ld1 [.t 6], oo 16 .mv [.t 7], oo 17 .callv [.t 15, .t 16]])) c_hand_grips_p1)
abbrev c_hand_grips_p3 : VC := (.seq (.seq (.ops 0 [oo 9 .mv [.t 7], oo 10 (.fldA 3) [.t 2], oo 11 .ld1 [.t 10], oo 12 (.bin .leq) [.t 9, .t 11]]) (.cond (.t 12) .skip (.exit 0))) c_hand_grips_p2)
@[go_sem] abbrev w_hand_grips_p3 : Nat := 261760
abbrev c_hand_grips_p5 : VC := (.seq (.ops 0 [oo 18 .ld1 [.t 4], ⟨none, none, (.st 1), [.t 4, .t 18], none⟩]) .ret)
abbrev c_hand_grips_p6 : VC := (.seq (.seq (.ops 0 [oo 7 .mv [kk 1]]) (.block 0 (.loop c_hand_grips_p3))) c_hand_grips_p5)
abbrev c_hand_grips_p7 : VC := (.seq (.ops 0 [oo 8 (.mkfn 104) [.t 5, .t 3, .t 2, .t 4, .t 6], ⟨none, none, (.st 1), [.t 6, .t 8], none⟩]) c_hand_grips_p6)
abbrev c_hand_grips_p8 : VC := (.seq (.ops 1 [oo 6 (.alloc 144 [(.lit .nilFunc)]) []]) c_hand_grips_p7)
abbrev c_hand_grips_p9 : VC := (.seq (.ops 1 [⟨(some 5), none, (.alloc 22 [(.sl 0 [] .exact)]), [], none⟩]) c_hand_grips_p8)
def c_hand_grips : VC := (.seq (.ops 3 [oo 2 (.box 25) [.t 0], oo 3 (.box 47) [.t 1], ⟨(some 4), none, (.alloc 38 [(.sl 0 [] .exact)]), [], none⟩]) c_hand_grips_p9)
theorem k_hand_grips : Comp Try.prog nobx gtab 71 19 c_hand_grips [(.c 4 1 false)] := ⟨⟨Try.f71, _, Try.func71, rfl, rfl, kr, kr⟩⟩
abbrev c_hand_grips_1_b_p1 : VC := (.ops 8 [od 22 .ld1 [.t 4] [], oo 23 .mv [.t 0], od 24 .ld1 [.t 1] [], od 25 (.call 106) [.t 24] [2], ⟨(some 26), none, (.build [li 0, (.sl 0 [] .exact)] [(0, 1), (1, 1)]), [.t 23, .t 25], none⟩, ⟨(some 27), none, (.mksl 1 2 [li 0, (.sl 0 [] .exact)] [(0, 2)]), [.t 26], none⟩, oo 28 (.app 53 2 32) [.t 22, .t 27], ⟨none, none, (.st 1), [.t 4, .t 28], none⟩])
abbrev c_hand_grips_1_b_p2 : VC := (.seq (.seq (.ops 0 [oo 18 (.ldA 10) [.t 3], oo 19 (.ldA 3) [.t 2], oo 20 .ld1 [.t 1], oo 21 (.call 105) [.t 18, .t 19, .t 20]]) (.cond (.t 21) c_hand_grips_1_b_p1 .skip)) .ret)
abbrev c_hand_grips_1_b_p3 : VC := (.seq (.ops 0 [oo 59 (.fldA 0) [.t 2], od 60 .ld1 [.t 59] [0], oo 61 .mv [.t 9], oo 62 (.ixA 2) [.t 60, .t 61], od 63 (.ldA 2) [.t 62] [0, 1, 2, 3], oo 64 (.fldA 0) [.t 2], od 65 .ld1 [.t 64] [5], oo 66 .mv [.t 7], oo 67 (.ixA 2) [.t 65, .t 66], od 68 (.ldA 2) [.t 67] [5, 6, 7, 8], oo 69 .mv [.t 10], oo 70 .mv [.t 8], oo 71 (.call 108) [.t 63, .t 68, .t 69, .t 70], oo 72 (.un .not) [.t 71]]) (.cond (.t 72) (.exit 1) .skip))
abbrev c_hand_grips_1_b_p4 : VC := (.ops 0 [oo 73 (.bin .add) [.t 54, kk 1], oo 54 .mv [.t 73]])
abbrev c_hand_grips_1_b_p5 : VC := (.seq (.block 3 (.seq (.ops 0 [oo 56 .mv [.t 54], oo 57 (.ixA 1) [.t 52, .t 54], oo 58 .ld1 [.t 57], oo 9 .mv [.t 56], oo 10 .mv [.t 58]]) c_hand_grips_1_b_p3)) c_hand_grips_1_b_p4)
abbrev c_hand_grips_1_b_p6 : VC := (.seq (.ops 0 [oo 55 (.bin .lss) [.t 54, .t 53]]) (.seq (.cond (.t 55) .skip (.exit 2)) c_hand_grips_1_b_p5))
@[go_sem] abbrev w_hand_grips_1_b_p6 : Nat := 18889447917080071374336
abbrev c_hand_grips_1_b_p8 : VC := (.ops 0 [oo 81 .ld1 [.t 1], oo 82 .mv [.t 7], oo 83 (.slc 1 false true) [.t 81, .t 82], ⟨none, none, (.st 1), [.t 1, .t 83], none⟩])
abbrev c_hand_grips_1_b_p9 : VC := (.seq (.ops 0 [oo 78 .ld1 [.t 5], oo 79 .mv [.t 0], oo 80 .callv [.t 78, .t 79]]) c_hand_grips_1_b_p8)
abbrev c_hand_grips_1_b_p10 : VC := (.seq (.ops 5 [oo 74 .ld1 [.t 1], oo 75 .mv [.t 8], oo 76 (.mksl 1 1 [li 0] [(0, 1)]) [.t 75], oo 77 (.appM 3 1 8) [.t 74, .t 76], ⟨none, none, (.st 1), [.t 1, .t 77], none⟩]) c_hand_grips_1_b_p9)
abbrev c_hand_grips_1_b_p11 : VC := (.seq (.seq (.ops 0 [oo 52 .ld1 [.t 1], oo 53 .len [.t 52], oo 54 .mv [kk 0]]) (.block 2 (.loop c_hand_grips_1_b_p6))) c_hand_grips_1_b_p10)
abbrev c_hand_grips_1_b_p12 : VC := (.ops 0 [oo 39 .mv [.t 8], oo 40 (.bin .add) [.t 39, kk 1], oo 8 .mv [.t 40]])
abbrev c_hand_grips_1_b_p13 : VC := (.seq (.block 1 (.seq (.seq (.ops 0 [od 41 (.ldA 10) [.t 3] [], oo 42 .mv [.t 0], oo 43 .mv [.t 8], oo 44 (.fldA 0) [.t 2], od 45 .ld1 [.t 44] [3], oo 46 .mv [.t 7], oo 47 (.ixA 2) [.t 45, .t 46], oo 48 (.fldA 1) [.t 47], od 49 .ld1 [.t 48] [3, 4, 5, 6, 7], oo 50 (.call 107) [.t 41, .t 42, .t 43, .t 49], oo 51 (.un .not) [.t 50]]) (.cond (.t 51) (.exit 1) .skip)) c_hand_grips_1_b_p11)) c_hand_grips_1_b_p12)
abbrev c_hand_grips_1_b_p14 : VC := (.seq (.seq (.ops 0 [oo 29 .mv [.t 8], oo 30 (.fldA 0) [.t 3], oo 31 .ld1 [.t 30], oo 32 .len [.t 31], oo 33 (.bin .leq) [.t 29, .t 32], oo 34 .mv [.t 33], og 35 34 true .ld1 [.t 4], og 36 34 true .len [.t 35], og 37 34 true (.bin .leq) [.t 36, kk 200], oo 38 .pick [.t 34, .t 37, (.c (.lit (.bool false)))]]) (.cond (.t 38) .skip (.exit 0))) c_hand_grips_1_b_p13)
@[go_sem] abbrev w_hand_grips_1_b_p14 : Nat := 19342813113834066258429696
abbrev c_hand_grips_1_b_p16 : VC := (.seq (.ops 0 [oo 8 .mv [kk 1]]) (.block 0 (.loop c_hand_grips_1_b_p14)))
abbrev c_hand_grips_1_b_p17 : VC := (.seq (.seq (.ops 0 [oo 13 .mv [.t 7], oo 14 (.fldA 0) [.t 2], oo 15 .ld1 [.t 14], oo 16 .len [.t 15], oo 17 (.bin .eql) [.t 13, .t 16]]) (.cond (.t 17) c_hand_grips_1_b_p2 .skip)) (.seq .skip c_hand_grips_1_b_p16))
def c_hand_grips_1_b : VC := (.scope (.seq (.ops 0 [oo 11 .ld1 [.t 1], oo 12 .len [.t 11], oo 7 .mv [.t 12]]) c_hand_grips_1_b_p17))
theorem k_hand_grips_1_b : Comp Try.prog (fun n => [77,1000077].contains n) gtab 104 84 c_hand_grips_1_b [] := ⟨⟨Try.f104, _, Try.func104, rfl, rfl, kr, kr⟩⟩
abbrev c_slices_Clone_int_int_p1 : VC := (.seq (.ops 0 [oo 2 .mv [(.c (.sl 0 [] .exact))]]) .ret)
abbrev c_slices_Clone_int_int_p2 : VC := (.seq (.ops 4 [oo 5 (.mksl 0 1 [] []) [], oo 6 .mv [.t 0], oo 7 (.app 3 1 8) [.t 5, .t 6], oo 2 .mv [.t 7]]) .ret)
abbrev c_slices_Clone_int_int_p3 : VC := (.seq (.seq (.ops 0 [oo 3 .mv [.t 0], oo 4 (.eqN false) [.t 3]]) (.cond (.t 4) c_slices_Clone_int_int_p1 .skip)) c_slices_Clone_int_int_p2)
def c_slices_Clone_int_int : VC := (.seq (.ops 0 [oo 2 .mv [(.c (.sl 0 [] .exact))]]) c_slices_Clone_int_int_p3)
theorem k_slices_Clone_int_int : Comp Try.prog nobx gtab 106 8 c_slices_Clone_int_int [.t 2] := ⟨⟨Try.f106, _, Try.func106, rfl, rfl, kr, kr⟩⟩
abbrev c_slices_Clone_int_int_b_p1 : VC := (.seq (.ops 0 [oo 2 .mv [(.c (.sl 0 [] .exact))]]) .ret)
abbrev c_slices_Clone_int_int_b_p2 : VC := (.seq (.ops 4 [oo 5 (.mksl 0 1 [] []) [], oo 6 .mv [.t 0], oo 7 (.appM 3 1 8) [.t 5, .t 6], oo 2 .mv [.t 7]]) .ret)
abbrev c_slices_Clone_int_int_b_p3 : VC := (.seq (.seq (.ops 0 [oo 3 .mv [.t 0], oo 4 (.eqN false) [.t 3]]) (.cond (.t 4) c_slices_Clone_int_int_b_p1 .skip)) c_slices_Clone_int_int_b_p2)
def c_slices_Clone_int_int_b : VC := (.seq (.ops 0 [oo 2 .mv [(.c (.sl 0 [] .exact))]]) c_slices_Clone_int_int_b_p3)
theorem k_slices_Clone_int_int_b : Comp Try.prog (fun n => [7,1000007].contains n) gtab 106 8 c_slices_Clone_int_int_b [.t 2] := ⟨⟨Try.f106, _, Try.func106, rfl, rfl, kr, kr⟩⟩
abbrev c_theorboref06_Grips_p1 : VC := (.seq (.ops 0 [oo 12 .mv [.t 6], oo 4 .mv [(.c (.sl 0 [] .exact))], oo 5 .mv [.t 12]]) .ret)
abbrev c_theorboref06_Grips_p2 : VC := (.seq (.ops 0 [oo 10 .mv [.t 6], oo 11 (.bin .neq) [.t 10, kk 0]]) (.cond (.t 11) c_theorboref06_Grips_p1 .skip))
abbrev c_theorboref06_Grips_p3 : VC := (.seq (.ops 0 [oo 4 .mv [(.c (.sl 0 [] .exact))], oo 5 .mv [kk 1]]) .ret)
abbrev c_theorboref06_Grips_p4 : VC := (.seq (.ops 0 [oo 4 .mv [(.c (.sl 0 [] .exact))], oo 5 .mv [kk 2]]) .ret)
abbrev c_theorboref06_Grips_p5 : VC := (.seq (.ops 0 [oo 22 .mv [.t 7], oo 4 .mv [.t 22], oo 5 .mv [kk 0]]) .ret)
abbrev c_theorboref06_Grips_p6 : VC := (.seq (.seq (.ops 0 [oo 19 .mv [.t 7], oo 20 .len [.t 19], oo 21 (.bin .gtr) [.t 20, kk 200]]) (.cond (.t 21) c_theorboref06_Grips_p4 .skip)) c_theorboref06_Grips_p5)
abbrev c_theorboref06_Grips_p7 : VC := (.seq (.ops 0 [oo 16 (.ldA 10) [.t 2], oo 17 (.ldA 3) [.t 3], oo 18 (.call 72) [.t 16, .t 17], oo 7 .mv [.t 18]]) c_theorboref06_Grips_p6)
abbrev c_theorboref06_Grips_p8 : VC := (.seq (.seq (.ops 0 [oo 13 (.ldA 3) [.t 3], oo 14 (.call 67) [.t 13], oo 15 (.un .not) [.t 14]]) (.cond (.t 15) c_theorboref06_Grips_p3 .skip)) c_theorboref06_Grips_p7)
abbrev c_theorboref06_Grips_p9 : VC := (.seq (.seq (.ops 0 [oo 8 (.ldA 10) [.t 2], oo 9 (.call 25) [.t 8], oo 6 .mv [.t 9]]) c_theorboref06_Grips_p2) c_theorboref06_Grips_p8)
def c_theorboref06_Grips : VC := (.seq (.ops 4 [oo 2 (.box 25) [.t 0], oo 3 (.box 47) [.t 1], oo 4 .mv [(.c (.sl 0 [] .exact))], oo 5 .mv [kk 0]]) c_theorboref06_Grips_p9)
theorem k_theorboref06_Grips : Comp Try.prog nobx gtab 33 23 c_theorboref06_Grips [.t 4, .t 5] := ⟨⟨Try.f33, _, Try.func33, rfl, rfl, kr, kr⟩⟩
abbrev c_theorboref06_all_p1 : VC := (.ops 0 [oo 11 .mv [.t 6], oo 12 (.bin .add) [.t 11, kk 1], oo 6 .mv [.t 12]])
abbrev c_theorboref06_all_p2 : VC := (.seq (.block 1 (.ops 0 [oo 13 (.ldA 10) [.t 2], oo 14 (.ldA 3) [.t 3], oo 15 .mv [.t 6], oo 16 .mv [.t 5], oo 17 (.call 109) [.t 13, .t 14, .t 15, (.c (.sl 0 [] .exact)), .t 16], oo 5 .mv [.t 17]])) c_theorboref06_all_p1)
abbrev c_theorboref06_all_p3 : VC := (.seq (.seq (.ops 0 [oo 7 .mv [.t 6], oo 8 (.fldA 3) [.t 2], oo 9 .ld1 [.t 8], oo 10 (.bin .leq) [.t 7, .t 9]]) (.cond (.t 10) .skip (.exit 0))) c_theorboref06_all_p2)
@[go_sem] abbrev w_theorboref06_all_p3 : Nat := 262112
abbrev c_theorboref06_all_p5 : VC := (.seq (.ops 0 [oo 18 .mv [.t 5], oo 4 .mv [.t 18]]) .ret)
abbrev c_theorboref06_all_p6 : VC := (.seq (.seq (.ops 0 [oo 6 .mv [kk 1]]) (.block 0 (.loop c_theorboref06_all_p3))) c_theorboref06_all_p5)
abbrev c_theorboref06_all_p7 : VC := (.seq (.ops 0 [oo 5 .mv [(.c (.sl 0 [] .exact))]]) c_theorboref06_all_p6)
def c_theorboref06_all : VC := (.seq (.ops 3 [oo 2 (.box 25) [.t 0], oo 3 (.box 47) [.t 1], oo 4 .mv [(.c (.sl 0 [] .exact))]]) c_theorboref06_all_p7)
theorem k_theorboref06_all : Comp Try.prog nobx gtab 72 19 c_theorboref06_all [.t 4] := ⟨⟨Try.f72, _, Try.func72, rfl, rfl, kr, kr⟩⟩
abbrev c_theorboref06_extend_p1 : VC := (.seq (.ops 8 [oo 22 .mv [.t 4], oo 23 .mv [.t 2], oo 24 .mv [.t 3], oo 25 (.app 3 1 8) [(.c (.sl 0 [] .exact)), .t 24], ⟨(some 26), none, (.build [li 0, (.sl 0 [] .exact)] [(0, 1), (1, 1)]), [.t 23, .t 25], none⟩, ⟨(some 27), none, (.mksl 1 2 [li 0, (.sl 0 [] .exact)] [(0, 2)]), [.t 26], none⟩, oo 28 (.app 53 2 32) [.t 22, .t 27], oo 10 .mv [.t 28]]) .ret)
abbrev c_theorboref06_extend_p2 : VC := (.ops 0 [oo 49 .mv [.t 14], oo 50 (.bin .add) [.t 49, kk 1], oo 14 .mv [.t 50]])
abbrev c_theorboref06_extend_p3 : VC := (.seq (.block 3 (.ops 0 [oo 51 .mv [.t 13], oo 52 .mv [.t 51], ⟨(some 53), (some (52, true)), (.ldA 10), [.t 5], (some [0, 1])⟩, ⟨(some 54), (some (52, true)), (.ldA 3), [.t 6], (some [0, 1])⟩, og 55 52 true .mv [.t 14], og 56 52 true .mv [.t 11], og 57 52 true .mv [.t 3], og 58 52 true .mv [.t 14], og 59 52 true (.ixA 1) [.t 57, .t 58], ⟨(some 60), (some (52, true)), .ld1, [.t 59], (some [0, 1, 6, 7, 8])⟩, og 61 52 true .mv [.t 12], og 62 52 true (.call 116) [.t 53, .t 54, .t 55, .t 56, .t 60, .t 61], oo 63 .pick [.t 52, .t 62, (.c (.lit (.bool false)))], oo 13 .mv [.t 63]])) c_theorboref06_extend_p2)
abbrev c_theorboref06_extend_p4 : VC := (.seq (.seq (.ops 0 [oo 46 .mv [.t 14], oo 47 .mv [.t 11], oo 48 (.bin .lss) [.t 46, .t 47]]) (.cond (.t 48) .skip (.exit 2))) c_theorboref06_extend_p3)
@[go_sem] abbrev w_theorboref06_extend_p4 : Nat := 18446673704965398528
abbrev c_theorboref06_extend_p6 : VC := (.ops 11 [od 70 (.ldA 10) [.t 5] [], od 71 (.ldA 3) [.t 6] [], oo 72 .mv [.t 2], oo 73 .mv [.t 3], od 74 (.app 3 1 8) [(.c (.sl 0 [] .exact)), .t 73] [3], oo 75 .mv [.t 12], oo 76 (.mksl 1 1 [li 0] [(0, 1)]) [.t 75], od 77 (.app 3 1 8) [.t 74, .t 76] [3, 4, 5, 6], oo 78 .mv [.t 4], oo 79 (.call 109) [.t 70, .t 71, .t 72, .t 77, .t 78], oo 4 .mv [.t 79]])
abbrev c_theorboref06_extend_p7 : VC := (.seq (.ops 0 [oo 64 .mv [.t 13], oo 65 .mv [.t 64], og 66 65 true .mv [.t 4], og 67 65 true .len [.t 66], og 68 65 true (.bin .leq) [.t 67, kk 200], oo 69 .pick [.t 65, .t 68, (.c (.lit (.bool false)))]]) (.cond (.t 69) c_theorboref06_extend_p6 .skip))
abbrev c_theorboref06_extend_p8 : VC := (.seq (.seq (.ops 0 [oo 14 .mv [kk 0]]) (.block 2 (.loop c_theorboref06_extend_p4))) c_theorboref06_extend_p7)
abbrev c_theorboref06_extend_p9 : VC := (.ops 0 [oo 34 .mv [.t 12], oo 35 (.bin .add) [.t 34, kk 1], oo 12 .mv [.t 35]])
abbrev c_theorboref06_extend_p10 : VC := (.seq (.block 1 (.seq (.ops 0 [od 36 (.ldA 10) [.t 5] [], oo 37 .mv [.t 2], oo 38 .mv [.t 12], oo 39 (.fldA 0) [.t 6], od 40 .ld1 [.t 39] [3], oo 41 .mv [.t 11], oo 42 (.ixA 2) [.t 40, .t 41], oo 43 (.fldA 1) [.t 42], od 44 .ld1 [.t 43] [3, 4, 5, 6, 7], oo 45 (.call 115) [.t 36, .t 37, .t 38, .t 44], oo 13 .mv [.t 45]]) c_theorboref06_extend_p8)) c_theorboref06_extend_p9)
abbrev c_theorboref06_extend_p11 : VC := (.seq (.seq (.ops 0 [oo 29 .mv [.t 12], oo 30 (.fldA 0) [.t 5], oo 31 .ld1 [.t 30], oo 32 .len [.t 31], oo 33 (.bin .leq) [.t 29, .t 32]]) (.cond (.t 33) .skip (.exit 0))) c_theorboref06_extend_p10)
@[go_sem] abbrev w_theorboref06_extend_p11 : Nat := 1208925819614628637863952
abbrev c_theorboref06_extend_p13 : VC := (.seq (.ops 0 [oo 80 .mv [.t 4], oo 10 .mv [.t 80]]) .ret)
abbrev c_theorboref06_extend_p14 : VC := (.seq (.seq (.ops 0 [oo 12 .mv [kk 1]]) (.block 0 (.loop c_theorboref06_extend_p11))) c_theorboref06_extend_p13)
abbrev c_theorboref06_extend_p15 : VC := (.seq (.seq (.ops 0 [oo 17 .mv [.t 11], oo 18 (.fldA 0) [.t 6], oo 19 .ld1 [.t 18], oo 20 .len [.t 19], oo 21 (.bin .eql) [.t 17, .t 20]]) (.cond (.t 21) c_theorboref06_extend_p1 .skip)) c_theorboref06_extend_p14)
abbrev c_theorboref06_extend_p16 : VC := (.seq (.ops 0 [oo 15 .mv [.t 3], oo 16 .len [.t 15], oo 11 .mv [.t 16]]) c_theorboref06_extend_p15)
def c_theorboref06_extend : VC := (.seq (.ops 3 [oo 5 (.box 25) [.t 0], oo 6 (.box 47) [.t 1], oo 10 .mv [(.c (.sl 0 [] .exact))]]) c_theorboref06_extend_p16)
theorem k_theorboref06_extend : Comp Try.prog nobx gtab 109 81 c_theorboref06_extend [.t 10] := ⟨⟨Try.f109, _, Try.func109, rfl, rfl, kr, kr⟩⟩
abbrev c_theorbolaw06_SameGrips_p1 : VC := (.seq (.ops 0 [oo 4 .mv [(.c (.lit (.bool false)))]]) .ret)
abbrev c_theorbolaw06_SameGrips_p2 : VC := (.seq (.ops 0 [oo 4 .mv [(.c (.lit (.bool false)))]]) .ret)
abbrev c_theorbolaw06_SameGrips_p3 : VC := (.ops 0 [oo 15 .mv [.t 5], oo 16 (.bin .add) [.t 15, kk 1], oo 5 .mv [.t 16]])
abbrev c_theorbolaw06_SameGrips_p4 : VC := (.seq (.block 1 (.seq (.ops 0 [oo 17 .mv [.t 0], oo 18 .mv [.t 5], oo 19 (.ixA 2) [.t 17, .t 18], oo 20 (.fldA 0) [.t 19], od 21 .ld1 [.t 20] [0, 1, 2, 3], oo 22 .mv [.t 1], oo 23 .mv [.t 5], oo 24 (.ixA 2) [.t 22, .t 23], oo 25 (.fldA 0) [.t 24], od 26 .ld1 [.t 25] [5, 6, 7, 8], oo 27 (.bin .neq) [.t 21, .t 26], oo 28 .mv [.t 27], og 29 28 false .mv [.t 0], og 30 28 false .mv [.t 5], og 31 28 false (.ixA 2) [.t 29, .t 30], og 32 28 false (.fldA 1) [.t 31], ⟨(some 33), (some (28, false)), .ld1, [.t 32], (some [0, 1, 2, 3, 4, 5, 6, 7, 8, 9, 10, 11, 12, 13, 14, 15])⟩, og 34 28 false .mv [.t 1], og 35 28 false .mv [.t 5], og 36 28 false (.ixA 2) [.t 34, .t 35], og 37 28 false (.fldA 1) [.t 36], ⟨(some 38), (some (28, false)), .ld1, [.t 37], (some [0, 1, 2, 3, 4, 5, 6, 7, 8, 9, 10, 11, 17, 18, 19, 20])⟩, og 39 28 false (.call 23) [.t 33, .t 38], og 40 28 false (.un .not) [.t 39], oo 41 .pick [.t 28, (.c (.lit (.bool true))), .t 40]]) (.cond (.t 41) c_theorbolaw06_SameGrips_p2 .skip))) c_theorbolaw06_SameGrips_p3)
abbrev c_theorbolaw06_SameGrips_p5 : VC := (.seq (.seq (.ops 0 [oo 11 .mv [.t 5], oo 12 .mv [.t 0], oo 13 .len [.t 12], oo 14 (.bin .lss) [.t 11, .t 13]]) (.cond (.t 14) .skip (.exit 0))) c_theorbolaw06_SameGrips_p4)
@[go_sem] abbrev w_theorbolaw06_SameGrips_p5 : Nat := 4398046509104
abbrev c_theorbolaw06_SameGrips_p7 : VC := (.seq (.ops 0 [oo 4 .mv [(.c (.lit (.bool true)))]]) .ret)
abbrev c_theorbolaw06_SameGrips_p8 : VC := (.seq (.seq (.ops 0 [oo 5 .mv [kk 0]]) (.block 0 (.loop c_theorbolaw06_SameGrips_p5))) c_theorbolaw06_SameGrips_p7)
abbrev c_theorbolaw06_SameGrips_p9 : VC := (.seq (.seq (.ops 0 [oo 6 .mv [.t 0], oo 7 .len [.t 6], oo 8 .mv [.t 1], oo 9 .len [.t 8], oo 10 (.bin .neq) [.t 7, .t 9]]) (.cond (.t 10) c_theorbolaw06_SameGrips_p1 .skip)) c_theorbolaw06_SameGrips_p8)
def c_theorbolaw06_SameGrips : VC := (.seq (.ops 0 [oo 4 .mv [(.c (.lit (.bool false)))]]) c_theorbolaw06_SameGrips_p9)
theorem k_theorbolaw06_SameGrips : Comp Try.prog nobx gtab 34 42 c_theorbolaw06_SameGrips [.t 4] := ⟨⟨Try.f34, _, Try.func34, rfl, rfl, kr, kr⟩⟩
abbrev c_theorbolaw06_before_p1 : VC := (.seq (.ops 0 [oo 11 (.fldA 0) [.t 2], oo 12 .ld1 [.t 11], oo 13 (.fldA 0) [.t 3], oo 14 .ld1 [.t 13], oo 15 (.bin .lss) [.t 12, .t 14], oo 4 .mv [.t 15]]) .ret)
abbrev c_theorbolaw06_before_p2 : VC := (.seq (.ops 0 [oo 41 (.fldA 1) [.t 2], od 42 .ld1 [.t 41] [0], oo 43 .mv [.t 5], oo 44 (.ixA 1) [.t 42, .t 43], od 45 .ld1 [.t 44] [0, 1, 2, 3], oo 46 (.fldA 1) [.t 3], od 47 .ld1 [.t 46] [5], oo 48 .mv [.t 5], oo 49 (.ixA 1) [.t 47, .t 48], od 50 .ld1 [.t 49] [5, 6, 7, 8], oo 51 (.bin .lss) [.t 45, .t 50], oo 4 .mv [.t 51]]) .ret)
abbrev c_theorbolaw06_before_p3 : VC := (.ops 0 [oo 28 .mv [.t 5], oo 29 (.bin .add) [.t 28, kk 1], oo 5 .mv [.t 29]])
abbrev c_theorbolaw06_before_p4 : VC := (.seq (.block 1 (.seq (.ops 0 [oo 30 (.fldA 1) [.t 2], od 31 .ld1 [.t 30] [0], oo 32 .mv [.t 5], oo 33 (.ixA 1) [.t 31, .t 32], od 34 .ld1 [.t 33] [0, 1, 2, 3], oo 35 (.fldA 1) [.t 3], od 36 .ld1 [.t 35] [5], oo 37 .mv [.t 5], oo 38 (.ixA 1) [.t 36, .t 37], od 39 .ld1 [.t 38] [5, 6, 7, 8], oo 40 (.bin .neq) [.t 34, .t 39]]) (.cond (.t 40) c_theorbolaw06_before_p2 .skip))) c_theorbolaw06_before_p3)
abbrev c_theorbolaw06_before_p5 : VC := (.seq (.seq (.ops 0 [oo 16 .mv [.t 5], oo 17 (.fldA 1) [.t 2], oo 18 .ld1 [.t 17], oo 19 .len [.t 18], oo 20 (.bin .lss) [.t 16, .t 19], oo 21 .mv [.t 20], og 22 21 true .mv [.t 5], og 23 21 true (.fldA 1) [.t 3], og 24 21 true .ld1 [.t 23], og 25 21 true .len [.t 24], og 26 21 true (.bin .lss) [.t 22, .t 25], oo 27 .pick [.t 21, .t 26, (.c (.lit (.bool false)))]]) (.cond (.t 27) .skip (.exit 0))) c_theorbolaw06_before_p4)
@[go_sem] abbrev w_theorbolaw06_before_p5 : Nat := 4503599627305008
abbrev c_theorbolaw06_before_p7 : VC := (.seq (.ops 0 [oo 4 .mv [(.c (.lit (.bool false)))]]) .ret)
abbrev c_theorbolaw06_before_p8 : VC := (.seq (.seq (.ops 0 [oo 5 .mv [kk 0]]) (.block 0 (.loop c_theorbolaw06_before_p5))) c_theorbolaw06_before_p7)
abbrev c_theorbolaw06_before_p9 : VC := (.seq (.seq (.ops 0 [oo 6 (.fldA 0) [.t 2], oo 7 .ld1 [.t 6], oo 8 (.fldA 0) [.t 3], oo 9 .ld1 [.t 8], oo 10 (.bin .neq) [.t 7, .t 9]]) (.cond (.t 10) c_theorbolaw06_before_p1 .skip)) c_theorbolaw06_before_p8)
def c_theorbolaw06_before : VC := (.seq (.ops 3 [oo 2 (.box 53) [.t 0], oo 3 (.box 53) [.t 1], oo 4 .mv [(.c (.lit (.bool false)))]]) c_theorbolaw06_before_p9)
theorem k_theorbolaw06_before : Comp Try.prog nobx gtab 36 52 c_theorbolaw06_before [.t 4] := ⟨⟨Try.f36, _, Try.func36, rfl, rfl, kr, kr⟩⟩
end Go.Proofs.Ytojjdkoglhecbaa
namespace Go.Proofs.Ytojjdkoglhecbaa
open Go.RowKit

/-- The grips at a position that begin with these fingers, k more to come, and fit; in order. -/
noncomputable def fitT (h : Hand) (c : Chord) (pos : Int) : Nat → List Int → List Grip
  | 0, F => if fitB h c ⟨pos, F⟩ = true then [⟨pos, F⟩] else []
  | k + 1, F => (List.range h.low.length).flatMap fun f => fitT h c pos k (F ++ [((f + 1 : Nat) : Int)])
/-- Those of the first positions. -/
noncomputable def fitP (h : Hand) (c : Chord) (n : Nat) : List Grip := (List.range n).flatMap fun p => fitT h c ((p + 1 : Nat) : Int) c.down.length []
/-- All grips that fit, in order. -/
noncomputable def grpA (h : Hand) (c : Chord) : List Grip := fitP h c h.top.toNat
/-- With these fingers first. -/
noncomputable def fitS (h : Hand) (c : Chord) (pos : Int) (k : Nat) (F : List Int) (n : Nat) : List Grip := (List.range n).flatMap fun f => fitT h c pos k (F ++ [((f + 1 : Nat) : Int)])
theorem fitS_succ (h : Hand) (c : Chord) (pos : Int) (k : Nat) (F : List Int) (n : Nat) : fitS h c pos k F (n + 1) = fitS h c pos k F n ++ fitT h c pos k (F ++ [((n + 1 : Nat) : Int)]) := by
  rw [fitS, fitS, List.range_succ, List.flatMap_append]; simp
theorem fitT_succ (h : Hand) (c : Chord) (pos : Int) (k : Nat) (F : List Int) : fitT h c pos (k + 1) F = fitS h c pos k F h.low.length := rfl
theorem fitP_succ (h : Hand) (c : Chord) (n : Nat) : fitP h c (n + 1) = fitP h c n ++ fitT h c ((n + 1 : Nat) : Int) c.down.length [] := by
  rw [fitP, fitP, List.range_succ, List.flatMap_append]; simp
theorem fitT_none {h : Hand} {c : Chord} {pos : Int} : ∀ {k : Nat} {F : List Int}, (∀ t, ¬ FitG h c ⟨pos, F ++ t⟩) → fitT h c pos k F = []
  | 0, F, hn => by
    have : ¬ fitB h c ⟨pos, F⟩ = true := fun hb => hn [] (by rw [List.append_nil]; exact fit_true.1 hb)
    rw [fitT, if_neg this]
  | k + 1, F, hn => by
    rw [fitT, List.flatMap_eq_nil_iff]
    exact fun f _ => fitT_none fun t => by rw [List.append_assoc]; exact hn _
/-- Every grip that is listed begins so, and fits. -/
theorem fitT_mem {h : Hand} {c : Chord} {pos : Int} {g : Grip} : ∀ {k : Nat} {F : List Int}, g ∈ fitT h c pos k F ↔ ∃ t, t.length = k ∧ (∀ f : Int, f ∈ t → 1 ≤ f ∧ f ≤ (h.low.length : Int)) ∧ g = ⟨pos, F ++ t⟩ ∧ FitG h c g
  | 0, F => by
    rw [fitT]
    constructor
    · intro hg
      split at hg
      · rename_i hb
        rw [List.mem_singleton] at hg
        subst hg
        exact ⟨[], rfl, (fun _ hf => by cases hf), by rw [List.append_nil], fit_true.1 hb⟩
      · cases hg
    · rintro ⟨t, ht, _, rfl, hf⟩
      have : t = [] := List.eq_nil_of_length_eq_zero ht
      subst this
      rw [List.append_nil] at hf ⊢
      rw [if_pos (fit_true.2 hf)]
      exact List.mem_singleton.2 rfl
  | k + 1, F => by
    rw [fitT, List.mem_flatMap]
    constructor
    · rintro ⟨f, hf, hg⟩
      obtain ⟨t, h1, h2, h3, h4⟩ := fitT_mem.1 hg
      have hf := List.mem_range.1 hf
      refine ⟨((f + 1 : Nat) : Int) :: t, by simp [h1], fun x hx => ?_, by rw [h3, List.append_assoc]; rfl, h4⟩
      rcases List.mem_cons.1 hx with rfl | hx
      · omega
      · exact h2 x hx
    · rintro ⟨t, h1, h2, h3, h4⟩
      cases t with
      | nil => simp at h1
      | cons x t =>
        have hx := h2 x (List.mem_cons_self ..)
        refine ⟨(x - 1).toNat, List.mem_range.2 (by omega), fitT_mem.2 ⟨t, by simpa using h1, fun y hy => h2 y (List.mem_cons_of_mem _ hy), ?_, h4⟩⟩
        rw [h3, List.append_assoc, show (((x - 1).toNat + 1 : Nat) : Int) = x by omega]
        rfl
/-- A grip is listed if it fits, and only then. -/
theorem grpA_mem {h : Hand} {c : Chord} {g : Grip} : g ∈ grpA h c ↔ FitG h c g := by
  rw [grpA, fitP, List.mem_flatMap]
  constructor
  · rintro ⟨p, _, hg⟩
    obtain ⟨_, _, _, _, h4⟩ := fitT_mem.1 hg
    exact h4
  · intro hf
    have hp := hf.pos
    refine ⟨(g.pos - 1).toNat, List.mem_range.2 (by omega), fitT_mem.2 ⟨g.fingers, hf.len, fun f hfm => ?_, ?_, hf⟩⟩
    · obtain ⟨i, hi, rfl⟩ := List.getElem_of_mem hfm
      have := hf.fin i (by rw [← hf.len]; exact hi)
      rw [List.getD_eq_getElem?_getD, List.getElem?_eq_getElem hi] at this
      exact this
    · rw [show (((g.pos - 1).toNat + 1 : Nat) : Int) = g.pos by omega]; rfl

/-- The first fingers are as the program wants them. -/
def PreF (h : Hand) (c : Chord) (pos : Int) (F : List Int) : Prop := ∀ i, i < F.length → (1 ≤ F.getD i 0 ∧ F.getD i 0 ≤ h.low.length) ∧ rchB h pos (F.getD i 0 - 1).toNat (c.down.getD i (0, 0)).2 = true ∧
  ∀ k, k < i → agrB (c.down.getD k (0, 0)) (c.down.getD i (0, 0)) (F.getD k 0) (F.getD i 0) = true
theorem getD_app_l {F t : List Int} {i : Nat} (hi : i < F.length) : (F ++ t).getD i 0 = F.getD i 0 := by
  rw [List.getD_eq_getElem?_getD, List.getElem?_append_left hi, List.getD_eq_getElem?_getD]
theorem getD_app_last (F : List Int) (x : Int) : (F ++ [x]).getD F.length 0 = x := by
  rw [List.getD_eq_getElem?_getD, List.getElem?_append_right (Nat.le_refl _), Nat.sub_self]; rfl
theorem getD_app_mid (F : List Int) (x : Int) (t : List Int) : (F ++ [x] ++ t).getD F.length 0 = x := by rw [getD_app_l (by simp), getD_app_last]
theorem getD_app_far {F : List Int} {x : Int} {t : List Int} {j : Nat} (hj : j < F.length) : (F ++ [x] ++ t).getD j 0 = F.getD j 0 := by rw [List.append_assoc, getD_app_l hj]
theorem PreF.snoc {h : Hand} {c : Chord} {pos : Int} {F : List Int} {f : Nat} (hF : PreF h c pos F) (hf : f < h.low.length) (hr : rchB h pos f (c.down.getD F.length (0, 0)).2 = true)
    (ha : ∀ k, k < F.length → agrB (c.down.getD k (0, 0)) (c.down.getD F.length (0, 0)) (F.getD k 0) ((f + 1 : Nat) : Int) = true) : PreF h c pos (F ++ [((f + 1 : Nat) : Int)]) := by
  intro i hi
  rw [List.length_append] at hi
  by_cases h1 : i < F.length
  · rw [getD_app_l h1]
    obtain ⟨h2, h3, h4⟩ := hF i h1
    exact ⟨h2, h3, fun k hk => by rw [getD_app_l (by omega)]; exact h4 k hk⟩
  · have : i = F.length := by have : [((f + 1 : Nat) : Int)].length = 1 := rfl
                              omega
    subst this
    rw [getD_app_last]
    exact ⟨by omega, by rw [show (((f + 1 : Nat) : Int) - 1).toNat = f by omega]; exact hr, fun k hk => by rw [getD_app_l hk]; exact ha k hk⟩
theorem fitT_reach {h : Hand} {c : Chord} {pos : Int} {F : List Int} {k f : Nat} (hl : F.length < c.down.length) (hr : rchB h pos f (c.down.getD F.length (0, 0)).2 = false) : fitT h c pos k (F ++ [((f + 1 : Nat) : Int)]) = [] :=
  fitT_none fun t hg => by
    have := hg.rch F.length hl
    rw [show (⟨pos, F ++ [((f + 1 : Nat) : Int)] ++ t⟩ : Grip).fingers = F ++ [((f + 1 : Nat) : Int)] ++ t from rfl, getD_app_mid, show (((f + 1 : Nat) : Int) - 1).toNat = f by omega] at this
    rw [show (⟨pos, F ++ [((f + 1 : Nat) : Int)] ++ t⟩ : Grip).pos = pos from rfl, hr] at this
    cases this
theorem fitT_agree {h : Hand} {c : Chord} {pos : Int} {F : List Int} {k f j : Nat} (hl : F.length < c.down.length) (hj : j < F.length) (ha : agrB (c.down.getD j (0, 0)) (c.down.getD F.length (0, 0)) (F.getD j 0) ((f + 1 : Nat) : Int) = false) : fitT h c pos k (F ++ [((f + 1 : Nat) : Int)]) = [] :=
  fitT_none fun t hg => by
    have := hg.agr F.length hl j hj
    rw [show (⟨pos, F ++ [((f + 1 : Nat) : Int)] ++ t⟩ : Grip).fingers = F ++ [((f + 1 : Nat) : Int)] ++ t from rfl, getD_app_mid, getD_app_far hj, ha] at this
    cases this
theorem PreF.leaf {h : Hand} {c : Chord} {pos : Int} {F : List Int} (hF : PreF h c pos F) (hp : 1 ≤ pos ∧ pos ≤ h.top) (hl : F.length = c.down.length) : fitB h c ⟨pos, F⟩ = spnB h c F := by
  cases hs : spnB h c F
  · cases hb : fitB h c ⟨pos, F⟩
    · rfl
    · rw [spn_true.2 (fit_true.1 hb).spn] at hs; cases hs
  · exact fit_true.2 ⟨hp, hl, fun i hi => (hF i (by omega)).1, fun i hi => (hF i (by omega)).2.1, fun i hi k hk => (hF i (by omega)).2.2 k hk, spn_true.1 hs⟩
/-- The first fingers are as the reference wants them. -/
def PreR (h : Hand) (c : Chord) (pos : Int) (F : List Int) : Prop := ∀ i, i < F.length → rrchB h pos (F.getD i 0) (c.down.getD i (0, 0)).2 = true ∧ ∀ k, k < i → AptP h c k i (F.getD k 0) (F.getD i 0)
theorem PreR.snoc {h : Hand} {c : Chord} {pos : Int} {F : List Int} {f : Int} (hF : PreR h c pos F) (hr : rrchB h pos f (c.down.getD F.length (0, 0)).2 = true)
    (ha : ∀ k, k < F.length → AptP h c k F.length (F.getD k 0) f) : PreR h c pos (F ++ [f]) := by
  intro i hi
  rw [List.length_append] at hi
  by_cases h1 : i < F.length
  · rw [getD_app_l h1]
    obtain ⟨h3, h4⟩ := hF i h1
    exact ⟨h3, fun k hk => by rw [getD_app_l (by omega)]; exact h4 k hk⟩
  · have : i = F.length := by have : [f].length = 1 := rfl
                              omega
    subst this
    rw [getD_app_last]
    exact ⟨hr, fun k hk => by rw [getD_app_l hk]; exact ha k hk⟩
theorem fitT_bad {h : Hand} (hk : HandOk h) {c : Chord} (hc : ChordOk c) {pos : Int} {F : List Int} {k : Nat} {f : Int} (hl : F.length < c.down.length)
    (hr : ¬ (rrchB h pos f (c.down.getD F.length (0, 0)).2 = true ∧ ∀ k, k < F.length → AptP h c k F.length (F.getD k 0) f)) : fitT h c pos k (F ++ [f]) = [] :=
  fitT_none fun t hg => by
    have hg := (rfit_iff hk hc).2 hg
    have h1 := hg.rch F.length hl
    rw [show (⟨pos, F ++ [f] ++ t⟩ : Grip).fingers = F ++ [f] ++ t from rfl, getD_app_mid] at h1
    refine hr ⟨h1, fun j hj => ?_⟩
    have := hg.apt F.length hl j hj
    rw [show (⟨pos, F ++ [f] ++ t⟩ : Grip).fingers = F ++ [f] ++ t from rfl, getD_app_mid, getD_app_far hj] at this
    exact this
theorem PreR.leaf {h : Hand} (hk : HandOk h) {c : Chord} (hc : ChordOk c) {pos : Int} {F : List Int} (hF : PreR h c pos F) (hp : 1 ≤ pos ∧ pos ≤ h.top) (hl : F.length = c.down.length) : fitB h c ⟨pos, F⟩ = true :=
  fit_true.2 ((rfit_iff hk hc).1 ⟨hp, hl, fun i hi => (hF i (by omega)).1, fun i hi k hk => (hF i (by omega)).2 k hk⟩)

/-! ### No more than one above the limit -/
theorem tk_more {α : Type} {A B : List α} (h : (A.take 201).length ≤ 200) : (A.take 201 ++ B).take 201 = (A ++ B).take 201 := by
  rw [List.length_take] at h
  rw [List.take_of_length_le (l := A) (by omega)]
theorem tk_full {α : Type} {A B : List α} (h : ¬ (A.take 201).length ≤ 200) : A.take 201 = (A ++ B).take 201 := by
  rw [List.length_take] at h
  rw [List.take_append_of_le_length (by omega)]
theorem tk_len {α : Type} (A : List α) : (A.take 201).length ≤ 201 := by rw [List.length_take]; omega
theorem fitS_le (h : Hand) (c : Chord) (pos : Int) (k : Nat) (F : List Int) {n m : Nat} (hnm : n ≤ m) : ∃ B, fitS h c pos k F m = fitS h c pos k F n ++ B := by
  induction m with
  | zero => have : n = 0 := by omega
            subst this; exact ⟨[], by simp⟩
  | succ m ih =>
    by_cases e : n = m + 1
    · subst e; exact ⟨[], by simp⟩
    · obtain ⟨B, hB⟩ := ih (by omega)
      exact ⟨B ++ fitT h c pos k (F ++ [((m + 1 : Nat) : Int)]), by rw [fitS_succ, hB, List.append_assoc]⟩
theorem fitT0_len (h : Hand) (c : Chord) (pos : Int) (F : List Int) : (fitT h c pos 0 F).length ≤ 1 := by rw [fitT]; split <;> simp
theorem fitP0_len {h : Hand} {c : Chord} (hl : c.down.length = 0) (n : Nat) : (fitP h c n).length ≤ n := by
  induction n with
  | zero => simp [fitP]
  | succ n ih => rw [fitP_succ, List.length_append, hl]; have := fitT0_len h c ((n + 1 : Nat) : Int) []; omega
end Go.Proofs.Ytojjdkoglhecbaa
namespace Go.Proofs.Ytojjdkoglhecbaa
open Go.RowKit
set_option linter.unusedSimpArgs false
set_option linter.unusedVariables false

/-- The numbers that are tried, with what stands behind them. -/
def FgR (m : Mm) (v : V) (F : List Int) (r : List V) : Prop :=
  (v = .sl 0 [] .exact ∧ F = [] ∧ r = []) ∨ ∃ q, v = .gsl q F.length 1 ∧ 5 ≤ q ∧ q < m.next ∧ m.obj q = some (.box (F.map vint ++ r) 3)
/-- Memory while grips are listed. -/
structure PlSt (h : Hand) (c : Chord) (m : Mm) (L : List Grip) (v : V) : Prop where
  o0 : m.obj 0 = some (.box [tIs h.low, tIs h.high, tBs h.barre, vint h.top, vint h.jump, vint h.shift, vint h.lift, vint h.bar, vint h.stretch, vint h.slide] 25)
  o1 : m.obj 1 = some (.box [tPs c.down, tIs c.held, tIs c.opn] 47)
  o2 : ∃ tok, m.obj 2 = some (.box [.sl L.length (L.flatMap Grip.cells) tok] 38) ∧ Apb m tok L.length 53 2
  o3 : m.obj 3 = some (.box [v] 22)
  o4 : m.obj 4 = some (.box [.fn 104 [.ptr 3 0, .ptr 1 0, .ptr 0 0, .ptr 2 0, .ptr 4 0]] 144)
  nx : 5 ≤ m.next
theorem fg_len {m : Mm} {v : V} {F : List Int} {r : List V} (h : FgR m v F r) : pureSem .len [v] = some (vint F.length) := by
  rcases h with ⟨rfl, rfl, _⟩ | ⟨q, rfl, _⟩ <;> rfl
/-- Some memory is like that. -/
theorem PlSt.other {h : Hand} {c : Chord} {m : Mm} {L : List Grip} {v : V} (hs : PlSt h c m L v) (L' : List Grip) {F : List Int} {r : List V} (hf : FgR m v F r) :
    ∃ m', PlSt h c m' L' v ∧ FgR m' v F r ∧ m.next ≤ m'.next := by
  refine ⟨m.put 2 (.box [.sl L'.length (L'.flatMap Grip.cells) .exact] 38), ⟨hs.o0, hs.o1, ⟨.exact, rfl, .inl rfl⟩, hs.o3, hs.o4, hs.nx⟩, ?_, Nat.le_refl _⟩
  rcases hf with h1 | ⟨q, h1, h2, h3, h4⟩
  · exact .inl h1
  · exact .inr ⟨q, h1, h2, h3, by rw [put_obj, if_neg (by omega)]; exact h4⟩
/-- A copy of numbers. -/
theorem clone_fn (l : List Int) (hl : l.length ≤ 1099511627776) : Fn Try.prog Gd 106 [tIs l] (tIs l) := by
  refine Fn.of_vx0 k_slices_Clone_int_int (by simp) (by rw [V.pures, pure_tIs]; rfl) ?_
  unfold c_slices_Clone_int_int tIs
  repeat' (with_reducible first | refine x_ops ?_ | refine wk ?_ | ((first | refine gd1 ?_ ?_ | refine gd2 ?_ ?_ | refine gd3 ?_ ?_) <;> (first | exact @False.elim _ | intro hc)))
  refine x_eqN (by exact vw) ?_
  intro b hb
  cases b
  · repeat' (with_reducible first | refine x_ops ?_ | refine wk ?_ | ((first | refine gd1 ?_ ?_ | refine gd2 ?_ ?_ | refine gd3 ?_ ?_) <;> (first | exact @False.elim _ | intro hc)))
    refine x_appE (xs := []) (n := 0) vw vw rfl (by simp) (by omega) (by unfold Go.maxLen; omega) ?_
    repeat' (with_reducible first | refine x_ops ?_ | refine wk ?_ | ((first | refine gd1 ?_ ?_ | refine gd2 ?_ ?_ | refine gd3 ?_ ?_) <;> (first | exact @False.elim _ | intro hc)))
    exact finV_ret vv (.sl _ _ _)
  · have hl0 : l = [] := by cases l with
      | nil => rfl
      | cons a l => exact absurd (hb (by simp)) (by simp)
    subst hl0
    repeat' (with_reducible first | refine x_ops ?_ | refine wk ?_ | ((first | refine gd1 ?_ ?_ | refine gd2 ?_ ?_ | refine gd3 ?_ ?_) <;> (first | exact @False.elim _ | intro hc)))
    exact finV_ret vv (.sl _ _ _)
theorem vint_one (l : List Int) : (l.map vint).all V.one = true := by rw [List.all_eq_true]; intro v hv; obtain ⟨n, _, rfl⟩ := List.mem_map.1 hv; rfl
theorem vint_dry (l : List Int) : V.drys (l.map vint) = true := by
  induction l with
  | nil => rfl
  | cons a l ih => rw [List.map_cons, V.drys, ih]; rfl
theorem vint_clean (l : List Int) : V.clean (l.map vint) = true := by
  rw [clean_iff]
  refine ⟨?_, fun v hv => by obtain ⟨n, _, rfl⟩ := List.mem_map.1 hv; rfl⟩
  rw [pures_iff]
  intro v hv
  obtain ⟨n, _, rfl⟩ := List.mem_map.1 hv
  rfl
theorem clone_m {l : List Int} (hl : l.length ≤ 1099511627776) (h0 : l ≠ []) {m : Mm} {q : Nat} (ho : m.obj q = some (.box (l.map vint) 3)) :
    SFn Try.prog Gd 106 [.gsl q l.length 1] m fun r m' => r = tIs l ∧ m' = m := by
  have hlen : 0 < l.length := List.length_pos_iff.2 h0
  have h1 : SFn Try.prog Gd 106 [tIs l] M0 fun r' m' => ∃ i, r' = .gsl i l.length 1 ∧ m'.obj i = some (.box (l.map vint) 3) := by
    refine SFn.of_vxS k_slices_Clone_int_int_b (by simp) ?_
    unfold c_slices_Clone_int_int_b tIs
    repeat' (with_reducible first | refine x_ops ?_ | refine wk ?_ | ((first | refine gd1 ?_ ?_ | refine gd2 ?_ ?_ | refine gd3 ?_ ?_) <;> (first | exact @False.elim _ | intro hc)))
    refine x_eqN (by exact vw) ?_
    intro b hb
    have : b = false := hb (fun e => h0 (by simpa using e))
    subst this
    repeat' (with_reducible first | refine x_ops ?_ | refine wk ?_ | ((first | refine gd1 ?_ ?_ | refine gd2 ?_ ?_ | refine gd3 ?_ ?_) <;> (first | exact @False.elim _ | intro hc)))
    refine x_appM0 (xs := []) (n := 0) (j := l.length) (ys := l.map vint) vw (by ((refine ve ?_; try exact True.intro)); rw [rdS, if_pos (by simp)]) (by simp) (by omega) (by unfold Go.maxLen; omega) ?_
    rw [if_neg (by omega)]
    repeat' (with_reducible first | refine x_ops ?_ | refine wk ?_ | ((first | refine gd1 ?_ ?_ | refine gd2 ?_ ?_ | refine gd3 ?_ ?_) <;> (first | exact @False.elim _ | intro hc)))
    exact finS_ret vv ⟨_, rfl, vv⟩
  refine SFn.mono (SFn.dropM (Q := fun r => r = tIs l) (SFn.mono (Fn.lendB h1 (by omega) (vint_dry l) (vint_one l) (fun i => i == q) (.cons (.gsl (by simp) ho (Vws.of_dry (vint_dry l)) (vint_one l)) .nil)) ?_)) fun r m' h => h
  rintro r m' ⟨h2, ⟨h3, _⟩ | ⟨_, _, i, hi, rfl, hoi⟩⟩
  · omega
  · refine ⟨tIs l, ?_, rfl, h2⟩
    rw [V.pubM, hoi]
    simp only [hi, vint_clean, and_self, if_true, List.drop_zero]
    rfl
theorem clone_m0 {m : Mm} {q : Nat} (ho : m.obj q = some (.box [] 3)) :
    SFn Try.prog Gd 106 [.gsl q 0 1] m fun r m' => r = tIs [] ∧ m' = m := by
  have h1 : SFn Try.prog Gd 106 [tIs []] M0 fun r' m' => r' = .sl 0 [] .exact := by
    refine SFn.of_vxS k_slices_Clone_int_int_b (by simp) ?_
    unfold c_slices_Clone_int_int_b tIs
    repeat' (with_reducible first | refine x_ops ?_ | refine wk ?_ | ((first | refine gd1 ?_ ?_ | refine gd2 ?_ ?_ | refine gd3 ?_ ?_) <;> (first | exact @False.elim _ | intro hc)))
    refine x_eqN (by exact vw) ?_
    intro b hb
    cases b
    · repeat' (with_reducible first | refine x_ops ?_ | refine wk ?_ | ((first | refine gd1 ?_ ?_ | refine gd2 ?_ ?_ | refine gd3 ?_ ?_) <;> (first | exact @False.elim _ | intro hc)))
      refine x_appM0 (xs := []) (n := 0) (j := 0) (ys := []) vw (by ((refine ve ?_; try exact True.intro)); rfl) (by simp) (by omega) (by unfold Go.maxLen; omega) ?_
      rw [if_pos rfl]
      repeat' (with_reducible first | refine x_ops ?_ | refine wk ?_ | ((first | refine gd1 ?_ ?_ | refine gd2 ?_ ?_ | refine gd3 ?_ ?_) <;> (first | exact @False.elim _ | intro hc)))
      exact finS_ret vv rfl
    · repeat' (with_reducible first | refine x_ops ?_ | refine wk ?_ | ((first | refine gd1 ?_ ?_ | refine gd2 ?_ ?_ | refine gd3 ?_ ?_) <;> (first | exact @False.elim _ | intro hc)))
      exact finS_ret vv rfl
  refine SFn.mono (SFn.dropM (Q := fun r => r = tIs []) (SFn.mono (Fn.lendB0 (e := 3) h1 (fun i => i == q) (.cons (.gsl (by simp) ho .nil rfl) .nil)) ?_)) ?_
  · rintro r m' ⟨h2, ⟨_, rfl⟩ | ⟨h3, _⟩⟩
    · exact ⟨_, rfl, rfl, h2⟩
    · exact absurd rfl h3
  · exact fun r m' h => h
section
variable {P : Program} {G : Ground}
/-- A call that only computes, in any order, whatever memory it may see. -/
theorem x_callM {base i : Nat} {d : Option Nat} {f : FuncId} {xs : List Opd} {l : List VI} {s : St} {K : St → Prop} {r : V} {md : Option (List Nat)} (vs : List V) (hv : xs.map s.ev = vs) (hf : ∀ m', (∀ j, j < base → m'.obj j = s.m.obj j) → SFn P G f vs m' fun r' m'' => r' = r ∧ m'' = m')
    (h : goR P G base (some ⟨putT s.t d r, s.m⟩) l (i + 1) K) : vrun P G base i (⟨d, none, .call f, xs, md⟩ :: l) s K := by
  subst hv
  rw [vrun]
  unfold vstep VI.on
  simp only [if_true, sem, callSem]
  have hk := goR_vrun l (i + 1) _ h
  cases md with
  | none => exact ⟨_, _, .inl rfl, hf s.m (fun _ _ => rfl), ⟨r, s.m, rfl, rfl⟩, by rintro r' m' ⟨rfl, rfl⟩; exact hk⟩
  | some anc => exact ⟨_, r, .inl rfl, fun m' ha _ => hf m' (fun j hj => ha j (.inl hj)), hk⟩
/-- One number more is tried. -/
theorem x_appF {base i : Nat} {d : Option Nat} {x y : Opd} {l : List VI} {s : St} {K : St → Prop} {v : V} {F : List Int} {r : List V} {a : Int} {k2 : Tok} (hx : s.ev x = v) (hF : FgR s.m v F r) (hy : s.ev y = .sl 1 [vint a] k2) (hl : F.length ≤ 1000) (h5 : 5 ≤ base + i) (hb : base + i < s.m.next)
    (h : ∀ m', FgR m' (.gsl (base + i) (F.length + 1) 1) (F ++ [a]) [] → m'.next = s.m.next → (∀ j, j < 5 → m'.obj j = s.m.obj j) → (∀ j n e z, j ≠ base + i → s.m.obj j = some (.row n e z) → m'.obj j = some (.row n e z)) →
      goR P G base (some ⟨putT s.t d (.gsl (base + i) (F.length + 1) 1), m'⟩) l (i + 1) K) :
    vrun P G base i (⟨d, none, .appM 3 1 8, [x, y], none⟩ :: l) s K := by
  have e1 : (F.map vint ++ [vint a]) = (F ++ [a]).map vint := by simp
  rcases hF with ⟨rfl, rfl, rfl⟩ | ⟨q, rfl, hq5, hqn, ho⟩
  · refine x_appM0 hx (by rw [hy]; rfl) rfl (by omega) (by unfold Go.maxLen; omega) ?_
    rw [if_neg (by omega)]
    refine h _ (.inr ⟨base + i, by simp, h5, hb, by rw [put_obj, if_pos rfl]; rfl⟩) rfl (fun j hj => by rw [put_obj, if_neg (by omega)]) (fun j n e z hj hr => by rw [put_obj, if_neg hj]; exact hr)
  · have hm : 1 = 1 := rfl
    refine x_appM (q := q) (n := F.length) (j := 1) (ys := [vint a]) hx (by rw [hy]; rfl) ho (by simp) ?_ (by omega) (by unfold Go.maxLen; omega) ?_
    · rw [Nat.mul_one, List.take_append_of_le_length (by simp), List.take_of_length_le (by simp)]; exact vint_one F
    · rw [Nat.mul_one, List.take_append_of_le_length (by simp), List.take_of_length_le (by simp), e1]
      refine h _ (.inr ⟨base + i, by simp, h5, hb, by rw [put_obj, if_pos rfl, List.append_nil]⟩) rfl (fun j hj => ?_) (fun j n e z hj hr => ?_)
      · rw [put_obj, if_neg (by omega)]
        show (if j = q then none else s.m.obj j) = _
        rw [if_neg (by omega)]
      · rw [put_obj, if_neg hj]
        show (if j = q then none else s.m.obj j) = _
        rw [if_neg (fun e => by subst e; rw [ho] at hr; cases hr)]
        exact hr
end
end Go.Proofs.Ytojjdkoglhecbaa
namespace Go.Proofs.Ytojjdkoglhecbaa
open Go.RowKit
set_option linter.unusedSimpArgs false
set_option linter.unusedVariables false

theorem vw_hand {m : Mm} {S : Nat → Bool} {h : Hand} : Vw m S (.agg [.sl h.low.length (h.low.map vint) .no, .sl h.high.length (h.high.map vint) .no, .sl h.barre.length (h.barre.map vbool) .no, vint h.top, vint h.jump, vint h.shift, vint h.lift, vint h.bar, vint h.stretch, vint h.slide]) h.val :=
  .agg (.cons (.sl _ _ _) (.cons (.sl _ _ _) (.cons (.sl _ _ _) (.cons (.lit _) (.cons (.lit _) (.cons (.lit _) (.cons (.lit _) (.cons (.lit _) (.cons (.lit _) (.cons (.lit _) .nil))))))))))
theorem vw_chord {m : Mm} {S : Nat → Bool} {c : Chord} : Vw m S (.agg [.sl c.down.length (c.down.flatMap plE) .no, .sl c.held.length (c.held.map vint) .no, .sl c.opn.length (c.opn.map vint) .no]) c.val :=
  .agg (.cons (.sl _ _ _) (.cons (.sl _ _ _) (.cons (.sl _ _ _) .nil)))
/-- How the closure leaves memory. -/
def PlPost (h : Hand) (c : Chord) (n0 : Nat) (F : List Int) (L : List Grip) (r : V) (m : Mm) : Prop := r = .tup [] ∧ n0 ≤ m.next ∧ ∃ v j, PlSt h c m L v ∧ FgR m v F j ∧ (F.length = c.down.length → j = [])
theorem Apb.put {m : Mm} {k : Tok} {n : Nat} {e : TypeId} {size i : Nat} {cs : List V} {t : TypeId} {o : AObj} (h : Apb m k n e size) (hi : m.obj i = some (.box cs t)) : Apb (m.put i o) k n e size := by
  rcases h with h1 | ⟨t, h1, h2, h3⟩
  · exact .inl h1
  · exact .inr ⟨t, h1, h2, by rw [put_obj, if_neg (fun e => by subst e; rw [hi] at h3; cases h3)]; exact h3⟩
theorem PlSt.put3 {h : Hand} {c : Chord} {m : Mm} {L : List Grip} {v : V} (hs : PlSt h c m L v) (w : V) : PlSt h c (m.put 3 (.box [w] 22)) L w := by
  obtain ⟨tok, h1, h2⟩ := hs.o2
  exact ⟨hs.o0, hs.o1, ⟨tok, h1, h2.put hs.o3⟩, rfl, hs.o4, hs.nx⟩
theorem PlSt.frame {h : Hand} {c : Chord} {m m' : Mm} {L : List Grip} {v : V} (hs : PlSt h c m L v) (hn : m.next ≤ m'.next) (h5 : ∀ j, j < 5 → m'.obj j = m.obj j) (hr : ∀ j n e z, j < m.next → m.obj j = some (.row n e z) → m'.obj j = some (.row n e z)) : PlSt h c m' L v := by
  obtain ⟨tok, h1, h2⟩ := hs.o2
  refine ⟨(h5 0 (by omega)).trans hs.o0, (h5 1 (by omega)).trans hs.o1, ⟨tok, (h5 2 (by omega)).trans h1, ?_⟩, (h5 3 (by omega)).trans hs.o3, (h5 4 (by omega)).trans hs.o4, Nat.le_trans hs.nx hn⟩
  rcases h2 with h3 | ⟨t, h3, h4, h5⟩
  · exact .inl h3
  · exact .inr ⟨t, h3, Nat.lt_of_lt_of_le h4 hn, hr t _ _ _ h4 h5⟩
theorem FgR.grow {m : Mm} {v : V} {F : List Int} {r : List V} (h : FgR m v F r) (k : Nat) : FgR ⟨m.obj, m.next + k⟩ v F r := by
  rcases h with h | ⟨q, h1, h2, h3, h4⟩
  · exact .inl h
  · exact .inr ⟨q, h1, h2, Nat.lt_of_lt_of_le h3 (Nat.le_add_right _ _), h4⟩
set_option maxHeartbeats 4000000 in
theorem place_sfn (h : Hand) (hk : HandOk h) (c : Chord) (hf : FitC c) (h14 : c.down.length ≤ 14) (pos : Int) (hp : 1 ≤ pos ∧ pos ≤ h.top) : ∀ (k : Nat) (F : List Int) (L : List Grip) (m : Mm) (v : V) (j : List V), F.length + k = c.down.length → PreF h c pos F →
    L.length ≤ 201 → (k = 0 → L.length ≤ 200 ∧ j = []) → PlSt h c m L v → FgR m v F j →
    SFn Try.prog Gd 104 [vint pos, .ptr 3 0, .ptr 1 0, .ptr 0 0, .ptr 2 0, .ptr 4 0] m (PlPost h c m.next F ((L ++ fitT h c pos k F).take 201))
  | 0, F, L, m, v, j, hl, hF, hL, h0, hs, hv => by
    obtain ⟨hL2, rfl⟩ := h0 rfl
    have htop := hk.top
    have hfit := hF.leaf hp (by omega)
    have SP := spans_fn h hk c hf F (by omega)
    refine SFn.of_vxS k_hand_grips_1_b (by simp) ?_
    have hlen := fg_len hv
    simp only [pureSem, vint] at hlen
    have o0 := hs.o0
    have o1 := hs.o1
    obtain ⟨tok, o2, hap⟩ := hs.o2
    have o3 := hs.o3
    have o4 := hs.o4
    have nxm := hs.nx
    have n0 : 0 < m.next := by omega
    have n1 : 1 < m.next := by omega
    have n2 : 2 < m.next := by omega
    have n3 : 3 < m.next := by omega
    have n4 : 4 < m.next := by omega
    have e1 : ((F.length : Int) == (c.down.length : Int)) = true := by simp; omega
    have hs0 := Hid.mk hs
    have hv0 := Hid.mk hv
    have hl0 := Hid.mk hl
    clear hs hv hl hp htop nxm
    unfold c_hand_grips_1_b
    unfold Hand.val Chord.val Chord.cells at SP
    rw [fitT, hfit]
    have hfl : F.length ≤ 14 := by have := hl0.out; omega
    replace hfl := Hid.mk hfl
    -- the row of numbers as a call sees it
    have SV : ∀ m' : Mm, (∀ q, q < m.next → m'.obj q = m.obj q) → Vw m' allS v (tIs F) := by
      intro m' hm'
      rcases hv0.out with ⟨rfl, rfl, _⟩ | ⟨q, rfl, hq5, hqn, ho⟩
      · exact .sl _ _ _
      · rw [List.append_nil] at ho
        exact .gsl rfl (by rw [hm' q hqn]; exact ho) (Vws.of_dry (vint_dry F)) (vint_one F)
    have CL : ∀ m' : Mm, (∀ q, q < m.next → m'.obj q = m.obj q) → SFn Try.prog Gd 106 [v] m' fun r' m'' => r' = tIs F ∧ m'' = m' := by
      intro m' hm'
      have hfl := hfl.out
      rcases hv0.out with ⟨rfl, rfl, _⟩ | ⟨q, rfl, hq5, hqn, ho⟩
      · have := clone_fn [] (by simp)
        exact fun E w ca hG hm hv => this m' E w ca hG hm hv.norm
      · rw [List.append_nil] at ho
        by_cases hF0 : F = []
        · subst hF0
          exact clone_m0 (by rw [hm' q hqn]; exact ho)
        · exact clone_m (by omega) hF0 (by rw [hm' q hqn]; exact ho)
    repeat' (with_reducible first | refine x_ops ?_ | refine wk ?_ | ((first | refine gd1 ?_ ?_ | refine gd2 ?_ ?_ | refine gd3 ?_ ?_) <;> (first | exact @False.elim _ | intro hc)))
    refine x_lend allS SP rfl ?_ ?_
    · (simp only [go_sem, Nat.reduceAdd, Nat.reduceEqDiff, Nat.reduceLT, Nat.reduceLeDiff, Nat.reduceMul, Nat.reduceSub, Nat.reducePow, Nat.reduceDiv, Nat.reduceMod, Nat.reduceBEq, Int.reduceBEq, Int.reduceLT, reduceIte, V.norms, V.norm, tIs, tBs, tPs, *])
      exact .cons vw_hand (.cons vw_chord (.cons (SV _ fun _ _ => rfl) .nil))
    cases hsp : spnB h c F
    · rw [if_neg (by simp), List.append_nil, List.take_of_length_le (by omega)]
      repeat' (with_reducible first | refine x_ops ?_ | refine wk ?_ | ((first | refine gd1 ?_ ?_ | refine gd2 ?_ ?_ | refine gd3 ?_ ?_) <;> (first | exact @False.elim _ | intro hc)))
      exact finS_ret vv ⟨rfl, Nat.le_refl _, v, [], hs0.out, hv0.out, fun _ => rfl⟩
    · rw [if_pos rfl, List.take_of_length_le (by simp; omega)]
      repeat' (with_reducible first | refine x_ops ?_ | refine wk ?_ | ((first | refine gd1 ?_ ?_ | refine gd2 ?_ ?_ | refine gd3 ?_ ?_) <;> (first | exact @False.elim _ | intro hc)))
      refine x_callM [v] vw (fun m' hm' => CL m' fun q hq => hm' q hq) ?_
      repeat' (with_reducible first | refine x_ops ?_ | refine wk ?_ | ((first | refine gd1 ?_ ?_ | refine gd2 ?_ ?_ | refine gd3 ?_ ?_) <;> (first | exact @False.elim _ | intro hc)))
      refine x_appb (xs := L.flatMap Grip.cells) (ys := Grip.cells ⟨pos, F⟩) vw vw (hap.mono (fun _ _ _ => rfl) (Nat.le_add_right _ _)) (gs_len L) rfl (by omega) (by unfold Go.maxLen; omega) (by show m.next + 6 < m.next + 8; omega) ?_
      intro tok' m' hap' hn' hbox hobj
      replace hn' : m'.next = m.next + 8 := hn'
      have q0 := hbox 0 _ _ o0 (by show ¬ 0 = m.next + 6; omega)
      have q1 := hbox 1 _ _ o1 (by show ¬ 1 = m.next + 6; omega)
      have q2 := hbox 2 _ _ o2 (by show ¬ 2 = m.next + 6; omega)
      have q3 := hbox 3 _ _ o3 (by show ¬ 3 = m.next + 6; omega)
      have q4 := hbox 4 _ _ o4 (by show ¬ 4 = m.next + 6; omega)
      have hv1 : FgR (m'.put 2 (.box [.sl (L.length + 1) (L.flatMap Grip.cells ++ Grip.cells ⟨pos, F⟩) tok'] 38)) v F [] := by
        rcases hv0.out with h1 | ⟨q, h1, h2, h3, h4⟩
        · exact .inl h1
        · exact .inr ⟨q, h1, h2, by rw [put_next]; omega, by rw [put_obj, if_neg (by omega)]; exact hbox q _ _ h4 (by show ¬ q = m.next + 6; omega)⟩
      replace hv1 := Hid.mk hv1
      clear hbox hobj hap o0 o1 o2 o3 o4
      repeat' (with_reducible first | refine x_ops ?_ | refine wk ?_ | ((first | refine gd1 ?_ ?_ | refine gd2 ?_ ?_ | refine gd3 ?_ ?_) <;> (first | exact @False.elim _ | intro hc)))
      refine finS_ret vv ⟨rfl, ?_, v, [], ⟨?_, ?_, ⟨tok', ?_, ?_⟩, ?_, ?_, ?_⟩, hv1.out, fun _ => rfl⟩
      · rw [put_next]; omega
      · ((refine ve ?_; try exact True.intro)); exact q0
      · ((refine ve ?_; try exact True.intro)); exact q1
      · ((refine ve ?_; try exact True.intro)); simp
      · rw [List.length_append]
        rcases hap' with h1 | ⟨t, h1, h2, h3⟩
        · exact .inl h1
        · exact .inr ⟨t, h1, h2, by rw [put_obj, if_neg (fun e => by subst e; rw [q2] at h3; cases h3)]; exact h3⟩
      · ((refine ve ?_; try exact True.intro)); exact q3
      · ((refine ve ?_; try exact True.intro)); exact q4
      · rw [put_next]; omega
  | k + 1, F, L, m, v, j, hl, hF, hL, h0, hs, hv => by
    have IH := place_sfn h hk c hf h14 pos hp k
    have htop := hk.top
    have hn4 := hk.n4
    have nxt0 := hs.nx
    clear h0
    refine SFn.of_vxS k_hand_grips_1_b (by simp) ?_
    have hlen := fg_len hv
    simp only [pureSem, vint] at hlen
    have o0 := hs.o0
    have o1 := hs.o1
    obtain ⟨tok, o2, hap⟩ := hs.o2
    have o3 := hs.o3
    have o4 := hs.o4
    have n3 : 3 < m.next := by omega
    have e1 : ((F.length : Int) == (c.down.length : Int)) = false := by simp; omega
    have hlt : F.length < c.down.length := by omega
    have cF : (F.length : Int) < (c.down.length : Int) := by omega
    have gF := pls_at1 hlt
    have gL := pls_len c.down
    have gT := pls_take hlt
    have gT2 : F.length * 2 + 2 ≤ c.down.length * 2 := by omega
    have RF := fun f hf => reach_fn h hk pos f (c.down.getD F.length (0, 0)).2 (by omega) hf
    have cb2 : Hid (∀ {A B : Prop}, A → B → A) := ⟨fun a _ => a⟩
    have hs0 := Hid.mk hs
    have hv0 := Hid.mk hv
    have hl0 := Hid.mk hl
    have hlt0 := Hid.mk hlt
    have hfl : Hid (F.length ≤ 14) := ⟨by omega⟩
    clear hs hl hlt nxt0 hap o2
    rw [fitT_succ]
    unfold c_hand_grips_1_b
    unfold Hand.val at RF
    repeat' (with_reducible first | refine x_ops ?_ | refine wk ?_ | ((first | refine gd1 ?_ ?_ | refine gd2 ?_ ?_ | refine gd3 ?_ ?_) <;> (first | exact @False.elim _ | intro hc)))
    clear hlen o3 o0 o1 o4 e1 n3
    refine x_loopW w_hand_grips_1_b_p14 (by kernel_rfl) h.low.length (fun f t m' => t 8 = vint ((f + 1 : Nat) : Int) ∧ m.next ≤ m'.next ∧ ∃ v j, PlSt h c m' ((L ++ fitS h c pos k F f).take 201) v ∧ FgR m' v F j) ?_ ?_
    · refine ⟨vv, Nat.le_refl _, v, j, ?_, hv0.out⟩
      rw [show fitS h c pos k F 0 = [] from rfl, List.append_nil, List.take_of_length_le hL]
      exact hs0.out
    clear hs0 hv0 hv
    rintro f t m1 hfk ⟨h8, hnx1, v1, j1, hs, hv⟩
    have o0 := hs.o0
    have o1 := hs.o1
    obtain ⟨tok, o2, hap⟩ := hs.o2
    have o3 := hs.o3
    have o4 := hs.o4
    have nxm := hs.nx
    have n0 : 0 < m1.next := by omega
    have n1 : 1 < m1.next := by omega
    have n2 : 2 < m1.next := by omega
    have n3 : 3 < m1.next := by omega
    have hlen := fg_len hv
    simp only [pureSem, vint] at hlen
    have hs0 := Hid.mk hs
    have hv0 := Hid.mk hv
    have hLf := tk_len (L ++ fitS h c pos k F f)
    clear hs hv
    by_cases hfn : f < h.low.length
    case neg =>
      have hfe : f = h.low.length := by omega
      subst hfe
      have c1 : ¬ ((h.low.length + 1 : Nat) : Int) ≤ (h.low.length : Int) := by omega
      clear hfk hfn
      repeat' (with_reducible first | refine x_ops ?_ | refine wk ?_ | ((first | refine gd1 ?_ ?_ | refine gd2 ?_ ?_ | refine gd3 ?_ ?_) <;> (first | exact @False.elim _ | intro hc)))
      exact ⟨.inl rfl, .tup [], vv, rfl, hnx1, v1, j1, hs0.out, hv0.out, fun e => absurd e (Nat.ne_of_lt hlt0.out)⟩
    have c1 : ((f + 1 : Nat) : Int) ≤ (h.low.length : Int) := by omega
    obtain ⟨Lf, hLe⟩ : ∃ Lf, Lf = (L ++ fitS h c pos k F f).take 201 := ⟨_, rfl⟩
    rw [← hLe] at hs0 hLf o2 hap
    by_cases hg : Lf.length ≤ 200
    case neg =>
      have c2 : ¬ (Lf.length : Int) ≤ 200 := by omega
      have hfull : Lf = (L ++ fitS h c pos k F h.low.length).take 201 := by
        obtain ⟨B, hB⟩ := fitS_le h c pos k F (Nat.le_of_lt hfn)
        rw [hLe] at hg ⊢
        rw [hB, ← List.append_assoc]
        exact tk_full hg
      rw [← hfull]
      replace hLe := Hid.mk hLe
      replace hfull := Hid.mk hfull
      clear hg
      repeat' (with_reducible first | refine x_ops ?_ | refine wk ?_ | ((first | refine gd1 ?_ ?_ | refine gd2 ?_ ?_ | refine gd3 ?_ ?_) <;> (first | exact @False.elim _ | intro hc)))
      exact ⟨.inl rfl, .tup [], vv, rfl, hnx1, v1, j1, hs0.out, hv0.out, fun e => absurd e (Nat.ne_of_lt hlt0.out)⟩
    have c2 : (Lf.length : Int) ≤ 200 := by omega
    have R2 := RF f hfn
    have w2 := w_add1 (k := f + 1) (by omega)
    have hLs : (L ++ fitS h c pos k F (f + 1)).take 201 = (Lf ++ fitT h c pos k (F ++ [((f + 1 : Nat) : Int)])).take 201 := by
      rw [fitS_succ, ← List.append_assoc, hLe]
      rw [hLe] at hg
      exact (tk_more hg).symm
    have skip : fitT h c pos k (F ++ [((f + 1 : Nat) : Int)]) = [] → (L ++ fitS h c pos k F (f + 1)).take 201 = Lf := fun e => by rw [hLs, e, List.append_nil, List.take_of_length_le hLf]
    replace hLs := Hid.mk hLs
    replace skip := Hid.mk skip
    replace hLe := Hid.mk hLe
    replace hg := Hid.mk hg
    replace hLf := Hid.mk hLf
    replace hfn := Hid.mk hfn
    clear RF hfk
    cases hr : rchB h pos f (c.down.getD F.length (0, 0)).2
    · rw [hr] at R2
      have e9 := Hid.mk (skip.out (fitT_reach hlt0.out hr))
      clear hr
      repeat' (with_reducible first | refine x_ops ?_ | refine wk ?_ | (with_reducible refine xc (R2) ?_) | ((first | refine gd1 ?_ ?_ | refine gd2 ?_ ?_ | refine gd3 ?_ ?_) <;> (first | exact @False.elim _ | intro hc)))
      exact nx hfn.out ⟨vv, hnx1, v1, j1, by rw [e9.out]; exact hs0.out, hv0.out⟩
    rw [hr] at R2
    replace hr := Hid.mk hr
    repeat' (with_reducible first | refine x_ops ?_ | refine wk ?_ | (with_reducible refine xc (R2) ?_) | ((first | refine gd1 ?_ ?_ | refine gd2 ?_ ?_ | refine gd3 ?_ ?_) <;> (first | exact @False.elim _ | intro hc)))
    refine x_loopF w_hand_grips_1_b_p6 (by kernel_rfl) F.length (fun q t => t 54 = vint (q : Int) ∧ ∀ i, i < q → agrB (c.down.getD i (0, 0)) (c.down.getD F.length (0, 0)) (F.getD i 0) ((f + 1 : Nat) : Int) = true) ?_ ?_
    · exact ⟨vv, fun i h => by omega⟩
    rintro q t2 hq ⟨h54, hJ⟩
    replace hJ := Hid.mk hJ
    by_cases hqF : q < F.length
    · obtain ⟨qq, rfl, hq5, hqn, hoq⟩ : ∃ qq, v1 = .gsl qq F.length 1 ∧ 5 ≤ qq ∧ qq < m1.next ∧ m1.obj qq = some (.box (F.map vint ++ j1) 3) := by
        rcases hv0.out with ⟨_, h1, _⟩ | h1
        · subst h1; simp at hqF
        · exact h1
      have g1 : (F.map vint ++ j1)[q]? = some (V.lit (.int .i64 (F.getD q 0))) := by rw [List.getElem?_append_left (by simpa using hqF)]; exact ints_at hqF
      have g2 := pls_take (l := c.down) (k := q) (by omega)
      have g3 : q * 2 + 2 ≤ c.down.length * 2 := by omega
      have c3 : (q : Int) < (F.length : Int) := by omega
      have c4 : (q : Int) < (c.down.length : Int) := by omega
      have w3 := w_add1 (k := q) (by omega)
      have AG := agree_fn (c.down.getD q (0, 0)) (c.down.getD F.length (0, 0)) (F.getD q 0) ((f + 1 : Nat) : Int)
      unfold plE at AG
      clear hq5
      cases ha : agrB (c.down.getD q (0, 0)) (c.down.getD F.length (0, 0)) (F.getD q 0) ((f + 1 : Nat) : Int)
      · rw [ha] at AG
        have e9 := Hid.mk (skip.out (fitT_agree (k := k) hlt0.out hqF ha))
        clear ha
        repeat' (with_reducible first | refine x_ops ?_ | refine wk ?_ | (with_reducible refine xc (AG) ?_) | ((first | refine gd1 ?_ ?_ | refine gd2 ?_ ?_ | refine gd3 ?_ ?_) <;> (first | exact @False.elim _ | intro hc)))
        exact nx hfn.out ⟨vv, hnx1, _, j1, by rw [e9.out]; exact hs0.out, hv0.out⟩
      · rw [ha] at AG
        replace ha := Hid.mk ha
        repeat' (with_reducible first | refine x_ops ?_ | refine wk ?_ | (with_reducible refine xc (AG) ?_) | ((first | refine gd1 ?_ ?_ | refine gd2 ?_ ?_ | refine gd3 ?_ ?_) <;> (first | exact @False.elim _ | intro hc)))
        refine nf hqF ⟨vv, fun i h => ?_⟩ rfl
        by_cases hi : i = q
        · subst hi; exact ha.out
        · exact hJ.out i (by omega)
    · have hqe : q = F.length := by omega
      subst hqe
      have c3 : ¬ (F.length : Int) < (F.length : Int) := by omega
      have hP := Hid.mk (hF.snoc hfn.out hr.out hJ.out)
      clear hqF hq hJ
      repeat' (with_reducible first | refine x_ops ?_ | refine wk ?_ | ((first | refine gd1 ?_ ?_ | refine gd2 ?_ ?_ | refine gd3 ?_ ?_) <;> (first | exact @False.elim _ | intro hc)))
      refine x_appF (v := v1) (F := F) (r := j1) (a := ((f + 1 : Nat) : Int)) vw (hv0.out.grow 5) vw (by have := hfl.out; omega) (by show 5 ≤ m1.next + 3; omega) (by show m1.next + 3 < m1.next + 5; omega) ?_
      intro m2 hF2 hn2 ho2 hr2
      replace hn2 : m2.next = m1.next + 5 := hn2
      have hs2 : PlSt h c m2 Lf v1 := hs0.out.frame (by omega) ho2 (fun j n e z hj hjr => hr2 j n e z (by show j ≠ m1.next + 3; omega) hjr)
      have q3 := hs2.o3
      have q4 := hs2.o4
      have q34 : 4 < m2.next := by omega
      replace hn2 := Hid.mk hn2
      have hs3 := Hid.mk (hs2.put3 (.gsl (m1.next + 3) (F.length + 1) 1))
      have hF3 : FgR (m2.put 3 (.box [.gsl (m1.next + 3) (F.length + 1) 1] 22)) (.gsl (m1.next + 3) (F.length + 1) 1) (F ++ [((f + 1 : Nat) : Int)]) [] := by
        rcases hF2 with ⟨h1, _⟩ | ⟨q, h1, h2, h3, h4⟩
        · cases h1
        · exact .inr ⟨q, h1, h2, h3, by rw [put_obj, if_neg (by omega)]; exact h4⟩
      replace hF3 := Hid.mk hF3
      clear hs2 ho2 hr2 hF2 hlen o0 o1 o2 o3 o4 hap n0 n1 n2 n3
      repeat' (with_reducible first | refine x_ops ?_ | refine wk ?_ | ((first | refine gd1 ?_ ?_ | refine gd2 ?_ ?_ | refine gd3 ?_ ?_) <;> (first | exact @False.elim _ | intro hc)))
      have hkl : F.length + 1 + k = c.down.length := by have := hl0.out; omega
      refine x_callv (f := 104) (cs := [.ptr 3 0, .ptr 1 0, .ptr 0 0, .ptr 2 0, .ptr 4 0]) (Post := PlPost h c m2.next (F ++ [((f + 1 : Nat) : Int)]) ((Lf ++ fitT h c pos k (F ++ [((f + 1 : Nat) : Int)])).take 201)) vw kr ?_ ?_ ?_
      · (simp only [go_sem, Nat.reduceAdd, Nat.reduceEqDiff, Nat.reduceLT, Nat.reduceLeDiff, Nat.reduceMul, Nat.reduceSub, Nat.reducePow, Nat.reduceDiv, Nat.reduceMod, Nat.reduceBEq, Int.reduceBEq, Int.reduceLT, reduceIte, V.norms, V.norm, tIs, tBs, tPs, *])
        exact IH (F ++ [((f + 1 : Nat) : Int)]) Lf (m2.put 3 (.box [.gsl (m1.next + 3) (F.length + 1) 1] 22)) (.gsl (m1.next + 3) (F.length + 1) 1) [] (by simp; omega) hP.out hLf.out (fun _ => ⟨hg.out, rfl⟩) hs3.out hF3.out
      · obtain ⟨m', h1, h2, h3⟩ := hs3.out.other ((Lf ++ fitT h c pos k (F ++ [((f + 1 : Nat) : Int)])).take 201) hF3.out
        exact ⟨_, m', rfl, h3, _, _, h1, h2, fun _ => rfl⟩
      rintro r m4 ⟨rfl, hnx4, v4, j4, hs4, hv4, _⟩
      obtain ⟨qq, rfl, hq5, hqn, hoq⟩ : ∃ qq, v4 = .gsl qq (F.length + 1) 1 ∧ 5 ≤ qq ∧ qq < m4.next ∧ m4.obj qq = some (.box (F.map vint ++ (vint ((f + 1 : Nat) : Int) :: j4)) 3) := by
        rcases hv4 with ⟨_, h1, _⟩ | ⟨q, h1, h2, h3, h4⟩
        · simp at h1
        · exact ⟨q, by rw [h1]; simp, h2, h3, by rw [h4]; simp⟩
      have p3 := hs4.o3
      have n3 : 3 < m4.next := by omega
      have hsl : vslc 1 false true (.gsl qq (F.length + 1) 1) [.lit (.int .i64 (F.length : Int))] = some (.gsl qq F.length 1) := by
        simp only [vslc, bnds, Bool.false_eq_true, if_false, if_true]
        rw [if_pos ⟨Int.le_refl _, Int.natCast_nonneg _, by omega⟩]
        rfl
      have hs5 := Hid.mk (hs4.put3 (.gsl qq F.length 1))
      have hF5 : FgR (m4.put 3 (.box [.gsl qq F.length 1] 22)) (.gsl qq F.length 1) F (vint ((f + 1 : Nat) : Int) :: j4) := .inr ⟨qq, rfl, hq5, hqn, by rw [put_obj, if_neg (by omega)]; exact hoq⟩
      replace hF5 := Hid.mk hF5
      have hnx5 : m.next ≤ m4.next := by have := hn2.out; omega
      clear hs4 hv4 q3 q4 hq5 hoq
      repeat' (with_reducible first | refine x_ops ?_ | refine wk ?_ | ((first | refine gd1 ?_ ?_ | refine gd2 ?_ ?_ | refine gd3 ?_ ?_) <;> (first | exact @False.elim _ | intro hc)))
      exact nx hfn.out ⟨vv, hnx5, _, _, by rw [hLs.out]; exact hs5.out, hF5.out⟩
end Go.Proofs.Ytojjdkoglhecbaa
namespace Go.Proofs.Ytojjdkoglhecbaa
open Go.RowKit
set_option linter.unusedSimpArgs false
set_option linter.unusedVariables false

theorem chord_len {c : Chord} (hc : ChordOk c) : c.down.length ≤ 14 := by
  have key : ∀ i, i < c.down.length → (i : Int) + 1 ≤ (c.down.getD i (0, 0)).1 := by
    intro i
    induction i with
    | zero => intro h0; have := (hc.each 0 h0).1; omega
    | succ i ih => intro h1; have := ih (by omega); have := hc.rise i h1; omega
  rcases Nat.eq_zero_or_pos c.down.length with h0 | h0
  · omega
  · have h1 := key (c.down.length - 1) (by omega)
    have h2 := (hc.each (c.down.length - 1) (by omega)).1
    omega
set_option maxHeartbeats 2000000 in
theorem grips_fn (h : Hand) (hk : HandOk h) (c : Chord) (hf : FitC c) (hc : ChordOk c) : Fn Try.prog Gd 71 [h.val, c.val] (tGs ((grpA h c).take 201)) := by
  refine Fn.of_vx0 k_hand_grips (by simp) (by rw [V.pures, pure_hand, V.pures, pure_chord]; rfl) ?_
  have htop := hk.top
  have h14 := chord_len hc
  unfold c_hand_grips Hand.val Chord.val Chord.cells tGs
  repeat' (with_reducible first | refine x_ops ?_ | refine wk ?_ | ((first | refine gd1 ?_ ?_ | refine gd2 ?_ ?_ | refine gd3 ?_ ?_) <;> (first | exact @False.elim _ | intro hc)))
  refine x_loopW w_hand_grips_p3 (by kernel_rfl) h.top.toNat (fun p t m => t 7 = vint ((p + 1 : Nat) : Int) ∧ ∃ v j, PlSt h c m ((fitP h c p).take 201) v ∧ FgR m v [] j ∧ (0 = c.down.length → j = [])) ?_ ?_
  · exact ⟨vv, .sl 0 [] .exact, [], ⟨vv, vv, ⟨.exact, vv, .inl rfl⟩, vv, vv, by ((refine ve ?_; try exact True.intro)); first | done | omega⟩, .inl ⟨rfl, rfl, rfl⟩, fun _ => rfl⟩
  rintro p t m hp ⟨h7, v, j, hs, hv, hj⟩
  have o2 := hs.o2
  obtain ⟨tok, o2, hap⟩ := o2
  have o4 := hs.o4
  have o0 := hs.o0
  have nxm := hs.nx
  have n0 : 0 < m.next := by omega
  have n2 : 2 < m.next := by omega
  have n4 : 4 < m.next := by omega
  have hs0 := Hid.mk hs
  have hv0 := Hid.mk hv
  have hj0 := Hid.mk hj
  clear hs hv hj hap
  by_cases hpt : p < h.top.toNat
  case neg =>
    have hpe : p = h.top.toNat := by omega
    subst hpe
    have c1 : ¬ ((h.top.toNat + 1 : Nat) : Int) ≤ h.top := by omega
    unfold grpA
    generalize (fitP h c h.top.toNat).take 201 = L at *
    repeat' (with_reducible first | refine x_ops ?_ | refine wk ?_ | ((first | refine gd1 ?_ ?_ | refine gd2 ?_ ?_ | refine gd3 ?_ ?_) <;> (first | exact @False.elim _ | intro hc)))
    exact finV_ret vv (.sl _ _ _)
  have c1 : ((p + 1 : Nat) : Int) ≤ h.top := by omega
  have w1 := w_add1 (k := p + 1) (by omega)
  have hL : (fitP h c (p + 1)).take 201 = ((fitP h c p).take 201 ++ fitT h c ((p + 1 : Nat) : Int) c.down.length []).take 201 := by
    rw [fitP_succ]
    by_cases hg : ((fitP h c p).take 201).length ≤ 200
    · exact (tk_more hg).symm
    · rw [← tk_full hg, List.take_append_of_le_length (by omega), List.take_of_length_le (tk_len _)]
  replace hL := Hid.mk hL
  clear o2
  have PS := place_sfn h hk c hf h14 ((p + 1 : Nat) : Int) (by omega) c.down.length [] ((fitP h c p).take 201) m v j (by simp) (fun i hi => by simp at hi) (tk_len _)
    (fun e => ⟨by have := fitP0_len (h := h) e p; rw [List.length_take]; omega, hj0.out e.symm⟩) hs0.out hv0.out
  repeat' (with_reducible first | refine x_ops ?_ | refine wk ?_ | ((first | refine gd1 ?_ ?_ | refine gd2 ?_ ?_ | refine gd3 ?_ ?_) <;> (first | exact @False.elim _ | intro hc)))
  refine x_callv (f := 104) (cs := [.ptr 3 0, .ptr 1 0, .ptr 0 0, .ptr 2 0, .ptr 4 0]) (Post := PlPost h c m.next [] (((fitP h c p).take 201 ++ fitT h c ((p + 1 : Nat) : Int) c.down.length []).take 201)) vw kr ?_ ?_ ?_
  · (simp only [go_sem, Nat.reduceAdd, Nat.reduceEqDiff, Nat.reduceLT, Nat.reduceLeDiff, Nat.reduceMul, Nat.reduceSub, Nat.reducePow, Nat.reduceDiv, Nat.reduceMod, Nat.reduceBEq, Int.reduceBEq, Int.reduceLT, reduceIte, V.norms, V.norm, tIs, tBs, tPs, *]); exact PS
  · obtain ⟨m', h1, h2, h3⟩ := hs0.out.other (((fitP h c p).take 201 ++ fitT h c ((p + 1 : Nat) : Int) c.down.length []).take 201) hv0.out
    exact ⟨_, m', rfl, h3, _, _, h1, h2, fun e => hj0.out e⟩
  rintro r m4 ⟨rfl, hnx4, v4, j4, hs4, hv4, hj4⟩
  have hs5 := Hid.mk hs4
  have hv5 := Hid.mk hv4
  have hj5 := Hid.mk hj4
  clear hs4 hv4 hj4 PS
  repeat' (with_reducible first | refine x_ops ?_ | refine wk ?_ | ((first | refine gd1 ?_ ?_ | refine gd2 ?_ ?_ | refine gd3 ?_ ?_) <;> (first | exact @False.elim _ | intro hc)))
  exact nx hpt ⟨vv, v4, j4, by rw [hL.out]; exact hs5.out, hv5.out, hj5.out⟩
/-- What Grips answers. -/
noncomputable def grR (h : Hand) (c : Chord) : List Grip × Int :=
  if chkE h = 0 then (if rgtB c = true then (if (grpA h c).length ≤ 200 then (grpA h c, 0) else ([], 2)) else ([], 1)) else ([], 60)
theorem rgt_ok {c : Chord} (h : rgtB c = true) : ChordOk c := by unfold rgtB at h; simpa using h
set_option maxHeartbeats 1000000 in
theorem Grips_fn (h : Hand) (c : Chord) (hf : FitC c) : Fn Try.prog Gd 32 [h.val, c.val] (.tup [tGs (grR h c).1, vint (grR h c).2]) := by
  refine Fn.of_vx0 k_hand_Grips (by simp) (by rw [V.pures, pure_hand, V.pures, pure_chord]; rfl) ?_
  have C1 := check_fn h
  have C2 := right_fn c hf.big
  unfold grR
  unfold c_hand_Grips Hand.val Chord.val Chord.cells tGs
  by_cases he : chkE h = 0
  case neg =>
    rw [if_neg he]
    rw [chk_bad he] at C1
    clear he
    unfold Hand.val at C1
    repeat' (with_reducible first | refine x_ops ?_ | refine wk ?_ | (with_reducible refine xc (C1) ?_) | ((first | refine gd1 ?_ ?_ | refine gd2 ?_ ?_ | refine gd3 ?_ ?_) <;> (first | exact @False.elim _ | intro hc)))
    exact finV_ret vv (.tup (.cons (.sl _ _ _) (.cons (.lit _) .nil)))
  have hk := chk_ok he
  rw [if_pos he]
  rw [he] at C1
  clear he
  cases hr : rgtB c
  · rw [hr] at C2
    rw [if_neg (by simp)]
    clear hr hk
    unfold Hand.val at C1
    unfold Chord.val Chord.cells at C2
    repeat' (with_reducible first | refine x_ops ?_ | refine wk ?_ | (with_reducible refine xc (C1) ?_) | (with_reducible refine xc (C2) ?_) | ((first | refine gd1 ?_ ?_ | refine gd2 ?_ ?_ | refine gd3 ?_ ?_) <;> (first | exact @False.elim _ | intro hc)))
    exact finV_ret vv (.tup (.cons (.sl _ _ _) (.cons (.lit _) .nil)))
  rw [hr] at C2
  rw [if_pos rfl]
  have C3 := grips_fn h hk c hf (rgt_ok hr)
  clear hr hk
  unfold Hand.val at C1 C3
  unfold Chord.val Chord.cells at C2 C3
  unfold tGs at C3
  by_cases hl : (grpA h c).length ≤ 200
  · rw [if_pos hl]
    rw [List.take_of_length_le (by omega)] at C3
    have c1 : ¬ (200 : Int) < ((grpA h c).length : Int) := by omega
    clear hl
    generalize grpA h c = L at *
    repeat' (with_reducible first | refine x_ops ?_ | refine wk ?_ | (with_reducible refine xc (C1) ?_) | (with_reducible refine xc (C2) ?_) | (with_reducible refine xc (C3) ?_) | ((first | refine gd1 ?_ ?_ | refine gd2 ?_ ?_ | refine gd3 ?_ ?_) <;> (first | exact @False.elim _ | intro hc)))
    exact finV_ret vv (.tup (.cons (.sl _ _ _) (.cons (.lit _) .nil)))
  · rw [if_neg hl]
    have c1 : (200 : Int) < (((grpA h c).take 201).length : Int) := by rw [List.length_take]; omega
    clear hl
    generalize (grpA h c).take 201 = L at *
    repeat' (with_reducible first | refine x_ops ?_ | refine wk ?_ | (with_reducible refine xc (C1) ?_) | (with_reducible refine xc (C2) ?_) | (with_reducible refine xc (C3) ?_) | ((first | refine gd1 ?_ ?_ | refine gd2 ?_ ?_ | refine gd3 ?_ ?_) <;> (first | exact @False.elim _ | intro hc)))
    exact finV_ret vv (.tup (.cons (.sl _ _ _) (.cons (.lit _) .nil)))
end Go.Proofs.Ytojjdkoglhecbaa
namespace Go.Proofs.Ytojjdkoglhecbaa
open Go.RowKit
set_option linter.unusedSimpArgs false
set_option linter.unusedVariables false

section
variable {P : Program} {G : Ground}
/-- A call with memory, its arguments as they are. -/
theorem x_scallR {base i : Nat} {d : Option Nat} {f : FuncId} {xs : List Opd} {l : List VI} {s : St} {K : St → Prop} {Post : V → Mm → Prop} (vs : List V) (hv : xs.map s.ev = vs) (hf : SFn P G f vs s.m Post) (hne : ∃ r m', Post r m')
    (h : ∀ r m', Post r m' → goR P G base (some ⟨putT s.t d r, m'⟩) l (i + 1) K) : vrun P G base i (⟨d, none, .call f, xs, none⟩ :: l) s K := by
  subst hv
  rw [vrun]
  unfold vstep VI.on
  simp only [if_true, sem, callSem]
  exact ⟨_, Post, .inl rfl, hf, hne, fun r m' hP => goR_vrun l (i + 1) _ (h r m' hP)⟩
/-- An append to a row of this call's own, in any order. -/
theorem x_appO {base i : Nat} {d : Option Nat} {e : TypeId} {size bytes : Nat} {x y : Opd} {l : List VI} {s : St} {K : St → Prop} {n j t : Nat} {xs ys : List V} {k2 : Tok} {md : Option (List Nat)} (hx : s.ev x = .sl n xs (.own t)) (hy : s.ev y = .sl j ys k2) (hok : ownOk md base t = true) (ho : s.m.obj t = some (.row n e size))
    (h1 : xs.length = n * size) (h2 : ys.length = j * size) (h3 : (n + j) * bytes ≤ 140737488355328) (h4 : n + j ≤ maxLen)
    (h : goR P G base (some ⟨putT s.t d (.sl (n + j) (xs ++ ys) (.own t)), s.m.put t (.row (n + j) e size)⟩) l (i + 1) K) : vrun P G base i (⟨d, none, .app e size bytes, [x, y], md⟩ :: l) s K := by
  rw [vrun]
  unfold vstep VI.on
  simp only [if_true, List.map_cons, List.map_nil, hx, hy, sem, ho]
  refine ⟨h1, h2, h3, h4, hok, ?_, ?_, ?_, goR_vrun l (i + 1) _ h⟩ <;> first | rfl | trivial
/-- An append to a slice that may grow: what is left as it was. -/
theorem x_appc {base i : Nat} {d : Option Nat} {e : TypeId} {size bytes : Nat} {x y : Opd} {l : List VI} {s : St} {K : St → Prop} {n j : Nat} {xs ys : List V} {k k2 : Tok} (hx : s.ev x = .sl n xs k) (hy : s.ev y = .sl j ys k2) (hap : Apb s.m k n e size)
    (h1 : xs.length = n * size) (h2 : ys.length = j * size) (h3 : (n + j) * bytes ≤ 140737488355328) (h4 : n + j ≤ maxLen) (h0 : base + i < s.m.next)
    (h : ∀ k' m', Apb m' k' (n + j) e size → m'.next = s.m.next → (∀ q, q ≠ base + i → k ≠ .own q → m'.obj q = s.m.obj q) → (∀ q, k' = .own q → q = base + i ∨ k = .own q) → goR P G base (some ⟨putT s.t d (.sl (n + j) (xs ++ ys) k'), m'⟩) l (i + 1) K) :
    vrun P G base i (⟨d, none, .app e size bytes, [x, y], none⟩ :: l) s K := by
  rw [vrun]
  unfold vstep VI.on
  simp only [if_true, List.map_cons, List.map_nil, hx, hy, sem]
  refine ⟨h1, h2, h3, h4, ?_⟩
  rcases hap with rfl | ⟨t, rfl, ht, ho⟩
  · exact goR_vrun l (i + 1) _ (h _ _ (.inr ⟨base + i, rfl, h0, if_pos rfl⟩) rfl (fun q hne _ => if_neg hne) (fun q hq => .inl (by injection hq with hq; exact hq.symm)))
  · simp only [ho]
    exact ⟨rfl, trivial, trivial, trivial, goR_vrun l (i + 1) _ (h _ _ (.inr ⟨t, rfl, ht, if_pos rfl⟩) rfl (fun q _ hne => if_neg fun e => hne (by rw [e])) (fun q hq => .inr hq))⟩
end

/-- A list of grips that may grow goes through a call. -/
def ExPost (m : Mm) (tok : Tok) (L : List Grip) (r : V) (m' : Mm) : Prop :=
  ∃ tok', r = .sl L.length (L.flatMap Grip.cells) tok' ∧ Apb m' tok' L.length 53 2 ∧ m.next ≤ m'.next ∧ (∀ q, q < m.next → tok ≠ .own q → m'.obj q = m.obj q) ∧ ∀ q, q < m.next → tok' = .own q → tok = .own q
theorem ExPost.some (m : Mm) (tok : Tok) (L : List Grip) : ∃ r m', ExPost m tok L r m' :=
  ⟨_, m, .exact, rfl, .inl rfl, Nat.le_refl _, fun _ _ _ => rfl, fun q _ h => by cases h⟩
theorem ExPost.back {m m1 m' : Mm} {tok : Tok} {L : List Grip} {r : V} (h : ExPost m tok L r m') (hn : m1.next ≤ m.next) (ho : ∀ q, q < m1.next → m.obj q = m1.obj q) : ExPost m1 tok L r m' := by
  obtain ⟨tok', h1, h2, h3, h4, h5⟩ := h
  exact ⟨tok', h1, h2, Nat.le_trans hn h3, fun q hq hne => (h4 q (by omega) hne).trans (ho q hq), fun q hq => h5 q (by omega)⟩
theorem allB_succ (n : Nat) (p : Nat → Bool) : allB (n + 1) p = (allB n p && p n) := by simp [allB, List.range_succ]

set_option maxHeartbeats 4000000 in
theorem rext_sfn (h : Hand) (hk : HandOk h) (c : Chord) (hf : FitC c) (hc : ChordOk c) (pos : Int) (hp : 1 ≤ pos ∧ pos ≤ h.top) : ∀ (k : Nat) (F : List Int) (L : List Grip) (m : Mm) (tk tok : Tok), F.length + k = c.down.length → PreR h c pos F →
    L.length ≤ 201 → (k = 0 → L.length ≤ 200) → Apb m tok L.length 53 2 →
    SFn Try.prog Gd 109 [h.val, c.val, vint pos, .sl F.length (F.map vint) tk, .sl L.length (L.flatMap Grip.cells) tok] m (ExPost m tok ((L ++ fitT h c pos k F).take 201))
  | 0, F, L, m, tk, tok, hl, hF, hL, h0, hap => by
    have hL2 := h0 rfl
    have h14 := chord_len hc
    have hfit := hF.leaf hk hc hp (by omega)
    refine SFn.of_vxS k_theorboref06_extend (by simp) ?_
    rw [fitT, if_pos hfit, List.take_of_length_le (by simp; omega)]
    have e1 : ((F.length : Int) == (c.down.length : Int)) = true := by simp; omega
    have n0 : m.next < m.next + 3 := by omega
    have n1 : m.next + 1 < m.next + 3 := by omega
    have hFl : F.length ≤ 14 := by omega
    have hap0 := Hid.mk hap
    clear hl hap
    unfold c_theorboref06_extend Hand.val Chord.val Chord.cells
    repeat' (with_reducible first | refine x_ops ?_ | refine wk ?_ | ((first | refine gd1 ?_ ?_ | refine gd2 ?_ ?_ | refine gd3 ?_ ?_) <;> (first | exact @False.elim _ | intro hc)))
    refine x_appE (xs := []) (n := 0) (j := F.length) (ys := F.map vint) vw vw rfl (by simp) (by omega) (by unfold Go.maxLen; omega) ?_
    repeat' (with_reducible first | refine x_ops ?_ | refine wk ?_ | ((first | refine gd1 ?_ ?_ | refine gd2 ?_ ?_ | refine gd3 ?_ ?_) <;> (first | exact @False.elim _ | intro hc)))
    refine x_appc (n := L.length) (j := 1) (xs := L.flatMap Grip.cells) (ys := Grip.cells ⟨pos, F⟩) (k := tok) vw vw (hap0.out.mono (fun q hq _ => by (simp only [put_obj]; repeat rw [if_neg (by omega)])) (by simp only [put_next]; omega)) (gs_len L) rfl (by omega) (by unfold Go.maxLen; omega) (by simp only [put_next]; omega) ?_
    intro k' m' hap' hn' hkeep hown
    replace hn' : m'.next = m.next + 11 := hn'
    repeat' (with_reducible first | refine x_ops ?_ | refine wk ?_ | ((first | refine gd1 ?_ ?_ | refine gd2 ?_ ?_ | refine gd3 ?_ ?_) <;> (first | exact @False.elim _ | intro hc)))
    refine finS_ret vv ⟨k', ?_, ?_, ?_, ?_, ?_⟩
    · rw [List.length_append, List.flatMap_append]; simp
    · rw [List.length_append]; exact hap'
    · ((refine ve ?_; try exact True.intro)); omega
    · intro q hq hne
      exact (hkeep q (by omega) hne).trans (by (simp only [put_obj]; repeat rw [if_neg (by omega)]))
    · intro q hq hk'
      rcases hown q hk' with h1 | h1
      · omega
      · exact h1
  | k + 1, F, L, m, tk, tok, hl, hF, hL, h0, hap => by
    have IH := rext_sfn h hk c hf hc pos hp k
    have htop := hk.top
    have hn4 := hk.n4
    have h14 := chord_len hc
    clear h0
    refine SFn.of_vxS k_theorboref06_extend (by simp) ?_
    have e1 : ((F.length : Int) == (c.down.length : Int)) = false := by simp; omega
    have hlt : F.length < c.down.length := by omega
    have cF : (F.length : Int) < (c.down.length : Int) := by omega
    have gF := pls_at1 hlt
    have gL := pls_len c.down
    have n0 : m.next < m.next + 3 := by omega
    have n1 : m.next + 1 < m.next + 3 := by omega
    have hfr := hc.each F.length hlt
    have RF := fun v => rreach_fn h hk pos v (c.down.getD F.length (0, 0)).2 (by omega) (by omega)
    have RA := fun (q : Nat) (hq : q < F.length) (v : Int) => rapart_fn h hk c hf q F.length hq hlt (F.getD q 0) v (by
      have := (hF q hq).1
      rw [rrchB, Bool.and_eq_true, Bool.and_eq_true, decide_eq_true_eq, decide_eq_true_eq] at this
      exact this.1)
    have hFl : Hid (F.length ≤ 14) := ⟨by omega⟩
    have hlt0 := Hid.mk hlt
    have hl0 := Hid.mk hl
    have hap0 := Hid.mk hap
    clear hl hap hlt hfr
    rw [fitT_succ]
    unfold c_theorboref06_extend Hand.val Chord.val Chord.cells
    unfold Hand.val at RF RA
    unfold Chord.val Chord.cells at RA
    repeat' (with_reducible first | refine x_ops ?_ | refine wk ?_ | ((first | refine gd1 ?_ ?_ | refine gd2 ?_ ?_ | refine gd3 ?_ ?_) <;> (first | exact @False.elim _ | intro hc)))
    clear n0 n1 e1
    refine x_loopW w_theorboref06_extend_p11 (by kernel_rfl) h.low.length (fun f t m' => t 12 = vint ((f + 1 : Nat) : Int) ∧ ExPost m tok ((L ++ fitS h c pos k F f).take 201) (t 4) m' ∧ m.next + 3 ≤ m'.next ∧
      m'.obj m.next = some (.box [tIs h.low, tIs h.high, tBs h.barre, vint h.top, vint h.jump, vint h.shift, vint h.lift, vint h.bar, vint h.stretch, vint h.slide] 25) ∧ m'.obj (m.next + 1) = some (.box [tPs c.down, tIs c.held, tIs c.opn] 47)) ?_ ?_
    · refine ⟨vv, ⟨tok, ?_, ?_, ?_, ?_, fun q _ h => h⟩, ?_, ?_, ?_⟩
      · rw [show fitS h c pos k F 0 = [] from rfl, List.append_nil, List.take_of_length_le hL]; exact vv
      · rw [show fitS h c pos k F 0 = [] from rfl, List.append_nil, List.take_of_length_le hL]
        exact hap0.out.mono (fun q hq _ => by (simp only [put_obj]; repeat rw [if_neg (by omega)])) (by simp only [put_next]; omega)
      · simp only [put_next]; omega
      · intro q hq hne; (simp only [put_obj]; repeat rw [if_neg (by omega)])
      · simp only [put_next]; omega
      · exact vv
      · exact vv
    rintro f t m1 hfk ⟨h12, ⟨tk1, h4, hap, hnx, hkeep, hown⟩, hnm, o0, o1⟩
    have n0 : m.next < m1.next := by omega
    have n1 : m.next + 1 < m1.next := by omega
    have hLf := tk_len (L ++ fitS h c pos k F f)
    have hap1 := Hid.mk hap
    have hkeep1 := Hid.mk hkeep
    have hown1 := Hid.mk hown
    clear hap hkeep hown
    by_cases hfn : f < h.low.length
    case neg =>
      have hfe : f = h.low.length := by omega
      subst hfe
      have c1 : ¬ ((h.low.length + 1 : Nat) : Int) ≤ (h.low.length : Int) := by omega
      clear hfk hfn
      generalize (L ++ fitS h c pos k F h.low.length).take 201 = L1 at *
      repeat' (with_reducible first | refine x_ops ?_ | refine wk ?_ | ((first | refine gd1 ?_ ?_ | refine gd2 ?_ ?_ | refine gd3 ?_ ?_) <;> (first | exact @False.elim _ | intro hc)))
      exact finS_ret vv ⟨tk1, rfl, hap1.out, hnx, hkeep1.out, hown1.out⟩
    have c1 : ((f + 1 : Nat) : Int) ≤ (h.low.length : Int) := by omega
    have w2 := w_add1 (k := f + 1) (by omega)
    obtain ⟨Lf, hLe⟩ : ∃ Lf, Lf = (L ++ fitS h c pos k F f).take 201 := ⟨_, rfl⟩
    rw [← hLe] at h4 hap1 hLf
    have R1 := RF ((f + 1 : Nat) : Int)
    have A1 := fun q hq => RA q hq ((f + 1 : Nat) : Int)
    have hS : (L ++ fitS h c pos k F (f + 1)) = (L ++ fitS h c pos k F f) ++ fitT h c pos k (F ++ [((f + 1 : Nat) : Int)]) := by rw [fitS_succ, List.append_assoc]
    have full : ¬ Lf.length ≤ 200 → (L ++ fitS h c pos k F (f + 1)).take 201 = Lf := fun hg => by rw [hS, hLe]; rw [hLe] at hg; exact (tk_full hg).symm
    have more : Lf.length ≤ 200 → (L ++ fitS h c pos k F (f + 1)).take 201 = (Lf ++ fitT h c pos k (F ++ [((f + 1 : Nat) : Int)])).take 201 := fun hg => by rw [hS, hLe]; rw [hLe] at hg; exact (tk_more hg).symm
    have none' : fitT h c pos k (F ++ [((f + 1 : Nat) : Int)]) = [] → (L ++ fitS h c pos k F (f + 1)).take 201 = Lf := fun e => by rw [hS, e, List.append_nil, hLe]
    replace full := Hid.mk full
    replace more := Hid.mk more
    replace none' := Hid.mk none'
    replace hLe := Hid.mk hLe
    replace hfn := Hid.mk hfn
    clear RF RA hfk hS
    obtain ⟨b0, hb0⟩ : ∃ b, b = rrchB h pos ((f + 1 : Nat) : Int) (c.down.getD F.length (0, 0)).2 := ⟨_, rfl⟩
    rw [← hb0] at R1
    replace hb0 := Hid.mk hb0
    repeat' (with_reducible first | refine x_ops ?_ | refine wk ?_ | (with_reducible refine xc (R1) ?_) | ((first | refine gd1 ?_ ?_ | refine gd2 ?_ ?_ | refine gd3 ?_ ?_) <;> (first | exact @False.elim _ | intro hc)))
    refine x_loopF w_theorboref06_extend_p4 (by kernel_rfl) F.length (fun q t => t 14 = vint (q : Int) ∧ t 13 = vbool (b0 && allB q fun i => aptB h c i F.length (F.getD i 0) ((f + 1 : Nat) : Int))) ?_ ?_
    · exact ⟨vv, by rw [show allB 0 (fun i => aptB h c i F.length (F.getD i 0) ((f + 1 : Nat) : Int)) = true from rfl, Bool.and_true]; exact vv⟩
    rintro q t2 hq ⟨h14', h13⟩
    by_cases hqF : q < F.length
    · have g1 := ints_at hqF
      have c3 : (q : Int) < (F.length : Int) := by omega
      have w3 := w_add1 (k := q) (by omega)
      have A2 := A1 q hqF
      have hsu := Hid.mk (allB_succ q fun i => aptB h c i F.length (F.getD i 0) ((f + 1 : Nat) : Int))
      cases hb : (b0 && allB q fun i => aptB h c i F.length (F.getD i 0) ((f + 1 : Nat) : Int))
      · rw [hb] at h13
        replace hb := Hid.mk hb
        clear A1 A2
        repeat' (with_reducible first | refine x_ops ?_ | refine wk ?_ | ((first | refine gd1 ?_ ?_ | refine gd2 ?_ ?_ | refine gd3 ?_ ?_) <;> (first | exact @False.elim _ | intro hc)))
        refine nf hqF ⟨vv, ?_⟩ rfl
        rw [hsu.out, ← Bool.and_assoc, hb.out]; exact vv
      · rw [hb] at h13
        replace hb := Hid.mk hb
        generalize hap' : aptB h c q F.length (F.getD q 0) ((f + 1 : Nat) : Int) = b1 at *
        clear A1
        repeat' (with_reducible first | refine x_ops ?_ | refine wk ?_ | (with_reducible refine xc (A2) ?_) | ((first | refine gd1 ?_ ?_ | refine gd2 ?_ ?_ | refine gd3 ?_ ?_) <;> (first | exact @False.elim _ | intro hc)))
        refine nf hqF ⟨vv, ?_⟩ rfl
        rw [hsu.out, ← Bool.and_assoc, hb.out]; exact vv
    have hqe : q = F.length := by omega
    subst hqe
    have c3 : ¬ (F.length : Int) < (F.length : Int) := by omega
    clear hqF hq A1
    obtain ⟨b, hb⟩ : ∃ b, b = (b0 && allB F.length fun i => aptB h c i F.length (F.getD i 0) ((f + 1 : Nat) : Int)) := ⟨_, rfl⟩
    rw [← hb] at h13
    have hbt : b = true ↔ (rrchB h pos ((f + 1 : Nat) : Int) (c.down.getD F.length (0, 0)).2 = true ∧ ∀ k, k < F.length → AptP h c k F.length (F.getD k 0) ((f + 1 : Nat) : Int)) := by
      rw [hb, hb0.out, Bool.and_eq_true, allB_iff]
      exact ⟨fun hh => ⟨hh.1, fun k hk => apt_true.1 (hh.2 k hk)⟩, fun hh => ⟨hh.1, fun k hk => apt_true.2 (hh.2 k hk)⟩⟩
    replace hbt := Hid.mk hbt
    clear hb
    cases b
    · have e9 := Hid.mk (none'.out (fitT_bad (k := k) hk hc hlt0.out fun hh => by have := hbt.out.2 hh; cases this))
      repeat' (with_reducible first | refine x_ops ?_ | refine wk ?_ | ((first | refine gd1 ?_ ?_ | refine gd2 ?_ ?_ | refine gd3 ?_ ?_) <;> (first | exact @False.elim _ | intro hc)))
      exact nx hfn.out ⟨vv, ⟨tk1, by rw [e9.out]; exact vw, by rw [e9.out]; exact hap1.out, hnx, hkeep1.out, hown1.out⟩, hnm, o0, o1⟩
    by_cases hg : Lf.length ≤ 200
    case neg =>
      have c2 : ¬ (Lf.length : Int) ≤ 200 := by omega
      have e9 := Hid.mk (full.out hg)
      clear hg
      repeat' (with_reducible first | refine x_ops ?_ | refine wk ?_ | ((first | refine gd1 ?_ ?_ | refine gd2 ?_ ?_ | refine gd3 ?_ ?_) <;> (first | exact @False.elim _ | intro hc)))
      exact nx hfn.out ⟨vv, ⟨tk1, by rw [e9.out]; exact vw, by rw [e9.out]; exact hap1.out, hnx, hkeep1.out, hown1.out⟩, hnm, o0, o1⟩
    have c2 : (Lf.length : Int) ≤ 200 := by omega
    have e9 := Hid.mk (more.out hg)
    have hP := Hid.mk (hF.snoc (hbt.out.1 rfl).1 (hbt.out.1 rfl).2)
    replace hg := Hid.mk hg
    have hk0 : Hid (tk1 ≠ .own m.next ∧ tk1 ≠ .own (m.next + 1)) := ⟨by
      rcases hap1.out with h1 | ⟨t, h1, _, h3⟩
      · rw [h1]; exact ⟨(fun e => by cases e), (fun e => by cases e)⟩
      · rw [h1]; exact ⟨(fun e => by injection e with e; subst e; rw [o0] at h3; cases h3), (fun e => by injection e with e; subst e; rw [o1] at h3; cases h3)⟩⟩
    repeat' (with_reducible first | refine x_ops ?_ | refine wk ?_ | ((first | refine gd1 ?_ ?_ | refine gd2 ?_ ?_ | refine gd3 ?_ ?_) <;> (first | exact @False.elim _ | intro hc)))
    refine x_appE (xs := []) (n := 0) (j := F.length) (ys := F.map vint) vw vw rfl (by simp) (by have := hFl.out; omega) (by have := hFl.out; unfold Go.maxLen; omega) ?_
    repeat' (with_reducible first | refine x_ops ?_ | refine wk ?_ | ((first | refine gd1 ?_ ?_ | refine gd2 ?_ ?_ | refine gd3 ?_ ?_) <;> (first | exact @False.elim _ | intro hc)))
    refine x_appO (t := m1.next + 4) (n := F.length) (j := 1) (xs := F.map vint) (ys := [vint ((f + 1 : Nat) : Int)]) vw vw (by simp [ownOk]) vw (by simp) rfl (by have := hFl.out; omega) (by have := hFl.out; unfold Go.maxLen; omega) ?_
    repeat' (with_reducible first | refine x_ops ?_ | refine wk ?_ | ((first | refine gd1 ?_ ?_ | refine gd2 ?_ ?_ | refine gd3 ?_ ?_) <;> (first | exact @False.elim _ | intro hc)))
    refine x_scallR (Post := ExPost m1 tk1 ((Lf ++ fitT h c pos k (F ++ [((f + 1 : Nat) : Int)])).take 201)) [h.val, c.val, vint pos, .sl (F.length + 1) (F.map vint ++ [vint ((f + 1 : Nat) : Int)]) (.own (m1.next + 4)), .sl Lf.length (Lf.flatMap Grip.cells) tk1] ?_ ?_ (ExPost.some _ _ _) ?_
    · simp only [Hand.val, Chord.val, Chord.cells]; exact vw
    · have IH2 := fun mm => IH (F ++ [((f + 1 : Nat) : Int)]) Lf mm (.own (m1.next + 4)) tk1 (by simp; have := hl0.out; omega) hP.out hLf (fun _ => hg.out)
      rw [List.length_append, List.map_append] at IH2
      refine SFn.mono (IH2 _ (hap1.out.mono (fun q hq _ => by (simp only [put_obj]; repeat rw [if_neg (by omega)])) (by simp only [put_next]; omega))) fun r m' hPo => hPo.back (by simp only [put_next]; omega) (fun q hq => by (simp only [put_obj]; repeat rw [if_neg (by omega)]))
    rintro r m4 ⟨tk2, rfl, hap4, hn4', hkeep4, hown4⟩
    have p0 := (hkeep4 _ n0 hk0.out.1).trans o0
    have p1 := (hkeep4 _ n1 hk0.out.2).trans o1
    have hkeep5 : ∀ q, q < m.next → tok ≠ .own q → m4.obj q = m.obj q := fun q hq hne => (hkeep4 q (by omega) fun e => hne (hown1.out q hq e)).trans (hkeep1.out q hq hne)
    have hown5 : ∀ q, q < m.next → tk2 = .own q → tok = .own q := fun q hq e => hown1.out q hq (hown4 q (by omega) e)
    replace hkeep5 := Hid.mk hkeep5
    replace hown5 := Hid.mk hown5
    replace hap4 := Hid.mk hap4
    have hn5 : m.next ≤ m4.next := by omega
    have hn6 : m.next + 3 ≤ m4.next := by omega
    clear hkeep4 hown4 o0 o1 hk0
    repeat' (with_reducible first | refine x_ops ?_ | refine wk ?_ | ((first | refine gd1 ?_ ?_ | refine gd2 ?_ ?_ | refine gd3 ?_ ?_) <;> (first | exact @False.elim _ | intro hc)))
    exact nx hfn.out ⟨vv, ⟨tk2, by rw [e9.out]; exact vv, by rw [e9.out]; exact hap4.out, hn5, hkeep5.out, hown5.out⟩, hn6, p0, p1⟩
end Go.Proofs.Ytojjdkoglhecbaa
namespace Go.Proofs.Ytojjdkoglhecbaa
open Go.RowKit
set_option linter.unusedSimpArgs false
set_option linter.unusedVariables false

set_option maxHeartbeats 2000000 in
theorem rall_fn (h : Hand) (hk : HandOk h) (c : Chord) (hf : FitC c) (hc : ChordOk c) : Fn Try.prog Gd 72 [h.val, c.val] (tGs ((grpA h c).take 201)) := by
  refine Fn.of_vx0 k_theorboref06_all (by simp) (by rw [V.pures, pure_hand, V.pures, pure_chord]; rfl) ?_
  have htop := hk.top
  unfold c_theorboref06_all Hand.val Chord.val Chord.cells tGs
  repeat' (with_reducible first | refine x_ops ?_ | refine wk ?_ | ((first | refine gd1 ?_ ?_ | refine gd2 ?_ ?_ | refine gd3 ?_ ?_) <;> (first | exact @False.elim _ | intro hc)))
  refine x_loopW w_theorboref06_all_p3 (by kernel_rfl) h.top.toNat (fun p t m => t 6 = vint ((p + 1 : Nat) : Int) ∧ (∃ tok, t 5 = .sl ((fitP h c p).take 201).length (((fitP h c p).take 201).flatMap Grip.cells) tok ∧ Apb m tok ((fitP h c p).take 201).length 53 2) ∧ 2 ≤ m.next ∧
      m.obj 0 = some (.box [tIs h.low, tIs h.high, tBs h.barre, vint h.top, vint h.jump, vint h.shift, vint h.lift, vint h.bar, vint h.stretch, vint h.slide] 25) ∧ m.obj 1 = some (.box [tPs c.down, tIs c.held, tIs c.opn] 47)) ?_ ?_
  · exact ⟨vv, ⟨.exact, vv, .inl rfl⟩, by ((refine ve ?_; try exact True.intro)); first | done | omega, vv, vv⟩
  rintro p t m hp ⟨h6, ⟨tk, h5, hap⟩, hn, o0, o1⟩
  have n0 : 0 < m.next := by omega
  have n1 : 1 < m.next := by omega
  have hap0 := Hid.mk hap
  clear hap
  by_cases hpt : p < h.top.toNat
  case neg =>
    have hpe : p = h.top.toNat := by omega
    subst hpe
    have c1 : ¬ ((h.top.toNat + 1 : Nat) : Int) ≤ h.top := by omega
    unfold grpA
    generalize (fitP h c h.top.toNat).take 201 = L at *
    repeat' (with_reducible first | refine x_ops ?_ | refine wk ?_ | ((first | refine gd1 ?_ ?_ | refine gd2 ?_ ?_ | refine gd3 ?_ ?_) <;> (first | exact @False.elim _ | intro hc)))
    exact finV_ret vv (.sl _ _ _)
  have c1 : ((p + 1 : Nat) : Int) ≤ h.top := by omega
  have w1 := w_add1 (k := p + 1) (by omega)
  have hL : (fitP h c (p + 1)).take 201 = ((fitP h c p).take 201 ++ fitT h c ((p + 1 : Nat) : Int) c.down.length []).take 201 := by
    rw [fitP_succ]
    by_cases hg : ((fitP h c p).take 201).length ≤ 200
    · exact (tk_more hg).symm
    · rw [← tk_full hg, List.take_append_of_le_length (by omega), List.take_of_length_le (tk_len _)]
  replace hL := Hid.mk hL
  have PS := rext_sfn h hk c hf hc ((p + 1 : Nat) : Int) (by omega) c.down.length [] ((fitP h c p).take 201) m .exact tk (by simp) (fun i hi => by simp at hi) (tk_len _)
    (fun e => by have := fitP0_len (h := h) e p; rw [List.length_take]; omega) hap0.out
  have hk0 : Hid (tk ≠ .own 0 ∧ tk ≠ .own 1) := ⟨by
    rcases hap0.out with h1 | ⟨t, h1, _, h3⟩
    · rw [h1]; exact ⟨(fun e => by cases e), (fun e => by cases e)⟩
    · rw [h1]; exact ⟨(fun e => by injection e with e; subst e; rw [o0] at h3; cases h3), (fun e => by injection e with e; subst e; rw [o1] at h3; cases h3)⟩⟩
  repeat' (with_reducible first | refine x_ops ?_ | refine wk ?_ | ((first | refine gd1 ?_ ?_ | refine gd2 ?_ ?_ | refine gd3 ?_ ?_) <;> (first | exact @False.elim _ | intro hc)))
  refine x_scallR (Post := ExPost m tk (((fitP h c p).take 201 ++ fitT h c ((p + 1 : Nat) : Int) c.down.length []).take 201)) [h.val, c.val, vint ((p + 1 : Nat) : Int), .sl 0 [] .exact, .sl ((fitP h c p).take 201).length (((fitP h c p).take 201).flatMap Grip.cells) tk] ?_ PS (ExPost.some _ _ _) ?_
  · simp only [Hand.val, Chord.val, Chord.cells]; exact vw
  rintro r m4 ⟨tk2, rfl, hap4, hn4, hkeep4, hown4⟩
  have p0 := (hkeep4 _ n0 hk0.out.1).trans o0
  have p1 := (hkeep4 _ n1 hk0.out.2).trans o1
  have hn5 : 2 ≤ m4.next := by omega
  replace hap4 := Hid.mk hap4
  clear hkeep4 hown4 PS o0 o1
  repeat' (with_reducible first | refine x_ops ?_ | refine wk ?_ | ((first | refine gd1 ?_ ?_ | refine gd2 ?_ ?_ | refine gd3 ?_ ?_) <;> (first | exact @False.elim _ | intro hc)))
  exact nx hpt ⟨vv, ⟨tk2, by rw [hL.out]; exact vv, by rw [hL.out]; exact hap4.out⟩, hn5, p0, p1⟩
set_option maxHeartbeats 1000000 in
theorem rGrips_fn (h : Hand) (c : Chord) (hf : FitC c) : Fn Try.prog Gd 33 [h.val, c.val] (.tup [tGs (grR h c).1, vint (grR h c).2]) := by
  refine Fn.of_vx0 k_theorboref06_Grips (by simp) (by rw [V.pures, pure_hand, V.pures, pure_chord]; rfl) ?_
  have C1 := rcheck_fn h
  have C2 := good_fn c hf
  unfold grR
  unfold c_theorboref06_Grips Hand.val Chord.val Chord.cells tGs
  by_cases he : chkE h = 0
  case neg =>
    rw [if_neg he]
    rw [chk_bad he] at C1
    clear he
    unfold Hand.val at C1
    repeat' (with_reducible first | refine x_ops ?_ | refine wk ?_ | (with_reducible refine xc (C1) ?_) | ((first | refine gd1 ?_ ?_ | refine gd2 ?_ ?_ | refine gd3 ?_ ?_) <;> (first | exact @False.elim _ | intro hc)))
    exact finV_ret vv (.tup (.cons (.sl _ _ _) (.cons (.lit _) .nil)))
  have hk := chk_ok he
  rw [if_pos he]
  rw [he] at C1
  clear he
  cases hr : rgtB c
  · rw [hr] at C2
    rw [if_neg (by simp)]
    clear hr hk
    unfold Hand.val at C1
    unfold Chord.val Chord.cells at C2
    repeat' (with_reducible first | refine x_ops ?_ | refine wk ?_ | (with_reducible refine xc (C1) ?_) | (with_reducible refine xc (C2) ?_) | ((first | refine gd1 ?_ ?_ | refine gd2 ?_ ?_ | refine gd3 ?_ ?_) <;> (first | exact @False.elim _ | intro hc)))
    exact finV_ret vv (.tup (.cons (.sl _ _ _) (.cons (.lit _) .nil)))
  rw [hr] at C2
  rw [if_pos rfl]
  have C3 := rall_fn h hk c hf (rgt_ok hr)
  clear hr hk
  unfold Hand.val at C1 C3
  unfold Chord.val Chord.cells at C2 C3
  unfold tGs at C3
  by_cases hl : (grpA h c).length ≤ 200
  · rw [if_pos hl]
    rw [List.take_of_length_le (by omega)] at C3
    have c1 : ¬ (200 : Int) < ((grpA h c).length : Int) := by omega
    clear hl
    generalize grpA h c = L at *
    repeat' (with_reducible first | refine x_ops ?_ | refine wk ?_ | (with_reducible refine xc (C1) ?_) | (with_reducible refine xc (C2) ?_) | (with_reducible refine xc (C3) ?_) | ((first | refine gd1 ?_ ?_ | refine gd2 ?_ ?_ | refine gd3 ?_ ?_) <;> (first | exact @False.elim _ | intro hc)))
    exact finV_ret vv (.tup (.cons (.sl _ _ _) (.cons (.lit _) .nil)))
  · rw [if_neg hl]
    have c1 : (200 : Int) < (((grpA h c).take 201).length : Int) := by rw [List.length_take]; omega
    clear hl
    generalize (grpA h c).take 201 = L at *
    repeat' (with_reducible first | refine x_ops ?_ | refine wk ?_ | (with_reducible refine xc (C1) ?_) | (with_reducible refine xc (C2) ?_) | (with_reducible refine xc (C3) ?_) | ((first | refine gd1 ?_ ?_ | refine gd2 ?_ ?_ | refine gd3 ?_ ?_) <;> (first | exact @False.elim _ | intro hc)))
    exact finV_ret vv (.tup (.cons (.sl _ _ _) (.cons (.lit _) .nil)))

theorem gs_at0 {l : List Grip} {k : Nat} (h : k < l.length) : (l.flatMap Grip.cells)[k * 2]? = some (V.lit (.int .i64 (l.getD k noG).pos)) := by
  have := flat_at (j := 0) gs_l noG h (by decide); rw [Nat.add_zero] at this; rw [this]; rfl
theorem gs_at1 {l : List Grip} {k : Nat} (h : k < l.length) : (l.flatMap Grip.cells)[k * 2 + 1]? = some (tIs (l.getD k noG).fingers) := by
  rw [flat_at (j := 1) gs_l noG h (by decide)]; rfl
deriving instance DecidableEq for Grip
/-- The same grips. -/
theorem samegrips_fn (a b : List Grip) (ha : FitsG a) : Fn Try.prog Gd 34 [tGs a, tGs b] (vbool (decide (a = b))) := by
  refine Fn.of_vx0 k_theorbolaw06_SameGrips (by simp) (by rw [V.pures, pure_tGs, V.pures, pure_tGs]; rfl) ?_
  have hal := ha.1
  unfold c_theorbolaw06_SameGrips tGs
  by_cases hab : a.length = b.length
  case neg =>
    have hab' : ((a.length : Int) == (b.length : Int)) = false := by simp; omega
    repeat' (with_reducible first | refine x_ops ?_ | refine wk ?_ | ((first | refine gd1 ?_ ?_ | refine gd2 ?_ ?_ | refine gd3 ?_ ?_) <;> (first | exact @False.elim _ | intro hc)))
    exact finV_lit vv (by rw [decide_eq_false]; rintro rfl; exact hab rfl)
  have hab' : ((a.length : Int) == (a.length : Int)) = true := by simp
  have hab2 := hab.symm
  clear hab
  repeat' (with_reducible first | refine x_ops ?_ | refine wk ?_ | ((first | refine gd1 ?_ ?_ | refine gd2 ?_ ?_ | refine gd3 ?_ ?_) <;> (first | exact @False.elim _ | intro hc)))
  refine x_loopF w_theorbolaw06_SameGrips_p5 (by kernel_rfl) a.length (fun k t => t 5 = vint (k : Int) ∧ ∀ i, i < k → a.getD i noG = b.getD i noG) ?_ ?_
  · exact ⟨vv, fun i h => by omega⟩
  rintro k t hk ⟨h5, hI⟩
  by_cases hlt : k < a.length
  · have g1 := gs_at0 hlt
    have g2 := gs_at0 (l := b) (k := k) (by omega)
    have g3 := gs_at1 hlt
    have g4 := gs_at1 (l := b) (k := k) (by omega)
    have g5 := gs_len a
    have g6 := gs_len b
    have c2 : (k : Int) < (a.length : Int) := by omega
    have w2 := w_add1 (k := k) (by omega)
    have SI := sameints_fn (a.getD k noG).fingers (b.getD k noG).fingers (by have := ha.at k; omega)
    have hlast : Hid (a.getD k noG = b.getD k noG ↔ (a.getD k noG).pos = (b.getD k noG).pos ∧ (a.getD k noG).fingers = (b.getD k noG).fingers) := ⟨by
      constructor
      · intro e; rw [e]; exact ⟨rfl, rfl⟩
      · intro ⟨e1, e2⟩
        cases ha' : a.getD k noG; cases hb' : b.getD k noG
        rw [ha', hb'] at e1 e2; simp only at e1 e2; rw [e1, e2]⟩
    have bad : Hid (a.getD k noG ≠ b.getD k noG → decide (a = b) = false) := ⟨fun hne => by rw [decide_eq_false]; rintro rfl; exact hne rfl⟩
    by_cases hp : (a.getD k noG).pos = (b.getD k noG).pos
    · by_cases hq : (a.getD k noG).fingers = (b.getD k noG).fingers
      · rw [decide_eq_true hq] at SI
        have hgood := Hid.mk (hlast.out.2 ⟨hp, hq⟩)
        have hp' : ((a.getD k noG).pos == (b.getD k noG).pos) = true := by rw [hp]; simp
        clear hp hq
        repeat' (with_reducible first | refine x_ops ?_ | refine wk ?_ | (with_reducible refine xc (SI) ?_) | ((first | refine gd1 ?_ ?_ | refine gd2 ?_ ?_ | refine gd3 ?_ ?_) <;> (first | exact @False.elim _ | intro hc)))
        refine nf (by omega) ⟨vv, fun i h => ?_⟩ rfl
        by_cases hi : i = k
        · subst hi; exact hgood.out
        · exact hI i (by omega)
      · rw [decide_eq_false hq] at SI
        have hp' : ((a.getD k noG).pos == (b.getD k noG).pos) = true := by rw [hp]; simp
        have hb := Hid.mk (bad.out fun e => hq (hlast.out.1 e).2)
        clear hp hq
        repeat' (with_reducible first | refine x_ops ?_ | refine wk ?_ | (with_reducible refine xc (SI) ?_) | ((first | refine gd1 ?_ ?_ | refine gd2 ?_ ?_ | refine gd3 ?_ ?_) <;> (first | exact @False.elim _ | intro hc)))
        exact finV_lit vv (by rw [hb.out])
    · have hp' : ((a.getD k noG).pos == (b.getD k noG).pos) = false := by simpa using hp
      have hb := Hid.mk (bad.out fun e => hp (hlast.out.1 e).1)
      clear hp
      repeat' (with_reducible first | refine x_ops ?_ | refine wk ?_ | (with_reducible refine xc (SI) ?_) | ((first | refine gd1 ?_ ?_ | refine gd2 ?_ ?_ | refine gd3 ?_ ?_) <;> (first | exact @False.elim _ | intro hc)))
      exact finV_lit vv (by rw [hb.out])
  · have c1 : ¬ ((k : Int) < (a.length : Int)) := by omega
    repeat' (with_reducible first | refine x_ops ?_ | refine wk ?_ | ((first | refine gd1 ?_ ?_ | refine gd2 ?_ ?_ | refine gd3 ?_ ?_) <;> (first | exact @False.elim _ | intro hc)))
    refine finV_lit vv ?_
    rw [decide_eq_true]
    refine List.ext_getElem hab2.symm fun i h1 h2 => ?_
    have := hI i (by omega)
    simpa [List.getD_eq_getElem?_getD, h1, h2] using this
theorem grR_fits (h : Hand) (c : Chord) (hf : FitC c) : FitsG (grR h c).1 := by
  unfold grR
  split <;> (try split) <;> (try split)
  · rename_i h1
    refine ⟨by show (grpA h c).length ≤ _; omega, fun g hg => ?_⟩
    have := (grpA_mem.1 hg).len
    have := hf.1
    omega
  all_goals exact ⟨by simp, fun g hg => by cases hg⟩
end Go.Proofs.Ytojjdkoglhecbaa
