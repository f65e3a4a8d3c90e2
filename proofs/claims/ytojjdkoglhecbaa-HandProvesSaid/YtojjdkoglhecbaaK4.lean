/- The cost of a step: the program, on values. -/
import Derived.Test.YtojjdkoglhecbaaK2
namespace Go.Proofs.Ytojjdkoglhecbaa
open Go.RowKit
set_option linter.unusedSimpArgs false
set_option linter.unusedVariables false

/-- Is this place among these? -/
def memB (x : Int × Int) (l : List (Int × Int)) : Bool := decide (gI (fun y => decide (x = y)) l < l.length)
/-- Have two lists a place in common? -/
def cmnB (a b : List (Int × Int)) : Bool := decide (gI (fun x => memB x b) a < a.length)
theorem indexP_fn (l : List (Int × Int)) (v : Int × Int) (hl : l.length ≤ 4611686018427387904) : Fn Try.prog Gd 136 [tPs l, .agg (plE v)] (vint (gIx (fun y => decide (v = y)) l)) := by
  refine Fn.of_vx0 k_slices_Index_api_Place_api_Place (by simp) (by rw [V.pures, pure_tPs]; rfl) ?_
  unfold c_slices_Index_api_Place_api_Place plE
  repeat' (with_reducible first | refine x_ops ?_ | refine wk ?_ | ((first | refine gd1 ?_ ?_ | refine gd2 ?_ ?_ | refine gd3 ?_ ?_) <;> (first | exact @False.elim _ | intro hc)))
  refine x_loopF w_slices_Index_api_Place_api_Place_p6 (by kernel_rfl) l.length (fun k t => t 8 = vint (k : Int) ∧ ∀ i, i < k → decide (v = l.getD i (0, 0)) = false) ?_ ?_
  · exact ⟨vv, fun i h => by omega⟩
  rintro k t hk ⟨h8, hI⟩
  by_cases hlt : k < l.length
  · have g1 := pls_take hlt
    have g2 := pls_len l
    have c2 : (k : Int) < (l.length : Int) := by omega
    have c3 : k * 2 + 2 ≤ l.length * 2 := by omega
    have w2 := w_add1 (k := k) (by omega)
    have eqk := eq_pl v (l.getD k (0, 0))
    cases d : decide (v = l.getD k (0, 0))
    · rw [d] at eqk
      have dh := Hid.mk d
      clear d
      repeat' (with_reducible first | refine x_ops ?_ | refine wk ?_ | ((first | refine gd1 ?_ ?_ | refine gd2 ?_ ?_ | refine gd3 ?_ ?_) <;> (first | exact @False.elim _ | intro hc)))
      refine nf (by omega) ⟨vv, fun i h => ?_⟩ rfl
      by_cases hi : i = k
      · subst hi; exact of_decide_eq_false dh.out
      · exact of_decide_eq_false (hI i (by omega))
    · rw [d] at eqk
      have dh := Hid.mk d
      clear d
      repeat' (with_reducible first | refine x_ops ?_ | refine wk ?_ | ((first | refine gd1 ?_ ?_ | refine gd2 ?_ ?_ | refine gd3 ?_ ?_) <;> (first | exact @False.elim _ | intro hc)))
      refine finV_lit vv ?_
      rw [gIx, gI_eq (p := fun y => decide (v = y)) (d := (0, 0)) hI hlt dh.out, if_pos hlt]
  · have c1 : ¬ ((k : Int) < (l.length : Int)) := by omega
    repeat' (with_reducible first | refine x_ops ?_ | refine wk ?_ | ((first | refine gd1 ?_ ?_ | refine gd2 ?_ ?_ | refine gd3 ?_ ?_) <;> (first | exact @False.elim _ | intro hc)))
    refine finV_lit vv ?_
    have hI := fun i (h : i < l.length) => hI i (by omega)
    rw [gIx, gI_none (p := fun y => decide (v = y)) (d := (0, 0)) hI, if_neg (by omega)]
theorem contP_fn (l : List (Int × Int)) (v : Int × Int) (hl : l.length ≤ 4611686018427387904) : Fn Try.prog Gd 122 [tPs l, .agg (plE v)] (vbool (memB v l)) := by
  refine Fn.of_vx0 k_slices_Contains_api_Place_api_Place (by simp) (by rw [V.pures, pure_tPs]; rfl) ?_
  have h1 := indexP_fn l v hl
  have h2 := gIx_ge (p := fun y => decide (v = y)) (l := l)
  generalize gIx (fun y => decide (v = y)) l = gx at h1 h2
  unfold plE at h1
  unfold c_slices_Contains_api_Place_api_Place plE memB
  repeat' (with_reducible first | refine x_ops ?_ | refine wk ?_ | (with_reducible refine xc (h1) ?_) | ((first | refine gd1 ?_ ?_ | refine gd2 ?_ ?_ | refine gd3 ?_ ?_) <;> (first | exact @False.elim _ | intro hc)))
  exact finV_lit vv (by rw [← h2])
theorem step1_fn (m : List (Int × Int)) (hl : m.length ≤ 4611686018427387904) (x : Int × Int) : Fn Try.prog Gd 121 [.agg (plE x), .ept [.sl m.length (m.flatMap plE) .no] 0] (vbool (memB x m)) := by
  refine Fn.of_vx0 k_hand_step_1 (by simp) rfl ?_
  have h1 := contP_fn m x hl
  rw [show plE x = [vint x.1, vint x.2] from rfl] at h1 ⊢
  unfold c_hand_step_1
  unfold tPs at h1
  repeat' (with_reducible first | refine x_ops ?_ | refine wk ?_ | (with_reducible refine xc (h1) ?_) | ((first | refine gd1 ?_ ?_ | refine gd2 ?_ ?_ | refine gd3 ?_ ?_) <;> (first | exact @False.elim _ | intro hc)))
  exact finV_lit vv rfl
theorem call_step1 : callable Try.prog 121 = true := by kernel_rfl

/-- Held courses keep their fingers. -/
def HeldOk (a : Chord) (g : Grip) (b : Chord) (k : Grip) : Prop := ∀ q, q < b.held.length → g.fingers.getD (fI a.down (b.held.getD q 0)) 0 = k.fingers.getD (fI b.down (b.held.getD q 0)) 0
/-- The slide of the finger number f + 1. -/
def slT (h : Hand) (a : Chord) (g : Grip) (b : Chord) (k : Grip) (f : Nat) : Int :=
  if 0 < (plF a g f).length ∧ 0 < (plF b k f).length ∧ cmnB (plF a g f) (plF b k f) = false then h.slide else 0
def slU (h : Hand) (a : Chord) (g : Grip) (b : Chord) (k : Grip) : Nat → Int
  | 0 => 0
  | f + 1 => slU h a g b k f + slT h a g b k f
def bothD (a b : Chord) : Prop := 0 < a.down.length ∧ 0 < b.down.length
instance (a b : Chord) : Decidable (bothD a b) := by unfold bothD; infer_instance
/-- Is there a step? -/
def StepOk (h : Hand) (a : Chord) (g : Grip) (b : Chord) (k : Grip) : Prop := HeldOk a g b k ∧ ¬ (bothD a b ∧ h.jump < dist g.pos k.pos)
/-- Its cost. -/
def stepC (h : Hand) (a : Chord) (g : Grip) (b : Chord) (k : Grip) : Int :=
  h.shift * dist g.pos k.pos + (if bothD a b ∧ 0 < dist g.pos k.pos then h.lift else 0) + (if bothD a b then slU h a g b k h.low.length else 0)
noncomputable def stepR (h : Hand) (a : Chord) (g : Grip) (b : Chord) (k : Grip) : Int × Bool :=
  if @decide (StepOk h a g b k) (Classical.propDecidable _) = true then (stepC h a g b k, true) else (0, false)
theorem stepR_ok {h : Hand} {a b : Chord} {g k : Grip} (hs : StepOk h a g b k) : stepR h a g b k = (stepC h a g b k, true) := by rw [stepR, if_pos (by simp [hs])]
theorem stepR_no {h : Hand} {a b : Chord} {g k : Grip} (hs : ¬ StepOk h a g b k) : stepR h a g b k = (0, false) := by rw [stepR, if_neg (by simp [hs])]
theorem fol_found {a b : Chord} (hb : ChordOk b) (hf : Fol a b) {q : Nat} (hq : q < b.held.length) : fI a.down (b.held.getD q 0) < a.down.length := by
  rcases Nat.lt_or_ge (fI a.down (b.held.getD q 0)) a.down.length with h1 | h1
  · exact h1
  · have h2 := hf q hq
    rw [plA_none (by omega)] at h2
    have h3 := hb.held q hq
    have h4 := (hb.each _ h3).1.1
    have h5 : (0 : Int) = (plA b.down (b.held.getD q 0)).1 := by rw [← h2]
    have h6 : (plA b.down (b.held.getD q 0)).1 = (b.down.getD (fI b.down (b.held.getD q 0)) (0, 0)).1 := rfl
    omega
theorem slU_bound {h : Hand} (hk : HandOk h) {a b : Chord} {g k : Grip} : ∀ {f : Nat}, 0 ≤ slU h a g b k f ∧ slU h a g b k f ≤ 1000 * f
  | 0 => by rw [slU]; omega
  | f + 1 => by
    have h1 := slU_bound hk (a := a) (b := b) (g := g) (k := k) (f := f)
    have h2 := hk.slide
    rw [slU, slT]
    split <;> omega

set_option maxHeartbeats 4000000 in
theorem step_fn (h : Hand) (hk : HandOk h) (a b : Chord) (ha : ChordOk a) (hb : ChordOk b) (hfol : Fol a b) (fa : FitC a) (fb : FitC b) (g k : Grip) (lg : g.fingers.length = a.down.length) (lk : k.fingers.length = b.down.length)
    (pg : 1 ≤ g.pos ∧ g.pos ≤ 18) (pk : 1 ≤ k.pos ∧ k.pos ≤ 18) : Fn Try.prog Gd 83 [h.val, a.val, g.val, b.val, k.val] (.tup [vint (stepR h a g b k).1, vbool (stepR h a g b k).2]) := by
  refine Fn.of_vx0 k_hand_step (by simp) (by rw [V.pures, pure_hand, V.pures, pure_chord, V.pures, pure_grip, V.pures, pure_chord, V.pures, pure_grip]; rfl) ?_
  have n4 := hk.n4
  have n1 := hk.n1
  have D1 := fun co => down_fn a co fa.big.1
  have D2 := fun co => down_fn b co fb.big.1
  have PL1 := fun v => places_fn a fa g lg v
  have PL2 := fun v => places_fn b fb k lk v
  have DS := distance_fn g.pos k.pos (by omega)
  have hb3 := fb.2.1
  unfold Chord.val Chord.cells at D1 D2
  unfold Chord.val Chord.cells Grip.val Grip.cells at PL1 PL2
  unfold c_hand_step Hand.val Chord.val Chord.cells Grip.val Grip.cells
  have hdd : 0 ≤ dist g.pos k.pos ∧ dist g.pos k.pos ≤ 100 := ⟨dist_le, dist_bound (by omega) (by omega)⟩
  replace lg := Hid.mk lg
  replace lk := Hid.mk lk
  replace pg := Hid.mk pg
  replace pk := Hid.mk pk
  repeat' (with_reducible first | refine x_ops ?_ | refine wk ?_ | ((first | refine gd1 ?_ ?_ | refine gd2 ?_ ?_ | refine gd3 ?_ ?_) <;> (first | exact @False.elim _ | intro hc)))
  refine x_loopF w_hand_step_p5 (by kernel_rfl) b.held.length (fun q t => t 23 = vint (q : Int) ∧ ∀ i, i < q → g.fingers.getD (fI a.down (b.held.getD i 0)) 0 = k.fingers.getD (fI b.down (b.held.getD i 0)) 0) ?_ ?_
  · exact ⟨vv, fun i h => by omega⟩
  rintro q t hq ⟨h23, hJ⟩
  by_cases hql : q < b.held.length
  · have g1 := ints_at hql
    have c2 : (q : Int) < (b.held.length : Int) := by omega
    have w2 := w_add1 (k := q) (by omega)
    have f1 := fol_found hb hfol hql
    have f2 := hb.held q hql
    have d1 : dnI a.down (b.held.getD q 0) = ((fI a.down (b.held.getD q 0) : Nat) : Int) := by rw [dnI, if_pos f1]
    have d2 : dnI b.down (b.held.getD q 0) = ((fI b.down (b.held.getD q 0) : Nat) : Int) := by rw [dnI, if_pos f2]
    have g2 := ints_at (l := g.fingers) (k := fI a.down (b.held.getD q 0)) (by rw [lg.out]; exact f1)
    have g3 := ints_at (l := k.fingers) (k := fI b.down (b.held.getD q 0)) (by rw [lk.out]; exact f2)
    have c3 : ((fI a.down (b.held.getD q 0) : Nat) : Int) < (g.fingers.length : Int) := by rw [lg.out]; omega
    have c4 : ((fI b.down (b.held.getD q 0) : Nat) : Int) < (k.fingers.length : Int) := by rw [lk.out]; omega
    clear f1 f2
    repeat' (with_reducible first | refine x_ops ?_ | refine wk ?_ | (with_reducible refine xc (D1 _) ?_) | (with_reducible refine xc (D2 _) ?_) | ((first | refine gd1 ?_ ?_ | refine gd2 ?_ ?_ | refine gd3 ?_ ?_) <;> (first | exact @False.elim _ | intro hc)))
    · rw [stepR_no (fun hs => ?_)]
      · exact finV_dry rfl vv
      · have := hs.1 q hql
        rw [this] at hc
        simp at hc
    · refine nf (by omega) ⟨vv, fun i h => ?_⟩ rfl
      by_cases hi : i = q
      · subst hi; exact eq_of_beq hc
      · exact hJ i (by omega)
  have hJ : HeldOk a g b k := fun i hi => hJ i (by omega)
  have c2 : ¬ (q : Int) < (b.held.length : Int) := by omega
  clear hql hq D1 D2
  replace hJ := Hid.mk hJ
  have hok : Hid (StepOk h a g b k ↔ ¬ (bothD a b ∧ h.jump < dist g.pos k.pos)) := ⟨⟨fun hs => hs.2, fun hs => ⟨hJ.out, hs⟩⟩⟩
  have hsc : Hid (stepC h a g b k = h.shift * dist g.pos k.pos + (if bothD a b ∧ 0 < dist g.pos k.pos then h.lift else 0) + (if bothD a b then slU h a g b k h.low.length else 0)) := ⟨rfl⟩
  have hsh := mul_bound hk.shift hdd
  have hlf := hk.lift
  generalize dist g.pos k.pos = dd at DS hok hsc hdd hsh
  have w3 : IntKind.i64.wrap (h.shift * dd) = h.shift * dd := w_in (by omega)
  have w4 : IntKind.i64.wrap (h.shift * dd + h.lift) = h.shift * dd + h.lift := w_in (by omega)
  by_cases hbo : bothD a b
  case neg =>
    have hst : StepOk h a g b k := hok.out.2 fun hh => hbo hh.1
    rw [stepR_ok hst, hsc.out, if_neg (fun hh => hbo hh.1), if_neg hbo]
    unfold bothD at hbo
    clear hst hsh hlf hdd
    by_cases h1 : 0 < a.down.length
    · have c5 : (0 : Int) < (a.down.length : Int) := by omega
      have c6 : ¬ (0 : Int) < (b.down.length : Int) := by omega
      clear hbo h1
      repeat' (with_reducible first | refine x_ops ?_ | refine wk ?_ | (with_reducible refine xc (DS) ?_) | ((first | refine gd1 ?_ ?_ | refine gd2 ?_ ?_ | refine gd3 ?_ ?_) <;> (first | exact @False.elim _ | intro hc)))
      refine x_loopF w_hand_step_p13 (by kernel_rfl) 0 (fun f t => t 17 = vint 1 ∧ t 16 = vint (h.shift * dd)) ?_ ?_
      · exact ⟨vv, vv⟩
      rintro f t2 hf ⟨h17, h16⟩
      have c7 : (1 : Int) ≤ (h.low.length : Int) := by omega
      repeat' (with_reducible first | refine x_ops ?_ | refine wk ?_ | ((first | refine gd1 ?_ ?_ | refine gd2 ?_ ?_ | refine gd3 ?_ ?_) <;> (first | exact @False.elim _ | intro hc)))
      exact finV_dry rfl (by (simp only [go_sem, Nat.reduceAdd, Nat.reduceEqDiff, Nat.reduceLT, Nat.reduceLeDiff, Nat.reduceMul, Nat.reduceSub, Nat.reducePow, Nat.reduceDiv, Nat.reduceMod, Nat.reduceBEq, Int.reduceBEq, Int.reduceLT, reduceIte, Int.add_zero, h16]); first | done | rfl)
    · have c5 : ¬ (0 : Int) < (a.down.length : Int) := by omega
      clear hbo h1
      repeat' (with_reducible first | refine x_ops ?_ | refine wk ?_ | (with_reducible refine xc (DS) ?_) | ((first | refine gd1 ?_ ?_ | refine gd2 ?_ ?_ | refine gd3 ?_ ?_) <;> (first | exact @False.elim _ | intro hc)))
      refine x_loopF w_hand_step_p13 (by kernel_rfl) 0 (fun f t => t 17 = vint 1 ∧ t 16 = vint (h.shift * dd)) ?_ ?_
      · exact ⟨vv, vv⟩
      rintro f t2 hf ⟨h17, h16⟩
      have c7 : (1 : Int) ≤ (h.low.length : Int) := by omega
      repeat' (with_reducible first | refine x_ops ?_ | refine wk ?_ | ((first | refine gd1 ?_ ?_ | refine gd2 ?_ ?_ | refine gd3 ?_ ?_) <;> (first | exact @False.elim _ | intro hc)))
      exact finV_dry rfl (by (simp only [go_sem, Nat.reduceAdd, Nat.reduceEqDiff, Nat.reduceLT, Nat.reduceLeDiff, Nat.reduceMul, Nat.reduceSub, Nat.reducePow, Nat.reduceDiv, Nat.reduceMod, Nat.reduceBEq, Int.reduceBEq, Int.reduceLT, reduceIte, Int.add_zero, h16]); first | done | rfl)
  have c5 : (0 : Int) < (a.down.length : Int) := by have := hbo.1; omega
  have c6 : (0 : Int) < (b.down.length : Int) := by have := hbo.2; omega
  by_cases hj : h.jump < dd
  · rw [stepR_no (fun hs => hok.out.1 hs ⟨hbo, hj⟩)]
    clear hsh hlf hdd hbo
    repeat' (with_reducible first | refine x_ops ?_ | refine wk ?_ | (with_reducible refine xc (DS) ?_) | ((first | refine gd1 ?_ ?_ | refine gd2 ?_ ?_ | refine gd3 ?_ ?_) <;> (first | exact @False.elim _ | intro hc)))
    exact finV_dry rfl vv
  have hst : StepOk h a g b k := hok.out.2 fun hh => hj hh.2
  rw [stepR_ok hst, hsc.out, if_pos hbo]
  obtain ⟨L, hL, hL1⟩ : ∃ L : Int, (if bothD a b ∧ 0 < dd then h.lift else 0) = L ∧ 0 ≤ L ∧ L ≤ 1000 := ⟨_, rfl, by split <;> omega⟩
  rw [hL]
  replace hL := Hid.mk hL
  replace hbo := Hid.mk hbo
  have w5 : ∀ f, f ≤ h.low.length → IntKind.i64.wrap (h.shift * dd + L + slU h a g b k f + h.slide) = h.shift * dd + L + slU h a g b k f + h.slide := fun f hf => by
    have h1 := slU_bound hk (a := a) (b := b) (g := g) (k := k) (f := f)
    have h2 := hk.slide
    exact w_in (by omega)
  replace w5 := Hid.mk w5
  have key : ∀ (s0 : St), s0.t 3 = s0.t 3 → True := fun _ _ => trivial
  have mid : Hid (h.shift * dd + (if bothD a b ∧ 0 < dd then h.lift else 0) = h.shift * dd + L) := ⟨by rw [hL.out]⟩
  clear hst hok hsc key hdd hsh hlf
  by_cases h0 : 0 < dd
  · have hLL : L = h.lift := by rw [← hL.out, if_pos ⟨hbo.out, h0⟩]
    subst hLL
    repeat' (with_reducible first | refine x_ops ?_ | refine wk ?_ | (with_reducible refine xc (DS) ?_) | ((first | refine gd1 ?_ ?_ | refine gd2 ?_ ?_ | refine gd3 ?_ ?_) <;> (first | exact @False.elim _ | intro hc)))
    refine x_loopW w_hand_step_p13 (by kernel_rfl) h.low.length (fun f t m => t 17 = vint ((f + 1 : Nat) : Int) ∧ t 16 = vint (h.shift * dd + h.lift + slU h a g b k f) ∧
      m.obj 0 = some (.box [tIs h.low, tIs h.high, tBs h.barre, vint h.top, vint h.jump, vint h.shift, vint h.lift, vint h.bar, vint h.stretch, vint h.slide] 25) ∧ m.obj 1 = some (.box [tPs a.down, tIs a.held, tIs a.opn] 47) ∧
      m.obj 2 = some (.box [vint g.pos, tIs g.fingers] 53) ∧ m.obj 3 = some (.box [tPs b.down, tIs b.held, tIs b.opn] 47) ∧ m.obj 4 = some (.box [vint k.pos, tIs k.fingers] 53) ∧ 4 < m.next) ?_ ?_
    · exact ⟨vv, by (simp only [go_sem, Nat.reduceAdd, Nat.reduceEqDiff, Nat.reduceLT, Nat.reduceLeDiff, Nat.reduceMul, Nat.reduceSub, Nat.reducePow, Nat.reduceDiv, Nat.reduceMod, Nat.reduceBEq, Int.reduceBEq, Int.reduceLT, reduceIte, slU, Int.add_zero]); first | done | rfl, vv, vv, vv, vv, vv, by ((refine ve ?_; try exact True.intro)); try omega⟩
    rintro f t2 m hf ⟨h17, h16, m0, m1, m2, m3, m4, hn⟩
    have hn0 : 0 < m.next := by omega
    have hn1 : 1 < m.next := by omega
    have hn2 : 2 < m.next := by omega
    have hn3 : 3 < m.next := by omega
    by_cases hfl : f < h.low.length
    · have c7 : ((f + 1 : Nat) : Int) ≤ (h.low.length : Int) := by omega
      have w7 : IntKind.i64.wrap (((f + 1 : Nat) : Int) + 1) = ((f + 1 + 1 : Nat) : Int) := w_add1 (by omega)
      have w8 : IntKind.i64.wrap (h.shift * dd + h.lift + slU h a g b k f + h.slide) = h.shift * dd + h.lift + slU h a g b k f + h.slide := w5.out f (by omega)
      have P1 := PL1 ((f + 1 : Nat) : Int)
      have P2 := PL2 ((f + 1 : Nat) : Int)
      have eP1 : plU a.down g.fingers ((f + 1 : Nat) : Int) a.down.length = plF a g f := rfl
      have eP2 : plU b.down k.fingers ((f + 1 : Nat) : Int) b.down.length = plF b k f := rfl
      rw [eP1] at P1
      rw [eP2] at P2
      have hU : slU h a g b k (f + 1) = slU h a g b k f + slT h a g b k f := rfl
      have hT : slT h a g b k f = if 0 < (plF a g f).length ∧ 0 < (plF b k f).length ∧ cmnB (plF a g f) (plF b k f) = false then h.slide else 0 := rfl
      have l1 := plU_len a.down g.fingers ((f + 1 : Nat) : Int) a.down.length
      have l2 := plU_len b.down k.fingers ((f + 1 : Nat) : Int) b.down.length
      rw [eP1] at l1
      rw [eP2] at l2
      have fa1 := fa.1
      have fb1 := fb.1
      have CP : Fn Try.prog Gd 120 [tPs (plF a g f), .fn 121 [.ept [.sl (plF b k f).length ((plF b k f).flatMap plE) .no] 0]] (vbool (cmnB (plF a g f) (plF b k f))) :=
        containsP_fn (plF a g f) (fun x => memB x (plF b k f)) call_step1 rfl rfl (step1_fn (plF b k f) (by omega)) (by omega)
      clear eP1 eP2 l1 l2 fa1 fb1 PL1 PL2 w5
      generalize hu : slU h a g b k f = u at *
      generalize hu2 : slU h a g b k (f + 1) = u2 at *
      generalize hc1 : cmnB (plF a g f) (plF b k f) = cc at *
      replace hu := Hid.mk hu
      replace hu2 := Hid.mk hu2
      replace hc1 := Hid.mk hc1
      have zero : ¬ (0 < (plF a g f).length ∧ 0 < (plF b k f).length ∧ cc = false) → u2 = u := fun hh => by rw [if_neg hh] at hT; rw [hU, hT]; omega
      have some' : (0 < (plF a g f).length ∧ 0 < (plF b k f).length ∧ cc = false) → u2 = u + h.slide := fun hh => by rw [if_pos hh] at hT; rw [hU, hT]
      replace zero := Hid.mk zero
      replace some' := Hid.mk some'
      clear hU hT
      by_cases z1 : 0 < (plF a g f).length
      · have z1' : (0 : Int) < ((plF a g f).length : Int) := by omega
        by_cases z2 : 0 < (plF b k f).length
        · have z2' : (0 : Int) < ((plF b k f).length : Int) := by omega
          repeat' (with_reducible first | refine x_ops ?_ | refine wk ?_ | (with_reducible refine xc (P1) ?_) | (with_reducible refine xc (P2) ?_) | ((first | refine gd1 ?_ ?_ | refine gd2 ?_ ?_ | refine gd3 ?_ ?_) <;> (first | exact @False.elim _ | intro hc)))
          refine x_lend allS CP rfl ?_ ?_
          · (simp only [go_sem, Nat.reduceAdd, Nat.reduceEqDiff, Nat.reduceLT, Nat.reduceLeDiff, Nat.reduceMul, Nat.reduceSub, Nat.reducePow, Nat.reduceDiv, Nat.reduceMod, Nat.reduceBEq, Int.reduceBEq, Int.reduceLT, reduceIte, V.norms, V.norm, tIs, tBs, tPs, *])
            exact .cons (.sl _ _ _) (.cons (.fn (.cons (.ptr rfl vw (.cons (.sl _ _ _) .nil) rfl) .nil)) .nil)
          cases cc
          · have e2 := some'.out ⟨z1, z2, rfl⟩
            replace e2 := Hid.mk e2
            repeat' (with_reducible first | refine x_ops ?_ | refine wk ?_ | ((first | refine gd1 ?_ ?_ | refine gd2 ?_ ?_ | refine gd3 ?_ ?_) <;> (first | exact @False.elim _ | intro hc)))
            refine nx (by omega) ⟨vv, by rw [hu2.out, e2.out, ← Int.add_assoc]; exact vv, ?_, ?_, ?_, ?_, ?_, by ((refine ve ?_; try exact True.intro)); omega⟩
            · exact vw
            · exact vw
            · exact vw
            · exact vw
            · exact vw
          · have e2 := zero.out (fun hh => by cases hh.2.2)
            replace e2 := Hid.mk e2
            repeat' (with_reducible first | refine x_ops ?_ | refine wk ?_ | ((first | refine gd1 ?_ ?_ | refine gd2 ?_ ?_ | refine gd3 ?_ ?_) <;> (first | exact @False.elim _ | intro hc)))
            refine nx (by omega) ⟨vv, by rw [hu2.out, e2.out]; exact vw, ?_, ?_, ?_, ?_, ?_, by ((refine ve ?_; try exact True.intro)); omega⟩
            · exact vw
            · exact vw
            · exact vw
            · exact vw
            · exact vw
        · have z2' : ¬ (0 : Int) < ((plF b k f).length : Int) := by omega
          have e2 := zero.out (fun hh => z2 hh.2.1)
          replace e2 := Hid.mk e2
          repeat' (with_reducible first | refine x_ops ?_ | refine wk ?_ | (with_reducible refine xc (P1) ?_) | (with_reducible refine xc (P2) ?_) | ((first | refine gd1 ?_ ?_ | refine gd2 ?_ ?_ | refine gd3 ?_ ?_) <;> (first | exact @False.elim _ | intro hc)))
          refine nx (by omega) ⟨vv, by rw [hu2.out, e2.out]; exact vw, ?_, ?_, ?_, ?_, ?_, by ((refine ve ?_; try exact True.intro)); omega⟩
          · exact vw
          · exact vw
          · exact vw
          · exact vw
          · exact vw
      · have z1' : ¬ (0 : Int) < ((plF a g f).length : Int) := by omega
        have e2 := zero.out (fun hh => z1 hh.1)
        replace e2 := Hid.mk e2
        repeat' (with_reducible first | refine x_ops ?_ | refine wk ?_ | (with_reducible refine xc (P1) ?_) | (with_reducible refine xc (P2) ?_) | ((first | refine gd1 ?_ ?_ | refine gd2 ?_ ?_ | refine gd3 ?_ ?_) <;> (first | exact @False.elim _ | intro hc)))
        refine nx (by omega) ⟨vv, by rw [hu2.out, e2.out]; exact vw, ?_, ?_, ?_, ?_, ?_, by ((refine ve ?_; try exact True.intro)); omega⟩
        · exact vw
        · exact vw
        · exact vw
        · exact vw
        · exact vw
    · have hfe : f = h.low.length := by omega
      subst hfe
      have c7 : ¬ ((h.low.length + 1 : Nat) : Int) ≤ (h.low.length : Int) := by omega
      repeat' (with_reducible first | refine x_ops ?_ | refine wk ?_ | ((first | refine gd1 ?_ ?_ | refine gd2 ?_ ?_ | refine gd3 ?_ ?_) <;> (first | exact @False.elim _ | intro hc)))
      exact finV_dry rfl vv
  · have hLL : L = 0 := by rw [← hL.out, if_neg fun hh => h0 hh.2]
    subst hLL
    rw [Int.add_zero]
    repeat' (with_reducible first | refine x_ops ?_ | refine wk ?_ | (with_reducible refine xc (DS) ?_) | ((first | refine gd1 ?_ ?_ | refine gd2 ?_ ?_ | refine gd3 ?_ ?_) <;> (first | exact @False.elim _ | intro hc)))
    refine x_loopW w_hand_step_p13 (by kernel_rfl) h.low.length (fun f t m => t 17 = vint ((f + 1 : Nat) : Int) ∧ t 16 = vint (h.shift * dd + slU h a g b k f) ∧
      m.obj 0 = some (.box [tIs h.low, tIs h.high, tBs h.barre, vint h.top, vint h.jump, vint h.shift, vint h.lift, vint h.bar, vint h.stretch, vint h.slide] 25) ∧ m.obj 1 = some (.box [tPs a.down, tIs a.held, tIs a.opn] 47) ∧
      m.obj 2 = some (.box [vint g.pos, tIs g.fingers] 53) ∧ m.obj 3 = some (.box [tPs b.down, tIs b.held, tIs b.opn] 47) ∧ m.obj 4 = some (.box [vint k.pos, tIs k.fingers] 53) ∧ 4 < m.next) ?_ ?_
    · exact ⟨vv, by (simp only [go_sem, Nat.reduceAdd, Nat.reduceEqDiff, Nat.reduceLT, Nat.reduceLeDiff, Nat.reduceMul, Nat.reduceSub, Nat.reducePow, Nat.reduceDiv, Nat.reduceMod, Nat.reduceBEq, Int.reduceBEq, Int.reduceLT, reduceIte, slU, Int.add_zero]); first | done | rfl, vv, vv, vv, vv, vv, by ((refine ve ?_; try exact True.intro)); try omega⟩
    rintro f t2 m hf ⟨h17, h16, m0, m1, m2, m3, m4, hn⟩
    have hn0 : 0 < m.next := by omega
    have hn1 : 1 < m.next := by omega
    have hn2 : 2 < m.next := by omega
    have hn3 : 3 < m.next := by omega
    by_cases hfl : f < h.low.length
    · have c7 : ((f + 1 : Nat) : Int) ≤ (h.low.length : Int) := by omega
      have w7 : IntKind.i64.wrap (((f + 1 : Nat) : Int) + 1) = ((f + 1 + 1 : Nat) : Int) := w_add1 (by omega)
      have w8 : IntKind.i64.wrap (h.shift * dd + slU h a g b k f + h.slide) = h.shift * dd + slU h a g b k f + h.slide := by have := w5.out f (by omega); rwa [Int.add_zero] at this
      have P1 := PL1 ((f + 1 : Nat) : Int)
      have P2 := PL2 ((f + 1 : Nat) : Int)
      have eP1 : plU a.down g.fingers ((f + 1 : Nat) : Int) a.down.length = plF a g f := rfl
      have eP2 : plU b.down k.fingers ((f + 1 : Nat) : Int) b.down.length = plF b k f := rfl
      rw [eP1] at P1
      rw [eP2] at P2
      have hU : slU h a g b k (f + 1) = slU h a g b k f + slT h a g b k f := rfl
      have hT : slT h a g b k f = if 0 < (plF a g f).length ∧ 0 < (plF b k f).length ∧ cmnB (plF a g f) (plF b k f) = false then h.slide else 0 := rfl
      have l1 := plU_len a.down g.fingers ((f + 1 : Nat) : Int) a.down.length
      have l2 := plU_len b.down k.fingers ((f + 1 : Nat) : Int) b.down.length
      rw [eP1] at l1
      rw [eP2] at l2
      have fa1 := fa.1
      have fb1 := fb.1
      have CP : Fn Try.prog Gd 120 [tPs (plF a g f), .fn 121 [.ept [.sl (plF b k f).length ((plF b k f).flatMap plE) .no] 0]] (vbool (cmnB (plF a g f) (plF b k f))) :=
        containsP_fn (plF a g f) (fun x => memB x (plF b k f)) call_step1 rfl rfl (step1_fn (plF b k f) (by omega)) (by omega)
      clear eP1 eP2 l1 l2 fa1 fb1 PL1 PL2 w5
      generalize hu : slU h a g b k f = u at *
      generalize hu2 : slU h a g b k (f + 1) = u2 at *
      generalize hc1 : cmnB (plF a g f) (plF b k f) = cc at *
      replace hu := Hid.mk hu
      replace hu2 := Hid.mk hu2
      replace hc1 := Hid.mk hc1
      have zero : ¬ (0 < (plF a g f).length ∧ 0 < (plF b k f).length ∧ cc = false) → u2 = u := fun hh => by rw [if_neg hh] at hT; rw [hU, hT]; omega
      have some' : (0 < (plF a g f).length ∧ 0 < (plF b k f).length ∧ cc = false) → u2 = u + h.slide := fun hh => by rw [if_pos hh] at hT; rw [hU, hT]
      replace zero := Hid.mk zero
      replace some' := Hid.mk some'
      clear hU hT
      by_cases z1 : 0 < (plF a g f).length
      · have z1' : (0 : Int) < ((plF a g f).length : Int) := by omega
        by_cases z2 : 0 < (plF b k f).length
        · have z2' : (0 : Int) < ((plF b k f).length : Int) := by omega
          repeat' (with_reducible first | refine x_ops ?_ | refine wk ?_ | (with_reducible refine xc (P1) ?_) | (with_reducible refine xc (P2) ?_) | ((first | refine gd1 ?_ ?_ | refine gd2 ?_ ?_ | refine gd3 ?_ ?_) <;> (first | exact @False.elim _ | intro hc)))
          refine x_lend allS CP rfl ?_ ?_
          · (simp only [go_sem, Nat.reduceAdd, Nat.reduceEqDiff, Nat.reduceLT, Nat.reduceLeDiff, Nat.reduceMul, Nat.reduceSub, Nat.reducePow, Nat.reduceDiv, Nat.reduceMod, Nat.reduceBEq, Int.reduceBEq, Int.reduceLT, reduceIte, V.norms, V.norm, tIs, tBs, tPs, *])
            exact .cons (.sl _ _ _) (.cons (.fn (.cons (.ptr rfl vw (.cons (.sl _ _ _) .nil) rfl) .nil)) .nil)
          cases cc
          · have e2 := some'.out ⟨z1, z2, rfl⟩
            replace e2 := Hid.mk e2
            repeat' (with_reducible first | refine x_ops ?_ | refine wk ?_ | ((first | refine gd1 ?_ ?_ | refine gd2 ?_ ?_ | refine gd3 ?_ ?_) <;> (first | exact @False.elim _ | intro hc)))
            refine nx (by omega) ⟨vv, by rw [hu2.out, e2.out, ← Int.add_assoc]; exact vv, ?_, ?_, ?_, ?_, ?_, by ((refine ve ?_; try exact True.intro)); omega⟩
            · exact vw
            · exact vw
            · exact vw
            · exact vw
            · exact vw
          · have e2 := zero.out (fun hh => by cases hh.2.2)
            replace e2 := Hid.mk e2
            repeat' (with_reducible first | refine x_ops ?_ | refine wk ?_ | ((first | refine gd1 ?_ ?_ | refine gd2 ?_ ?_ | refine gd3 ?_ ?_) <;> (first | exact @False.elim _ | intro hc)))
            refine nx (by omega) ⟨vv, by rw [hu2.out, e2.out]; exact vw, ?_, ?_, ?_, ?_, ?_, by ((refine ve ?_; try exact True.intro)); omega⟩
            · exact vw
            · exact vw
            · exact vw
            · exact vw
            · exact vw
        · have z2' : ¬ (0 : Int) < ((plF b k f).length : Int) := by omega
          have e2 := zero.out (fun hh => z2 hh.2.1)
          replace e2 := Hid.mk e2
          repeat' (with_reducible first | refine x_ops ?_ | refine wk ?_ | (with_reducible refine xc (P1) ?_) | (with_reducible refine xc (P2) ?_) | ((first | refine gd1 ?_ ?_ | refine gd2 ?_ ?_ | refine gd3 ?_ ?_) <;> (first | exact @False.elim _ | intro hc)))
          refine nx (by omega) ⟨vv, by rw [hu2.out, e2.out]; exact vw, ?_, ?_, ?_, ?_, ?_, by ((refine ve ?_; try exact True.intro)); omega⟩
          · exact vw
          · exact vw
          · exact vw
          · exact vw
          · exact vw
      · have z1' : ¬ (0 : Int) < ((plF a g f).length : Int) := by omega
        have e2 := zero.out (fun hh => z1 hh.1)
        replace e2 := Hid.mk e2
        repeat' (with_reducible first | refine x_ops ?_ | refine wk ?_ | (with_reducible refine xc (P1) ?_) | (with_reducible refine xc (P2) ?_) | ((first | refine gd1 ?_ ?_ | refine gd2 ?_ ?_ | refine gd3 ?_ ?_) <;> (first | exact @False.elim _ | intro hc)))
        refine nx (by omega) ⟨vv, by rw [hu2.out, e2.out]; exact vw, ?_, ?_, ?_, ?_, ?_, by ((refine ve ?_; try exact True.intro)); omega⟩
        · exact vw
        · exact vw
        · exact vw
        · exact vw
        · exact vw
    · have hfe : f = h.low.length := by omega
      subst hfe
      have c7 : ¬ ((h.low.length + 1 : Nat) : Int) ≤ (h.low.length : Int) := by omega
      repeat' (with_reducible first | refine x_ops ?_ | refine wk ?_ | ((first | refine gd1 ?_ ?_ | refine gd2 ?_ ?_ | refine gd3 ?_ ?_) <;> (first | exact @False.elim _ | intro hc)))
      exact finV_dry rfl vv
end Go.Proofs.Ytojjdkoglhecbaa
