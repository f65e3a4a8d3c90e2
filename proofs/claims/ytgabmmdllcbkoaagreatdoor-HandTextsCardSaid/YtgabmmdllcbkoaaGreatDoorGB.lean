/- Grips, and what is said of them: their values, and when two lists are the same. -/
import Derived.Test.YtgabmmdllcbkoaaGreatDoorWk
import Derived.Test.YtgabmmdllcbkoaaGreatDoorVr
import Derived.Test.YtgabmmdllcbkoaaGreatDoorP1
import Derived.Test.YtgabmmdllcbkoaaGreatDoorOp
set_option linter.unusedSimpArgs false
set_option linter.unusedVariables false
set_option maxRecDepth 100000
namespace Go.Proofs.YtgabmmdllcbkoaaGreatDoor
open Go.RowKit
set_option maxRecDepth 100000
theorem within_fn (n a b : Int) : Fn Tryz.prog Gd 12 [vint n, vint a, vint b] (vbool (decide (a ≤ n) && decide (n ≤ b))) := by
  refine Fn.of_vx0 k_hand_within (by simp) rfl ?_
  unfold c_hand_within
  repeat' (with_reducible first | refine x_ops ?_ | refine wk ?_ | ((first | refine gd1 ?_ ?_ | refine gd2 ?_ ?_ | refine gd3 ?_ ?_) <;> (first | exact @False.elim _ | intro hc)))
  all_goals refine finV_lit vv ?_
  all_goals simp only [Bool.true_and, Bool.false_and]
theorem pure_tIs (l : List Int) : (tIs l).pure = true := by rw [tIs, V.pure]; intro t h; cases h
theorem ints_at {l : List Int} {k : Nat} (h : k < l.length) : (l.map vint)[k]? = some (V.lit (.int .i64 (l.getD k 0))) := by
  rw [List.getElem?_map, List.getD_eq_getElem?_getD, List.getElem?_eq_getElem h]; rfl
theorem sameints_fn (a b : List Int) (hl : a.length ≤ 4611686018427387904) : Fn Tryz.prog Gd 19 [tIs a, tIs b] (vbool (decide (a = b))) := by
  refine Fn.of_vx0 k_theorbolaw06_SameInts (by simp) (by rw [V.pures, pure_tIs, V.pures, pure_tIs]; rfl) ?_
  unfold c_theorbolaw06_SameInts tIs
  by_cases hab : a.length = b.length
  · have hab' : ((a.length : Int) == (a.length : Int)) = true := by simp
    have hab2 := hab.symm
    clear hab
    repeat' (with_reducible first | refine x_ops ?_ | refine wk ?_ | ((first | refine gd1 ?_ ?_ | refine gd2 ?_ ?_ | refine gd3 ?_ ?_) <;> (first | exact @False.elim _ | intro hc)))
    refine x_loopF w_theorbolaw06_SameInts_p5 (by kernel_rfl) a.length (fun k t => t 5 = vint (k : Int) ∧ ∀ i, i < k → a.getD i 0 = b.getD i 0) ?_ ?_
    · exact ⟨vv, fun i h => by omega⟩
    · rintro k t hk ⟨h3, hI⟩
      by_cases hlt : k < a.length
      · have g1 := ints_at (l := a) (k := k) (by omega)
        have g2 := ints_at (l := b) (k := k) (by omega)
        have c2 : (k : Int) < (a.length : Int) := by omega
        have c3 : (k : Int) < (b.length : Int) := by omega
        have w2 := w_add1 (k := k) (by omega)
        repeat' (with_reducible first | refine x_ops ?_ | simp only [go_sem, Nat.reduceAdd, Nat.reduceEqDiff, Nat.reduceLT, Nat.reduceLeDiff, Nat.reduceMul, Nat.reduceSub, Nat.reducePow, Nat.reduceDiv, Nat.reduceMod, Nat.reduceBEq, Int.reduceBEq, Int.reduceLT, reduceIte, tIs, tBs, tPs, bne_iff_ne, *] | ((first | refine gd1 ?_ ?_ | refine gd2 ?_ ?_ | refine gd3 ?_ ?_) <;> (first | exact @False.elim _ | intro hc)))
        · refine finV_lit vv ?_
          rw [decide_eq_false]
          rintro rfl
          simp at hc
        · refine nf (by omega) ⟨vv, fun i h => ?_⟩ rfl
          by_cases hi : i = k
          · subst hi; simpa using hc
          · exact hI i (by omega)
      · have c1 : ¬ ((k : Int) < (a.length : Int)) := by omega
        repeat' (with_reducible first | refine x_ops ?_ | refine wk ?_ | ((first | refine gd1 ?_ ?_ | refine gd2 ?_ ?_ | refine gd3 ?_ ?_) <;> (first | exact @False.elim _ | intro hc)))
        refine finV_lit vv ?_
        rw [decide_eq_true]
        refine List.ext_getElem hab2.symm fun i h1 h2 => ?_
        have := hI i (by omega)
        simpa [List.getD_eq_getElem?_getD, h1, h2] using this
  · have hab' : ((a.length : Int) == (b.length : Int)) = false := by simp; omega
    repeat' (with_reducible first | refine x_ops ?_ | refine wk ?_ | ((first | refine gd1 ?_ ?_ | refine gd2 ?_ ?_ | refine gd3 ?_ ?_) <;> (first | exact @False.elim _ | intro hc)))
    refine finV_lit vv ?_
    rw [decide_eq_false]
    rintro rfl
    exact hab rfl
structure Grip where
  pos : Int
  fingers : List Int
def Grip.cells (g : Grip) : List V := [vint g.pos, tIs g.fingers]
def Grip.val (g : Grip) : V := .agg g.cells
/-- No grip. -/
def noG : Grip := ⟨0, []⟩
/-- A list of grips. -/
def tGs (l : List Grip) : V := .sl l.length (l.flatMap Grip.cells) .no
theorem pure_tGs (l : List Grip) : (tGs l).pure = true := by rw [tGs, V.pure]; intro t h; cases h
theorem gs_l (x : Grip) : x.cells.length = 2 := rfl
theorem gs_len (l : List Grip) : (l.flatMap Grip.cells).length = l.length * 2 := flat_len gs_l l
theorem gs_take {l : List Grip} {k : Nat} (h : k < l.length) : ((l.flatMap Grip.cells).drop (k * 2)).take 2 = [vint (l.getD k noG).pos, tIs (l.getD k noG).fingers] := flat_take gs_l noG h
/-- The lengths fit. -/
def FitsG (l : List Grip) : Prop := l.length ≤ 17592186044416 ∧ ∀ g ∈ l, g.fingers.length ≤ 17592186044416
theorem FitsG.at {l : List Grip} (h : FitsG l) (k : Nat) : (l.getD k noG).fingers.length ≤ 17592186044416 := by
  rw [List.getD_eq_getElem?_getD]
  rcases Nat.lt_or_ge k l.length with hk | hk
  · rw [List.getElem?_eq_getElem hk]; exact h.2 _ (List.getElem_mem hk)
  · rw [List.getElem?_eq_none hk]; decide
theorem gs_at0 {l : List Grip} {k : Nat} (h : k < l.length) : (l.flatMap Grip.cells)[k * 2]? = some (V.lit (.int .i64 (l.getD k noG).pos)) := by
  have := flat_at (j := 0) gs_l noG h (by decide); rw [Nat.add_zero] at this; rw [this]; rfl
theorem gs_at1 {l : List Grip} {k : Nat} (h : k < l.length) : (l.flatMap Grip.cells)[k * 2 + 1]? = some (tIs (l.getD k noG).fingers) := by
  rw [flat_at (j := 1) gs_l noG h (by decide)]; rfl
deriving instance DecidableEq for Grip
/-- The same grips. -/
theorem samegrips_fn (a b : List Grip) (ha : FitsG a) : Fn Tryz.prog Gd 8 [tGs a, tGs b] (vbool (decide (a = b))) := by
  refine Fn.of_vx0 k_theorbolaw06_SameGrips (by simp) (by rw [V.pures, pure_tGs, V.pures, pure_tGs]; rfl) ?_
  have hal := ha.1
  unfold c_theorbolaw06_SameGrips tGs
  by_cases hab : a.length = b.length
  case neg =>
    have hab' : ((a.length : Int) == (b.length : Int)) = false := by simp; omega
    repeat' (with_reducible first | refine x_ops ?_ | refine wk ?_ | ((first | refine gd1 ?_ ?_ | refine gd2 ?_ ?_ | refine gd3 ?_ ?_) <;> (first | exact @False.elim _ | intro hc)))
    exact finV_lit vv (by rw [decide_eq_false]; rintro rfl; exact hab rfl)
  have hab' : ((a.length : Int) == (a.length : Int)) = true := by simp
  have hab2 := hab.symm
  clear hab
  repeat' (with_reducible first | refine x_ops ?_ | refine wk ?_ | ((first | refine gd1 ?_ ?_ | refine gd2 ?_ ?_ | refine gd3 ?_ ?_) <;> (first | exact @False.elim _ | intro hc)))
  refine x_loopF w_theorbolaw06_SameGrips_p5 (by kernel_rfl) a.length (fun k t => t 5 = vint (k : Int) ∧ ∀ i, i < k → a.getD i noG = b.getD i noG) ?_ ?_
  · exact ⟨vv, fun i h => by omega⟩
  rintro k t hk ⟨h5, hI⟩
  by_cases hlt : k < a.length
  · have g1 := gs_at0 hlt
    have g2 := gs_at0 (l := b) (k := k) (by omega)
    have g3 := gs_at1 hlt
    have g4 := gs_at1 (l := b) (k := k) (by omega)
    have g5 := gs_len a
    have g6 := gs_len b
    have c2 : (k : Int) < (a.length : Int) := by omega
    have w2 := w_add1 (k := k) (by omega)
    have SI := sameints_fn (a.getD k noG).fingers (b.getD k noG).fingers (by have := ha.at k; omega)
    have hlast : Hid (a.getD k noG = b.getD k noG ↔ (a.getD k noG).pos = (b.getD k noG).pos ∧ (a.getD k noG).fingers = (b.getD k noG).fingers) := ⟨by
      constructor
      · intro e; rw [e]; exact ⟨rfl, rfl⟩
      · intro ⟨e1, e2⟩
        cases ha' : a.getD k noG; cases hb' : b.getD k noG
        rw [ha', hb'] at e1 e2; simp only at e1 e2; rw [e1, e2]⟩
    have bad : Hid (a.getD k noG ≠ b.getD k noG → decide (a = b) = false) := ⟨fun hne => by rw [decide_eq_false]; rintro rfl; exact hne rfl⟩
    by_cases hp : (a.getD k noG).pos = (b.getD k noG).pos
    · by_cases hq : (a.getD k noG).fingers = (b.getD k noG).fingers
      · rw [decide_eq_true hq] at SI
        have hgood := Hid.mk (hlast.out.2 ⟨hp, hq⟩)
        have hp' : ((a.getD k noG).pos == (b.getD k noG).pos) = true := by rw [hp]; simp
        clear hp hq
        repeat' (with_reducible first | refine x_ops ?_ | refine wk ?_ | (with_reducible refine xc (SI) ?_) | ((first | refine gd1 ?_ ?_ | refine gd2 ?_ ?_ | refine gd3 ?_ ?_) <;> (first | exact @False.elim _ | intro hc)))
        refine nf (by omega) ⟨vv, fun i h => ?_⟩ rfl
        by_cases hi : i = k
        · subst hi; exact hgood.out
        · exact hI i (by omega)
      · rw [decide_eq_false hq] at SI
        have hp' : ((a.getD k noG).pos == (b.getD k noG).pos) = true := by rw [hp]; simp
        have hb := Hid.mk (bad.out fun e => hq (hlast.out.1 e).2)
        clear hp hq
        repeat' (with_reducible first | refine x_ops ?_ | refine wk ?_ | (with_reducible refine xc (SI) ?_) | ((first | refine gd1 ?_ ?_ | refine gd2 ?_ ?_ | refine gd3 ?_ ?_) <;> (first | exact @False.elim _ | intro hc)))
        exact finV_lit vv (by rw [hb.out])
    · have hp' : ((a.getD k noG).pos == (b.getD k noG).pos) = false := by simpa using hp
      have hb := Hid.mk (bad.out fun e => hp (hlast.out.1 e).1)
      clear hp
      repeat' (with_reducible first | refine x_ops ?_ | refine wk ?_ | (with_reducible refine xc (SI) ?_) | ((first | refine gd1 ?_ ?_ | refine gd2 ?_ ?_ | refine gd3 ?_ ?_) <;> (first | exact @False.elim _ | intro hc)))
      exact finV_lit vv (by rw [hb.out])
  · have c1 : ¬ ((k : Int) < (a.length : Int)) := by omega
    repeat' (with_reducible first | refine x_ops ?_ | refine wk ?_ | ((first | refine gd1 ?_ ?_ | refine gd2 ?_ ?_ | refine gd3 ?_ ?_) <;> (first | exact @False.elim _ | intro hc)))
    refine finV_lit vv ?_
    rw [decide_eq_true]
    refine List.ext_getElem hab2.symm fun i h1 h2 => ?_
    have := hI i (by omega)
    simpa [List.getD_eq_getElem?_getD, h1, h2] using this
end Go.Proofs.YtgabmmdllcbkoaaGreatDoor
namespace Go.Proofs.YtgabmmdllcbkoaaGreatDoor
open Go.ChangeShapes Go.WideShapes Go.ChangeAt Go.RowKit
set_option maxRecDepth 100000
/-! ### Data of the hand's types -/
theorem dt_one {t : Ty} {b : Nat} {d : Dt} (h : d.ok (.sl t b)) : d.cells = [d.val] := by
  cases d <;> first | (rw [Dt.cells, Dt.val]; done) | (simp [Dt.ok] at h)
theorem dt_int {d : Dt} (h : d.ok .int) : ∃ n : Int, d.cells = [vint n] ∧ -9223372036854775808 ≤ n ∧ n ≤ 9223372036854775807 := by
  cases d <;> first | (rw [Dt.ok] at h; exact ⟨_, by rw [Dt.cells], h⟩) | (simp [Dt.ok] at h)
theorem dt_list {α : Type} {t : Ty} {b : Nat} {d : Dt} {enc : α → List V} {Q : α → Prop} (h : d.ok (.sl t b)) (hdec : ∀ d : Dt, d.ok t → ∃ a, d.cells = enc a ∧ Q a) :
    ∃ l : List α, d.cells = [.sl l.length (l.flatMap enc) .no] ∧ l.length * b ≤ 140737488351232 ∧ ∀ a ∈ l, Q a := by
  cases d with
  | sl l =>
    rw [Dt.ok] at h
    obtain ⟨hb, he⟩ := h
    have gen : ∀ l : List Dt, (∀ d ∈ l, d.ok t) → ∃ xs : List α, xs.length = l.length ∧ Dt.cellsL l = xs.flatMap enc ∧ ∀ a ∈ xs, Q a := by
      intro l
      induction l with
      | nil => intro _; exact ⟨[], rfl, by rw [Dt.cellsL]; rfl, fun a ha => by cases ha⟩
      | cons d l ih =>
        intro he
        obtain ⟨a, h1, h2⟩ := hdec d (he d (List.mem_cons_self ..))
        obtain ⟨xs, h3, h4, h5⟩ := ih fun d hd => he d (List.mem_cons_of_mem _ hd)
        refine ⟨a :: xs, by simp [h3], by rw [Dt.cellsL, h1, h4]; rfl, fun x hx => ?_⟩
        rcases List.mem_cons.1 hx with rfl | hx
        · exact h2
        · exact h5 x hx
    obtain ⟨xs, h1, h2, h3⟩ := gen l he
    exact ⟨xs, by rw [Dt.cells, h2, h1], by rw [h1]; exact hb, h3⟩
  | _ => simp [Dt.ok] at h
theorem flat_vint (l : List Int) : l.flatMap (fun n => [vint n]) = l.map vint := by
  induction l with
  | nil => rfl
  | cons a l ih => rw [List.flatMap_cons, ih]; rfl
theorem dt_ints {b : Nat} {d : Dt} (h : d.ok (.sl .int b)) : ∃ l : List Int, d.cells = [tIs l] ∧ l.length * b ≤ 140737488351232 ∧ ∀ a ∈ l, -9223372036854775808 ≤ a ∧ a ≤ 9223372036854775807 := by
  obtain ⟨l, h1, h2⟩ := dt_list (enc := fun n : Int => [vint n]) h fun d hd => dt_int hd
  rw [flat_vint] at h1
  exact ⟨l, h1, h2⟩
theorem oks_cons {t : Ty} {ts : List Ty} {l : List Dt} (h : Dt.oks (t :: ts) l) : ∃ d r, l = d :: r ∧ d.ok t ∧ Dt.oks ts r ∧ Dt.cellsL l = d.cells ++ Dt.cellsL r := by
  cases l with
  | nil => simp [Dt.oks] at h
  | cons d r => rw [Dt.oks] at h; exact ⟨d, r, rfl, h.1, h.2, by rw [Dt.cellsL]⟩
theorem oks_nil {l : List Dt} (h : Dt.oks [] l) : Dt.cellsL l = [] := by
  cases l with
  | nil => rw [Dt.cellsL]
  | cons d r => simp [Dt.oks] at h
theorem ok_st {ts : List Ty} {d : Dt} (h : d.ok (.st ts)) : ∃ l, d = .st l ∧ Dt.oks ts l ∧ d.cells = Dt.cellsL l ∧ d.val = .agg (Dt.cellsL l) := by
  cases d with
  | st l => rw [Dt.ok] at h; exact ⟨l, rfl, h, by rw [Dt.cells], by rw [Dt.val]⟩
  | _ => simp [Dt.ok] at h
/-! ### A law's call -/
section
variable {H : Type} {enc : TypeId × Value → H}
end
end Go.Proofs.YtgabmmdllcbkoaaGreatDoor
namespace Go.Proofs.YtgabmmdllcbkoaaGreatDoor
open Go.ChangeShapes Go.WideShapes Go.ChangeAt Go.RowKit
set_option maxRecDepth 100000
def tyGrip : Ty := .st [.int, .sl .int 8]
theorem dt_grip {d : Dt} (h : d.ok tyGrip) : ∃ g : Grip, d.cells = g.cells ∧ g.fingers.length ≤ 17592186044416 := by
  obtain ⟨l, _, h1, hc, _⟩ := ok_st h
  obtain ⟨d1, r1, rfl, k1, h2, e1⟩ := oks_cons h1
  obtain ⟨d2, r2, rfl, k2, h3, e2⟩ := oks_cons h2
  obtain ⟨a, ea, _⟩ := dt_int k1
  obtain ⟨b, eb, rb, _⟩ := dt_ints k2
  exact ⟨⟨a, b⟩, by rw [hc, e1, e2, oks_nil h3, ea, eb]; rfl, by show b.length ≤ _; omega⟩
end Go.Proofs.YtgabmmdllcbkoaaGreatDoor
namespace Go.Proofs.YtgabmmdllcbkoaaGreatDoor
open Go.ChangeShapes Go.WideShapes Go.ChangeAt Go.RowKit
set_option maxRecDepth 100000
theorem dt_gripsC {b : Nat} {d : Dt} (hb : 8 ≤ b) (h : d.ok (.sl tyGrip b)) : ∃ l : List Grip, d.cells = [tGs l] ∧ FitsG l := by
  obtain ⟨l, h1, h2, h3⟩ := dt_list (enc := Grip.cells) h fun _ hd => dt_grip hd
  exact ⟨l, h1, by have := Nat.mul_le_mul_left l.length hb; omega, h3⟩
theorem dt_gripsV {d : Dt} (h : d.ok (.sl tyGrip 32)) : ∃ l : List Grip, d.val = tGs l ∧ FitsG l := by
  obtain ⟨l, h1, h2⟩ := dt_gripsC (by decide) h
  rw [dt_one h] at h1
  exact ⟨l, List.cons.inj h1 |>.1, h2⟩
end Go.Proofs.YtgabmmdllcbkoaaGreatDoor
