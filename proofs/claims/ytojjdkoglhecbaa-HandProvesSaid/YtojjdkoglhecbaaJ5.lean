/- Fits of the reference, on values; and that both say the same. -/
import Derived.Test.YtojjdkoglhecbaaJ4
namespace Go.Proofs.Ytojjdkoglhecbaa
open Go.RowKit
set_option linter.unusedSimpArgs false
set_option linter.unusedVariables false

def rrchB (h : Hand) (pos v fret : Int) : Bool := (decide (1 ≤ v) && decide (v ≤ (h.low.length : Int))) && rchB h pos (v - 1).toNat fret
set_option maxHeartbeats 1000000 in
theorem rreach_fn (h : Hand) (hk : HandOk h) (pos v fret : Int) (hp : -100 ≤ pos ∧ pos ≤ 100) (hf : -100 ≤ fret ∧ fret ≤ 100) :
    Fn Try.prog Gd 115 [h.val, vint pos, vint v, vint fret] (vbool (rrchB h pos v fret)) := by
  refine Fn.of_vx0 k_theorboref06_reach (by simp) (by rw [V.pures, pure_hand]; rfl) ?_
  unfold c_theorboref06_reach Hand.val rrchB
  by_cases hv : 1 ≤ v ∧ v ≤ h.low.length
  · obtain ⟨f, rfl⟩ : ∃ f : Nat, v = ((f + 1 : Nat) : Int) := ⟨(v - 1).toNat, by omega⟩
    have hfl : f < h.low.length := by omega
    have he := hk.each f hfl
    have hh := hk.nh
    have h4 := hk.n4
    have g1 := ints_at hfl
    have g2 := ints_at (l := h.high) (k := f) (by omega)
    have c1 : (f : Int) < (h.low.length : Int) := by omega
    have c2 : (f : Int) < (h.high.length : Int) := by omega
    have c3 : (1 : Int) ≤ ((f + 1 : Nat) : Int) := by omega
    have c4 : ((f + 1 : Nat) : Int) ≤ (h.low.length : Int) := by omega
    have w1 : IntKind.i64.wrap (((f + 1 : Nat) : Int) - 1) = (f : Int) := by rw [w_in (by omega)]; omega
    have w2 : IntKind.i64.wrap (fret - pos) = fret - pos := w_in (by omega)
    have et : (((f + 1 : Nat) : Int) - 1).toNat = f := by omega
    rw [et, rchB]
    clear hh he hp hf h4 hv et
    repeat' (with_reducible first | refine x_ops ?_ | refine wk ?_ | ((first | refine gd1 ?_ ?_ | refine gd2 ?_ ?_ | refine gd3 ?_ ?_) <;> (first | exact @False.elim _ | intro hc)))
    all_goals refine finV_lit vv ?_
    · congr 1
      rw [show decide (pos + h.low.getD f 0 ≤ fret) = true by rw [decide_eq_true_eq]; omega]
      simp only [Bool.true_and]
      congr 1
      rw [eq_iff_iff]; omega
    · congr 1
      rw [show decide (pos + h.low.getD f 0 ≤ fret) = false by rw [decide_eq_false_iff_not]; omega]
      rfl
  · have e : (decide (1 ≤ v) && decide (v ≤ (h.low.length : Int))) = false := by simp; omega
    rw [e]
    by_cases c1 : 1 ≤ v
    · have c2 : ¬ v ≤ (h.low.length : Int) := by omega
      clear hv
      repeat' (with_reducible first | refine x_ops ?_ | refine wk ?_ | ((first | refine gd1 ?_ ?_ | refine gd2 ?_ ?_ | refine gd3 ?_ ?_) <;> (first | exact @False.elim _ | intro hc)))
      exact finV_lit vv rfl
    · clear hv
      repeat' (with_reducible first | refine x_ops ?_ | refine wk ?_ | ((first | refine gd1 ?_ ?_ | refine gd2 ?_ ?_ | refine gd3 ?_ ?_) <;> (first | exact @False.elim _ | intro hc)))
      exact finV_lit vv rfl

/-- Two places, i before k, have fingers as the rules want them. -/
def AptP (h : Hand) (c : Chord) (i k : Nat) (f g : Int) : Prop :=
  ((c.down.getD i (0, 0)).2 < (c.down.getD k (0, 0)).2 → f < g) ∧ ((c.down.getD k (0, 0)).2 < (c.down.getD i (0, 0)).2 → g < f) ∧
  ((c.down.getD i (0, 0)).2 = (c.down.getD k (0, 0)).2 → (f ≠ g → g < f) ∧ (f = g → h.barre.getD (f - 1).toNat false = true ∧
    (∀ o, o < c.opn.length → ¬ ((c.down.getD i (0, 0)).1 < c.opn.getD o 0 ∧ c.opn.getD o 0 < (c.down.getD k (0, 0)).1)) ∧
    ∀ j, i ≤ j → j < k → ¬ (c.down.getD j (0, 0)).2 < (c.down.getD i (0, 0)).2))
noncomputable def aptB (h : Hand) (c : Chord) (i k : Nat) (f g : Int) : Bool := @decide (AptP h c i k f g) (Classical.propDecidable _)
theorem apt_true {h : Hand} {c : Chord} {i k : Nat} {f g : Int} : aptB h c i k f g = true ↔ AptP h c i k f g := by unfold aptB; simp
theorem apt_is {h : Hand} {c : Chord} {i k : Nat} {f g : Int} {b : Bool} (hb : b = true ↔ AptP h c i k f g) : Value.bool b = Value.bool (aptB h c i k f g) := by
  congr 1
  cases e : aptB h c i k f g
  · cases b
    · rfl
    · rw [apt_true.2 (hb.1 rfl)] at e; cases e
  · exact hb.2 (apt_true.1 e)

set_option maxHeartbeats 2000000 in
theorem rapart_fn (h : Hand) (hk : HandOk h) (c : Chord) (hf : FitC c) (i k : Nat) (hik : i < k) (hkl : k < c.down.length) (f g : Int) (hv : 1 ≤ f ∧ f ≤ h.low.length) :
    Fn Try.prog Gd 116 [h.val, c.val, vint (i : Int), vint (k : Int), vint f, vint g] (vbool (aptB h c i k f g)) := by
  refine Fn.of_vx0 k_theorboref06_apart (by simp) (by rw [V.pures, pure_hand, V.pures, pure_chord]; rfl) ?_
  have hb1 := hf.1
  have n4 := hk.n4
  have hb := hk.nb
  obtain ⟨f', rfl⟩ : ∃ q : Nat, f = ((q + 1 : Nat) : Int) := ⟨(f - 1).toNat, by omega⟩
  have hil : i < c.down.length := by omega
  have a1 := pls_take hil
  have a2 := pls_take hkl
  have g2 := pls_len c.down
  have c1 : (i : Int) < (c.down.length : Int) := by omega
  have c2 : (k : Int) < (c.down.length : Int) := by omega
  have c3 : i * 2 + 2 ≤ c.down.length * 2 := by omega
  have c4 : k * 2 + 2 ≤ c.down.length * 2 := by omega
  have gb := bools_at (l := h.barre) (k := f') (by omega)
  have cb : (f' : Int) < (h.barre.length : Int) := by omega
  have w1 : IntKind.i64.wrap (((f' + 1 : Nat) : Int) - 1) = (f' : Int) := by rw [w_in (by omega)]; omega
  have et : (((f' + 1 : Nat) : Int) - 1).toNat = f' := by omega
  have isA : Hid (∀ b : Bool, (b = true ↔ AptP h c i k ((f' + 1 : Nat) : Int) g) → Value.bool b = Value.bool (aptB h c i k ((f' + 1 : Nat) : Int) g)) := ⟨fun b hb => apt_is hb⟩
  unfold AptP at isA
  rw [et] at isA
  clear hb hv et
  generalize hpi : c.down.getD i (0, 0) = pi at *
  generalize hpk : c.down.getD k (0, 0) = pk at *
  replace hpi := Hid.mk hpi
  replace hpk := Hid.mk hpk
  replace hik := Hid.mk hik
  generalize hfin : aptB h c i k ((f' + 1 : Nat) : Int) g = R at *
  replace hfin := Hid.mk hfin
  unfold c_theorboref06_apart Hand.val Chord.val Chord.cells
  by_cases l1 : pi.2 < pk.2
  · repeat' (with_reducible first | refine x_ops ?_ | refine wk ?_ | ((first | refine gd1 ?_ ?_ | refine gd2 ?_ ?_ | refine gd3 ?_ ?_) <;> (first | exact @False.elim _ | intro hc)))
    refine finV_lit vv (isA.out _ ?_)
    rw [decide_eq_true_eq]
    exact ⟨fun h => ⟨fun _ => h, fun h' => by omega, fun h' => by omega⟩, fun h => h.1 l1⟩
  by_cases l2 : pk.2 < pi.2
  · repeat' (with_reducible first | refine x_ops ?_ | refine wk ?_ | ((first | refine gd1 ?_ ?_ | refine gd2 ?_ ?_ | refine gd3 ?_ ?_) <;> (first | exact @False.elim _ | intro hc)))
    refine finV_lit vv (isA.out _ ?_)
    rw [decide_eq_true_eq]
    exact ⟨fun h => ⟨fun h' => by omega, fun _ => h, fun h' => by omega⟩, fun h => h.2.1 l2⟩
  by_cases l3 : ((f' + 1 : Nat) : Int) = g
  case neg =>
    have e1 : (((f' + 1 : Nat) : Int) == g) = false := by simpa using l3
    repeat' (with_reducible first | refine x_ops ?_ | refine wk ?_ | ((first | refine gd1 ?_ ?_ | refine gd2 ?_ ?_ | refine gd3 ?_ ?_) <;> (first | exact @False.elim _ | intro hc)))
    refine finV_lit vv (isA.out _ ?_)
    rw [decide_eq_true_eq]
    exact ⟨fun h => ⟨fun h' => by omega, fun h' => by omega, fun _ => ⟨fun _ => h, fun h' => absurd h' l3⟩⟩, fun h => (h.2.2 (by omega)).1 l3⟩
  have e1 : (((f' + 1 : Nat) : Int) == g) = true := by simpa using l3
  have leq : pi.2 = pk.2 := by omega
  have isB : Hid (∀ b : Bool, (b = true ↔ (h.barre.getD f' false = true ∧ (∀ o, o < c.opn.length → ¬ (pi.1 < c.opn.getD o 0 ∧ c.opn.getD o 0 < pk.1)) ∧ ∀ j, i ≤ j → j < k → ¬ (c.down.getD j (0, 0)).2 < pi.2)) → Value.bool b = Value.bool R) :=
    ⟨fun b hb => isA.out b ⟨fun h => ⟨fun h' => absurd h' l1, fun h' => absurd h' l2, fun _ => ⟨fun h' => absurd l3 h', fun _ => hb.1 h⟩⟩, fun h => hb.2 ((h.2.2 leq).2 l3)⟩⟩
  clear isA l3 leq
  cases br : h.barre.getD f' false
  · repeat' (with_reducible first | refine x_ops ?_ | refine wk ?_ | ((first | refine gd1 ?_ ?_ | refine gd2 ?_ ?_ | refine gd3 ?_ ?_) <;> (first | exact @False.elim _ | intro hc)))
    refine finV_lit vv (isB.out _ ⟨fun h => (by cases h), fun h => by rw [br] at h; cases h.1⟩)
  repeat' (with_reducible first | refine x_ops ?_ | refine wk ?_ | ((first | refine gd1 ?_ ?_ | refine gd2 ?_ ?_ | refine gd3 ?_ ?_) <;> (first | exact @False.elim _ | intro hc)))
  refine x_loopF w_theorboref06_apart_p12 (by kernel_rfl) c.opn.length (fun q t => t 15 = vint (q : Int) ∧ ∀ o, o < q → ¬ (pi.1 < c.opn.getD o 0 ∧ c.opn.getD o 0 < pk.1)) ?_ ?_
  · exact ⟨vv, fun i h => by omega⟩
  rintro q t hq ⟨h15, hJ⟩
  by_cases hql : q < c.opn.length
  · have g4 := ints_at hql
    have c5 : (q : Int) < (c.opn.length : Int) := by omega
    have w3 := w_add1 (k := q) (by have := hf.2.2; omega)
    repeat' (with_reducible first | refine x_ops ?_ | refine wk ?_ | ((first | refine gd1 ?_ ?_ | refine gd2 ?_ ?_ | refine gd3 ?_ ?_) <;> (first | exact @False.elim _ | intro hc)))
    all_goals first
      | (refine nf (by omega) ⟨vv, fun j h => ?_⟩ rfl
         by_cases e : j = q
         · subst e; omega
         · exact hJ j (by omega))
      | (refine finV_lit vv (isB.out _ ⟨fun h => (by cases h), fun h => absurd ?_ (h.2.1 q hql)⟩)
         exact ⟨by omega, by omega⟩)
  have hJ := Hid.mk fun o (h : o < c.opn.length) => hJ o (by omega)
  have c5 : ¬ (q : Int) < (c.opn.length : Int) := by omega
  clear hql hq
  repeat' (with_reducible first | refine x_ops ?_ | refine wk ?_ | ((first | refine gd1 ?_ ?_ | refine gd2 ?_ ?_ | refine gd3 ?_ ?_) <;> (first | exact @False.elim _ | intro hc)))
  refine x_loopF w_theorboref06_apart_p17 (by kernel_rfl) (k - i) (fun q t => t 16 = vint ((i + q : Nat) : Int) ∧ ∀ j, i ≤ j → j < i + q → ¬ (c.down.getD j (0, 0)).2 < pi.2) ?_ ?_
  · exact ⟨vv, fun j h1 h2 => by omega⟩
  rintro p t' hp ⟨h16, hL⟩
  by_cases hpl : i + p < k
  · have g4 := pls_at1 (l := c.down) (k := i + p) (by omega)
    have c6 : ((i + p : Nat) : Int) < (c.down.length : Int) := by omega
    have c7 : ((i + p : Nat) : Int) < (k : Int) := by omega
    have w3 := w_add1 (k := i + p) (by omega)
    repeat' (with_reducible first | refine x_ops ?_ | refine wk ?_ | ((first | refine gd1 ?_ ?_ | refine gd2 ?_ ?_ | refine gd3 ?_ ?_) <;> (first | exact @False.elim _ | intro hc)))
    · refine finV_lit vv (isB.out _ ⟨fun h => (by cases h), fun h => absurd ?_ (h.2.2 (i + p) (by omega) hpl)⟩)
      omega
    · refine nf (by omega) ⟨vv, fun j h1 h2 => ?_⟩ rfl
      by_cases e : j = i + p
      · subst e; omega
      · exact hL j h1 (by omega)
  · have c7 : ¬ ((i + p : Nat) : Int) < (k : Int) := by omega
    repeat' (with_reducible first | refine x_ops ?_ | refine wk ?_ | ((first | refine gd1 ?_ ?_ | refine gd2 ?_ ?_ | refine gd3 ?_ ?_) <;> (first | exact @False.elim _ | intro hc)))
    exact finV_lit vv (isB.out _ ⟨fun _ => ⟨br, hJ.out, fun j h1 h2 => hL j h1 (by omega)⟩, fun _ => rfl⟩)
end Go.Proofs.Ytojjdkoglhecbaa
