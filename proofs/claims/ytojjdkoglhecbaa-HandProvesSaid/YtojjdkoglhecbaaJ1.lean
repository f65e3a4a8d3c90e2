/- Small functions on fingers: reach, agree, spans' closures, searches with a function value; on values. -/
import Derived.Test.YtojjdkoglhecbaaH6
import Derived.Test.YtojjdkoglhecbaaP3
namespace Go.Proofs.Ytojjdkoglhecbaa
open Go.RowKit
set_option linter.unusedSimpArgs false
set_option linter.unusedVariables false

/-- The first that is so; how many there are, if there is none. -/
def gI {α : Type} (p : α → Bool) : List α → Nat
  | [] => 0
  | x :: l => if p x = true then 0 else gI p l + 1
section
variable {α : Type} {p : α → Bool} {d : α}
theorem gI_le (l : List α) : gI p l ≤ l.length := by
  induction l with
  | nil => exact Nat.le_refl _
  | cons x l ih => rw [gI]; split <;> simp <;> omega
theorem gI_at {l : List α} (h : gI p l < l.length) : p (l.getD (gI p l) d) = true := by
  induction l with
  | nil => simp at h
  | cons x l ih =>
    rw [gI] at h ⊢
    split
    · rename_i hp; simpa using hp
    · rename_i hp
      rw [if_neg hp] at h
      simpa using ih (by simpa using h)
theorem gI_before {l : List α} {j : Nat} (h : j < gI p l) : p (l.getD j d) = false := by
  induction l generalizing j with
  | nil => simp [gI] at h
  | cons x l ih =>
    rw [gI] at h
    split at h
    · omega
    · rename_i hp
      cases j with
      | zero => simpa using hp
      | succ j => simpa using ih (by omega)
theorem gI_eq {l : List α} {k : Nat} (h : ∀ j, j < k → p (l.getD j d) = false) (hk : k < l.length) (hc : p (l.getD k d) = true) : gI p l = k := by
  rcases Nat.lt_trichotomy (gI p l) k with h1 | h1 | h1
  · have := h _ h1; rw [gI_at (p := p) (l := l) (d := d) (by omega)] at this; cases this
  · exact h1
  · rw [gI_before h1] at hc; cases hc
theorem gI_none {l : List α} (h : ∀ j, j < l.length → p (l.getD j d) = false) : gI p l = l.length := by
  rcases Nat.lt_or_ge (gI p l) l.length with h1 | h1
  · have := h _ h1; rw [gI_at (d := d) h1] at this; cases this
  · exact Nat.le_antisymm (gI_le l) h1
theorem gI_lt (d : α) {l : List α} : gI p l < l.length ↔ ∃ j, j < l.length ∧ p (l.getD j d) = true := by
  constructor
  · exact fun h => ⟨_, h, gI_at h⟩
  · rintro ⟨j, hj, hc⟩
    rcases Nat.lt_or_ge (gI p l) l.length with h1 | h1
    · exact h1
    · rw [gI_before (p := p) (l := l) (j := j) (d := d) (by omega)] at hc; cases hc
end
/-- The index as the program has it. -/
def gIx {α : Type} (p : α → Bool) (l : List α) : Int := if gI p l < l.length then (gI p l : Int) else -1
theorem gIx_ge {α : Type} {p : α → Bool} {l : List α} : decide (0 ≤ gIx p l) = decide (gI p l < l.length) := by
  rw [gIx]
  split
  · rename_i h; rw [decide_eq_true h]; simp
  · rename_i h; rw [decide_eq_false h]; rfl

theorem index_fn (l : List Int) (v : Int) (hl : l.length ≤ 4611686018427387904) : Fn Try.prog Gd 92 [tIs l, vint v] (vint (gIx (fun x => v == x) l)) := by
  refine Fn.of_vx0 k_slices_Index_int_int (by simp) (by rw [V.pures, pure_tIs]; rfl) ?_
  unfold c_slices_Index_int_int
  repeat' (with_reducible first | refine x_ops ?_ | refine wk ?_ | ((first | refine gd1 ?_ ?_ | refine gd2 ?_ ?_ | refine gd3 ?_ ?_) <;> (first | exact @False.elim _ | intro hc)))
  refine x_loopF w_slices_Index_int_int_p6 (by kernel_rfl) l.length (fun k t => t 8 = vint (k : Int) ∧ ∀ i, i < k → (v == l.getD i 0) = false) ?_ ?_
  · exact ⟨vv, fun i h => by omega⟩
  rintro k t hk ⟨h8, hI⟩
  by_cases hlt : k < l.length
  · have g1 := ints_at hlt
    have c2 : (k : Int) < (l.length : Int) := by omega
    have w2 := w_add1 (k := k) (by omega)
    repeat' (with_reducible first | refine x_ops ?_ | refine wk ?_ | ((first | refine gd1 ?_ ?_ | refine gd2 ?_ ?_ | refine gd3 ?_ ?_) <;> (first | exact @False.elim _ | intro hc)))
    · refine finV_lit vv ?_
      rw [gIx, gI_eq (p := fun x => v == x) hI hlt hc, if_pos hlt]
    · refine nf (by omega) ⟨vv, fun i h => ?_⟩ rfl
      by_cases hi : i = k
      · subst hi; exact hc
      · exact hI i (by omega)
  · have c1 : ¬ ((k : Int) < (l.length : Int)) := by omega
    repeat' (with_reducible first | refine x_ops ?_ | refine wk ?_ | ((first | refine gd1 ?_ ?_ | refine gd2 ?_ ?_ | refine gd3 ?_ ?_) <;> (first | exact @False.elim _ | intro hc)))
    refine finV_lit vv ?_
    have hI := fun i (h : i < l.length) => hI i (by omega)
    rw [gIx, gI_none (p := fun x => v == x) hI, if_neg (by omega)]
theorem indexfuncI_fn (l : List Int) (p : Int → Bool) {f : FuncId} {cs : List V} (hc : callable Try.prog f = true) (hp : V.pures cs = true) (hn : V.norms cs = cs) (hf : ∀ x, Fn Try.prog Gd f (vint x :: cs) (vbool (p x))) (hl : l.length ≤ 4611686018427387904) :
    Fn Try.prog Gd 125 [tIs l, .fn f cs] (vint (gIx p l)) := by
  refine Fn.of_vx0 k_slices_IndexFunc_int_int (by simp) (by rw [V.pures, pure_tIs, V.pures, V.pure, hp]; rfl) ?_
  unfold c_slices_IndexFunc_int_int
  repeat' (with_reducible first | refine x_ops ?_ | refine wk ?_ | ((first | refine gd1 ?_ ?_ | refine gd2 ?_ ?_ | refine gd3 ?_ ?_) <;> (first | exact @False.elim _ | intro hc)))
  refine x_loopF w_slices_IndexFunc_int_int_p6 (by kernel_rfl) l.length (fun k t => t 8 = vint (k : Int) ∧ ∀ i, i < k → p (l.getD i 0) = false) ?_ ?_
  · exact ⟨vv, fun i h => by omega⟩
  rintro k t hk ⟨h8, hI⟩
  by_cases hlt : k < l.length
  · have g1 := ints_at hlt
    have c2 : (k : Int) < (l.length : Int) := by omega
    have w2 := w_add1 (k := k) (by omega)
    have hx : Fn Try.prog Gd f (V.lit (.int .i64 (l.getD k 0)) :: cs) (vbool (p (l.getD k 0))) := hf (l.getD k 0)
    have hn2 : V.norms (V.lit (.int .i64 (l.getD k 0)) :: cs) = V.lit (.int .i64 (l.getD k 0)) :: cs := by rw [V.norms, hn]; rfl
    clear hp hf hn
    replace hn2 := Hid.mk hn2
    repeat' (with_reducible first | refine x_ops ?_ | refine wk ?_ | (with_reducible refine x_callvF (by (simp only [go_sem, Nat.reduceAdd, Nat.reduceEqDiff, Nat.reduceLT, Nat.reduceLeDiff, Nat.reduceMul, Nat.reduceSub, Nat.reducePow, Nat.reduceDiv, Nat.reduceMod, Nat.reduceBEq, Int.reduceBEq, Int.reduceLT, reduceIte, V.norms, V.norm, tIs, tBs, tPs, *]); first | done | rfl) hc hx (by simp only [List.map_cons, List.map_nil, List.cons_append, List.nil_append, St.ev, putT_get, reduceIte, Nat.reduceEqDiff]; exact hn2.out) ?_) | ((first | refine gd1 ?_ ?_ | refine gd2 ?_ ?_ | refine gd3 ?_ ?_) <;> (first | exact @False.elim _ | intro hc)))
    · refine finV_lit vv ?_
      rw [gIx, gI_eq (p := p) hI hlt (by assumption), if_pos hlt]
    · refine nf (by omega) ⟨vv, fun i h => ?_⟩ rfl
      by_cases hi : i = k
      · subst hi; assumption
      · exact hI i (by omega)
  · have c1 : ¬ ((k : Int) < (l.length : Int)) := by omega
    repeat' (with_reducible first | refine x_ops ?_ | refine wk ?_ | ((first | refine gd1 ?_ ?_ | refine gd2 ?_ ?_ | refine gd3 ?_ ?_) <;> (first | exact @False.elim _ | intro hc)))
    refine finV_lit vv ?_
    have hI := fun i (h : i < l.length) => hI i (by omega)
    rw [gIx, gI_none (p := p) hI, if_neg (by omega)]
theorem containsI_fn (l : List Int) (p : Int → Bool) {f : FuncId} {cs : List V} (hc : callable Try.prog f = true) (hp : V.pures cs = true) (hn : V.norms cs = cs) (hf : ∀ x, Fn Try.prog Gd f (vint x :: cs) (vbool (p x))) (hl : l.length ≤ 4611686018427387904) :
    Fn Try.prog Gd 85 [tIs l, .fn f cs] (vbool (decide (gI p l < l.length))) := by
  refine Fn.of_vx0 k_slices_ContainsFunc_int_int (by simp) (by rw [V.pures, pure_tIs, V.pures, V.pure, hp]; rfl) ?_
  unfold c_slices_ContainsFunc_int_int
  have h1 := indexfuncI_fn l p hc hp hn hf hl
  have h2 := gIx_ge (p := p) (l := l)
  clear hp hn
  repeat' (with_reducible first | refine x_ops ?_ | refine wk ?_ | (with_reducible refine xc (h1) ?_) | ((first | refine gd1 ?_ ?_ | refine gd2 ?_ ?_ | refine gd3 ?_ ?_) <;> (first | exact @False.elim _ | intro hc)))
  exact finV_lit vv rfl
end Go.Proofs.Ytojjdkoglhecbaa
