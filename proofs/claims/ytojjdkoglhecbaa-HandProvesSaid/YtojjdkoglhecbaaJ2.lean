/- reach, agree, spans of the program, on values. -/
import Derived.Test.YtojjdkoglhecbaaJ1
namespace Go.Proofs.Ytojjdkoglhecbaa
open Go.RowKit
set_option linter.unusedSimpArgs false
set_option linter.unusedVariables false

theorem indexfuncP_fn (l : List (Int × Int)) (p : Int × Int → Bool) {f : FuncId} {cs : List V} (hc : callable Try.prog f = true) (hp : V.pures cs = true) (hn : V.norms cs = cs) (hf : ∀ x : Int × Int, Fn Try.prog Gd f (.agg (plE x) :: cs) (vbool (p x))) (hl : l.length ≤ 4611686018427387904) :
    Fn Try.prog Gd 129 [tPs l, .fn f cs] (vint (gIx p l)) := by
  refine Fn.of_vx0 k_slices_IndexFunc_api_Place_api_Place (by simp) (by rw [V.pures, pure_tPs, V.pures, V.pure, hp]; rfl) ?_
  unfold c_slices_IndexFunc_api_Place_api_Place
  repeat' (with_reducible first | refine x_ops ?_ | refine wk ?_ | ((first | refine gd1 ?_ ?_ | refine gd2 ?_ ?_ | refine gd3 ?_ ?_) <;> (first | exact @False.elim _ | intro hc)))
  refine x_loopF w_slices_IndexFunc_api_Place_api_Place_p7 (by kernel_rfl) l.length (fun k t => t 8 = vint (k : Int) ∧ ∀ i, i < k → p (l.getD i (0, 0)) = false) ?_ ?_
  · exact ⟨vv, fun i h => by omega⟩
  rintro k t hk ⟨h8, hI⟩
  by_cases hlt : k < l.length
  · have g1 := pls_take hlt
    have g2 := pls_len l
    have c2 : (k : Int) < (l.length : Int) := by omega
    have c3 : k * 2 + 2 ≤ l.length * 2 := by omega
    have w2 := w_add1 (k := k) (by omega)
    have hx : Fn Try.prog Gd f (V.agg [.lit (.int .i64 (l.getD k (0, 0)).1), .lit (.int .i64 (l.getD k (0, 0)).2)] :: cs) (vbool (p (l.getD k (0, 0)))) := hf (l.getD k (0, 0))
    have hn2 : V.norms (V.agg [.lit (.int .i64 (l.getD k (0, 0)).1), .lit (.int .i64 (l.getD k (0, 0)).2)] :: cs) = V.agg [.lit (.int .i64 (l.getD k (0, 0)).1), .lit (.int .i64 (l.getD k (0, 0)).2)] :: cs := by rw [V.norms, hn]; rfl
    clear hp hf hn
    replace hn2 := Hid.mk hn2
    repeat' (with_reducible first | refine x_ops ?_ | refine wk ?_ | (with_reducible refine x_callvF (by (simp only [go_sem, Nat.reduceAdd, Nat.reduceEqDiff, Nat.reduceLT, Nat.reduceLeDiff, Nat.reduceMul, Nat.reduceSub, Nat.reducePow, Nat.reduceDiv, Nat.reduceMod, Nat.reduceBEq, Int.reduceBEq, Int.reduceLT, reduceIte, V.norms, V.norm, tIs, tBs, tPs, *]); first | done | rfl) hc hx (by simp only [List.map_cons, List.map_nil, List.cons_append, List.nil_append, St.ev, putT_get, reduceIte, Nat.reduceEqDiff]; exact hn2.out) ?_) | ((first | refine gd1 ?_ ?_ | refine gd2 ?_ ?_ | refine gd3 ?_ ?_) <;> (first | exact @False.elim _ | intro hc)))
    · refine finV_lit vv ?_
      rw [gIx, gI_eq (p := p) hI hlt (by assumption), if_pos hlt]
    · refine nf (by omega) ⟨vv, fun i h => ?_⟩ rfl
      by_cases hi : i = k
      · subst hi; assumption
      · exact hI i (by omega)
  · have c1 : ¬ ((k : Int) < (l.length : Int)) := by omega
    repeat' (with_reducible first | refine x_ops ?_ | refine wk ?_ | ((first | refine gd1 ?_ ?_ | refine gd2 ?_ ?_ | refine gd3 ?_ ?_) <;> (first | exact @False.elim _ | intro hc)))
    refine finV_lit vv ?_
    have hI := fun i (h : i < l.length) => hI i (by omega)
    rw [gIx, gI_none (p := p) hI, if_neg (by omega)]
theorem containsP_fn (l : List (Int × Int)) (p : Int × Int → Bool) {f : FuncId} {cs : List V} (hc : callable Try.prog f = true) (hp : V.pures cs = true) (hn : V.norms cs = cs) (hf : ∀ x : Int × Int, Fn Try.prog Gd f (.agg (plE x) :: cs) (vbool (p x))) (hl : l.length ≤ 4611686018427387904) :
    Fn Try.prog Gd 120 [tPs l, .fn f cs] (vbool (decide (gI p l < l.length))) := by
  refine Fn.of_vx0 k_slices_ContainsFunc_api_Place_api_Place (by simp) (by rw [V.pures, pure_tPs, V.pures, V.pure, hp]; rfl) ?_
  unfold c_slices_ContainsFunc_api_Place_api_Place
  have h1 := indexfuncP_fn l p hc hp hn hf hl
  have h2 := gIx_ge (p := p) (l := l)
  clear hp hn
  repeat' (with_reducible first | refine x_ops ?_ | refine wk ?_ | (with_reducible refine xc (h1) ?_) | ((first | refine gd1 ?_ ?_ | refine gd2 ?_ ?_ | refine gd3 ?_ ?_) <;> (first | exact @False.elim _ | intro hc)))
  exact finV_lit vv rfl

theorem spans1_fn (a b : Int) (x : Int) : Fn Try.prog Gd 132 [vint x, .ept [vint a] 0, .ept [vint b] 0] (vbool (decide (a < x) && decide (x < b))) := by
  refine Fn.of_vx0 k_hand_spans_1 (by simp) rfl ?_
  unfold c_hand_spans_1
  repeat' (with_reducible first | refine x_ops ?_ | refine wk ?_ | ((first | refine gd1 ?_ ?_ | refine gd2 ?_ ?_ | refine gd3 ?_ ?_) <;> (first | exact @False.elim _ | intro hc)))
  all_goals refine finV_lit vv ?_
  all_goals simp only [Bool.true_and, Bool.false_and]
theorem spans2_fn (a : Int) (x : Int × Int) : Fn Try.prog Gd 133 [.agg (plE x), .ept [vint a] 0] (vbool (decide (x.2 < a))) := by
  refine Fn.of_vx0 k_hand_spans_2 (by simp) rfl ?_
  unfold c_hand_spans_2 plE
  repeat' (with_reducible first | refine x_ops ?_ | refine wk ?_ | ((first | refine gd1 ?_ ?_ | refine gd2 ?_ ?_ | refine gd3 ?_ ?_) <;> (first | exact @False.elim _ | intro hc)))
  exact finV_lit vv rfl
theorem call_spans1 : callable Try.prog 132 = true := by kernel_rfl
theorem call_spans2 : callable Try.prog 133 = true := by kernel_rfl

/-- The finger number f + 1 at a position reaches a fret. -/
def rchB (h : Hand) (pos : Int) (f : Nat) (fret : Int) : Bool := decide (pos + h.low.getD f 0 ≤ fret) && decide (fret ≤ pos + h.high.getD f 0)
theorem reach_fn (h : Hand) (hk : HandOk h) (pos : Int) (f : Nat) (fret : Int) (hp : -100 ≤ pos ∧ pos ≤ 100) (hf : f < h.low.length) :
    Fn Try.prog Gd 107 [h.val, vint pos, vint ((f + 1 : Nat) : Int), vint fret] (vbool (rchB h pos f fret)) := by
  refine Fn.of_vx0 k_hand_reach (by simp) (by rw [V.pures, pure_hand]; rfl) ?_
  have he := hk.each f hf
  have hh := hk.nh
  have h4 := hk.n4
  have g1 := ints_at hf
  have g2 := ints_at (l := h.high) (k := f) (by omega)
  have c1 : (f : Int) < (h.low.length : Int) := by omega
  have c2 : (f : Int) < (h.high.length : Int) := by omega
  have w1 : IntKind.i64.wrap (((f + 1 : Nat) : Int) - 1) = (f : Int) := by rw [w_in (by omega)]; omega
  have w2 : IntKind.i64.wrap (pos + h.low.getD f 0) = pos + h.low.getD f 0 := w_in (by omega)
  have w3 : IntKind.i64.wrap (pos + h.high.getD f 0) = pos + h.high.getD f 0 := w_in (by omega)
  clear hh he hp h4
  unfold c_hand_reach Hand.val
  repeat' (with_reducible first | refine x_ops ?_ | refine wk ?_ | (with_reducible refine xc (within_fn _ _ _) ?_) | ((first | refine gd1 ?_ ?_ | refine gd2 ?_ ?_ | refine gd3 ?_ ?_) <;> (first | exact @False.elim _ | intro hc)))
  exact finV_lit vv rfl

/-- Two places can have two fingers. -/
def agrB (a b : Int × Int) (f g : Int) : Bool := if a.2 < b.2 then decide (f < g) else if b.2 < a.2 then decide (g < f) else if a.1 < b.1 then decide (g ≤ f) else decide (f ≤ g)
theorem agree_fn (a b : Int × Int) (f g : Int) : Fn Try.prog Gd 108 [.agg (plE a), .agg (plE b), vint f, vint g] (vbool (agrB a b f g)) := by
  refine Fn.of_vx0 k_hand_agree (by simp) rfl ?_
  unfold c_hand_agree plE agrB
  repeat' (with_reducible first | refine x_ops ?_ | refine wk ?_ | ((first | refine gd1 ?_ ?_ | refine gd2 ?_ ?_ | refine gd3 ?_ ?_) <;> (first | exact @False.elim _ | intro hc)))
  all_goals refine finV_lit vv ?_
  all_goals first | rfl | (simp only [*, if_true, if_false])
end Go.Proofs.Ytojjdkoglhecbaa
