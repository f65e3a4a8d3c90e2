/- Signs: their ticks, their order, rows of them in order. -/
import Derived.Test.YtdefefeifcdogaaGreatD1
import Derived.Test.YtdefefeifcdogaaGreatP1
import Derived.Test.YtdefefeifcdogaaGreatP2
namespace Go.Proofs.YtdefefeifcdogaaGreat
open Go.RowKit
set_option linter.unusedSimpArgs false
set_option linter.unusedVariables false

theorem isnan_fn (n : Int) : Fn Tryz.prog Gd 182 [vint n] (vbool false) := by
  refine Fn.of_vx0 k_cmp_isNaN_int (by simp) rfl ?_
  unfold c_cmp_isNaN_int
  repeat' (with_reducible first | refine x_ops ?_ | refine wk ?_ | ((first | refine gd1 ?_ ?_ | refine gd2 ?_ ?_ | refine gd3 ?_ ?_) <;> (first | exact @False.elim _ | intro hc)))
  exact finV_lit vv (by simp)
theorem less_fn (a b : Int) : Fn Tryz.prog Gd 205 [vint a, vint b] (vbool (decide (a < b))) := by
  refine Fn.of_vx0 k_cmp_Less_int (by simp) rfl ?_
  unfold c_cmp_Less_int
  repeat' (with_reducible first | refine x_ops ?_ | refine wk ?_ | (with_reducible refine xc (isnan_fn a) ?_) | ((first | refine gd1 ?_ ?_ | refine gd2 ?_ ?_ | refine gd3 ?_ ?_) <;> (first | exact @False.elim _ | intro hc)))
  all_goals exact finV_lit vv (by simp)
def cmpI (a b : Int) : Int := if a < b then -1 else if b < a then 1 else 0
theorem compare_fn (a b : Int) : Fn Tryz.prog Gd 121 [vint a, vint b] (vint (cmpI a b)) := by
  refine Fn.of_vx0 k_cmp_Compare_int (by simp) rfl ?_
  unfold c_cmp_Compare_int
  by_cases h1 : a < b
  · repeat' (with_reducible first | refine x_ops ?_ | refine wk ?_ | (with_reducible refine xc (isnan_fn _) ?_) | ((first | refine gd1 ?_ ?_ | refine gd2 ?_ ?_ | refine gd3 ?_ ?_) <;> (first | exact @False.elim _ | intro hc)))
    exact finV_lit vv (by rw [cmpI, if_pos h1])
  · by_cases h2 : b < a
    · repeat' (with_reducible first | refine x_ops ?_ | refine wk ?_ | (with_reducible refine xc (isnan_fn _) ?_) | ((first | refine gd1 ?_ ?_ | refine gd2 ?_ ?_ | refine gd3 ?_ ?_) <;> (first | exact @False.elim _ | intro hc)))
      exact finV_lit vv (by rw [cmpI, if_neg h1, if_pos h2])
    · repeat' (with_reducible first | refine x_ops ?_ | refine wk ?_ | (with_reducible refine xc (isnan_fn _) ?_) | ((first | refine gd1 ?_ ?_ | refine gd2 ?_ ?_ | refine gd3 ?_ ?_) <;> (first | exact @False.elim _ | intro hc)))
      exact finV_lit vv (by rw [cmpI, if_neg h1, if_neg h2])
def bitI (b : Bool) : Int := if b = true then 1 else 0
theorem bit_fn (b : Bool) : Fn Tryz.prog Gd 168 [vbool b] (vint (bitI b)) := by
  refine Fn.of_vx0 k_leaf_bit (by simp) rfl ?_
  unfold c_leaf_bit
  cases b
  all_goals repeat' (with_reducible first | refine x_ops ?_ | refine wk ?_ | ((first | refine gd1 ?_ ?_ | refine gd2 ?_ ?_ | refine gd3 ?_ ?_) <;> (first | exact @False.elim _ | intro hc)))
  all_goals exact finV_lit vv rfl
theorem pure_tIs (l : List Int) : (tIs l).pure = true := by rw [tIs, V.pure]; intro t h; cases h
theorem ints_at {l : List Int} {k : Nat} (h : k < l.length) : (l.map vint)[k]? = some (V.lit (.int .i64 (l.getD k 0))) := by
  rw [List.getElem?_map, List.getD_eq_getElem?_getD, List.getElem?_eq_getElem h]; rfl
def orI (a b c : Int) : Int := if a ≠ 0 then a else if b ≠ 0 then b else c
theorem or_fn (a b c : Int) : Fn Tryz.prog Gd 178 [.sl 3 [vint a, vint b, vint c] .no] (vint (orI a b c)) := by
  refine Fn.of_vx0 k_cmp_Or_int (by simp) rfl ?_
  unfold c_cmp_Or_int
  repeat' (with_reducible first | refine x_ops ?_ | refine wk ?_ | ((first | refine gd1 ?_ ?_ | refine gd2 ?_ ?_ | refine gd3 ?_ ?_) <;> (first | exact @False.elim _ | intro hc)))
  refine x_loopF w_cmp_Or_int_p5 kr 3 (fun k t => t 8 = vint k ∧ ∀ i, i < k → ([a, b, c] : List Int).getD i 0 = 0) ?_ ?_
  · exact ⟨vv, fun i h => by omega⟩
  rintro k t hk ⟨h8, hI⟩
  by_cases hlt : k < 3
  · have g : [V.lit (.int .i64 a), V.lit (.int .i64 b), V.lit (.int .i64 c)][k]? = some (V.lit (.int .i64 (([a, b, c] : List Int).getD k 0))) := ints_at (l := [a, b, c]) (k := k) hlt
    have c2 : (k : Int) < 3 := by omega
    have w2 := w_add1 (k := k) (by omega)
    by_cases hz : ([a, b, c] : List Int).getD k 0 = 0
    · have d1 : (([a, b, c] : List Int).getD k 0 != 0) = false := by rw [hz]; rfl
      rw [hz] at g
      clear hz d1
      repeat' (with_reducible first | refine x_ops ?_ | refine wk ?_ | ((first | refine gd1 ?_ ?_ | refine gd2 ?_ ?_ | refine gd3 ?_ ?_) <;> (first | exact @False.elim _ | intro hc)))
      refine nf (by omega) ⟨vv, fun i h => ?_⟩ rfl
      by_cases hi : i = k
      · subst hi
        have : [V.lit (.int .i64 a), V.lit (.int .i64 b), V.lit (.int .i64 c)][i]? = some (V.lit (.int .i64 (([a, b, c] : List Int).getD i 0))) := ints_at (l := [a, b, c]) (k := i) hlt
        rw [g] at this
        injection this with this
        injection this with this
        injection this with _ this
        exact this.symm
      · exact hI i (by omega)
    · have d1 : (([a, b, c] : List Int).getD k 0 == 0) = false := by rw [beq_eq_false_iff_ne]; exact hz
      generalize hx : ([a, b, c] : List Int).getD k 0 = x at *
      repeat' (with_reducible first | refine x_ops ?_ | refine wk ?_ | ((first | refine gd1 ?_ ?_ | refine gd2 ?_ ?_ | refine gd3 ?_ ?_) <;> (first | exact @False.elim _ | intro hc)))
      refine finV_lit vv ?_
      have h3 : k = 0 ∨ k = 1 ∨ k = 2 := by omega
      congr 1
      rcases h3 with rfl | rfl | rfl
      · have : a = x := hx
        subst this
        rw [orI, if_pos hz]
      · have : b = x := hx
        subst this
        have h0 : a = 0 := hI 0 (by omega)
        rw [orI, if_neg (by omega), if_pos hz]
      · have : c = x := hx
        subst this
        have h0 : a = 0 := hI 0 (by omega)
        have h1 : b = 0 := hI 1 (by omega)
        rw [orI, if_neg (by omega), if_neg (by omega)]
  · have c2 : ¬ (k : Int) < 3 := by omega
    repeat' (with_reducible first | refine x_ops ?_ | refine wk ?_ | ((first | refine gd1 ?_ ?_ | refine gd2 ?_ ?_ | refine gd3 ?_ ?_) <;> (first | exact @False.elim _ | intro hc)))
    refine finV_lit vv ?_
    have h0 : a = 0 := hI 0 (by omega)
    have h1 : b = 0 := hI 1 (by omega)
    have h2 : c = 0 := hI 2 (by omega)
    rw [orI, if_neg (by omega), if_neg (by omega), h2]
/-- The order of signs. -/
def ordS (a b : Sg) : Int := orI (cmpI a.v b.v) (cmpI (bitI a.d) (bitI b.d)) (cmpI (bitI a.t) (bitI b.t))
theorem order_fn (a b : Sg) : Fn Tryz.prog Gd 118 [a.val, b.val] (vint (ordS a b)) := by
  refine Fn.of_vx0 k_leaf_order (by simp) rfl ?_
  unfold c_leaf_order
  repeat' (with_reducible first | refine x_ops ?_ | refine wk ?_ | (with_reducible refine xc (compare_fn _ _) ?_) | (with_reducible refine xc (bit_fn _) ?_) | (with_reducible refine xc (or_fn _ _ _) ?_) | ((first | refine gd1 ?_ ?_ | refine gd2 ?_ ?_ | refine gd3 ?_ ?_) <;> (first | exact @False.elim _ | intro hc)))
  exact finV_lit vv rfl
end Go.Proofs.YtdefefeifcdogaaGreat
