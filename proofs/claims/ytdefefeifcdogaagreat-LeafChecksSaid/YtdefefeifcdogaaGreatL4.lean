/- What a row of signs contains; rising numbers; a column of the program. -/
import Derived.Test.YtdefefeifcdogaaGreatL3
namespace Go.Proofs.YtdefefeifcdogaaGreat
open Go.RowKit
set_option linter.unusedSimpArgs false
set_option linter.unusedVariables false

/-- Where the first one is, or -1. -/
def idxI {α : Type} (p : α → Bool) (l : List α) : Int := if l.any p = true then (l.findIdx p : Int) else -1
theorem idxI_at {α : Type} [Inhabited α] {p : α → Bool} {l : List α} {k : Nat} (hk : k < l.length) (h : p (l.getD k default) = true) (hI : ∀ i, i < k → p (l.getD i default) = false) : idxI p l = k := by
  have e : ∀ i (hi : i < l.length), l.getD i default = l[i] := fun i hi => by rw [List.getD_eq_getElem?_getD, List.getElem?_eq_getElem hi]; rfl
  have h1 : l.findIdx p = k := by
    rw [List.findIdx_eq hk]
    refine ⟨by rw [← e k hk]; exact h, fun j hj => ?_⟩
    have := hI j hj
    rw [e j (by omega)] at this
    simpa using this
  rw [idxI, if_pos, h1]
  rw [List.any_eq_true]
  exact ⟨l[k], List.getElem_mem hk, by rw [← e k hk]; exact h⟩
theorem idxI_none {α : Type} [Inhabited α] {p : α → Bool} {l : List α} (hI : ∀ i, i < l.length → p (l.getD i default) = false) : idxI p l = -1 := by
  rw [idxI, if_neg]
  rw [List.any_eq_true]
  rintro ⟨x, hx, hp⟩
  obtain ⟨i, hi, rfl⟩ := List.mem_iff_getElem.1 hx
  have := hI i hi
  rw [List.getD_eq_getElem?_getD, List.getElem?_eq_getElem hi, Option.getD_some, hp] at this
  cases this
theorem idxI_ge {α : Type} (p : α → Bool) (l : List α) : decide (0 ≤ idxI p l) = l.any p := by
  rw [idxI]
  split
  · rename_i h; rw [h, decide_eq_true (by omega)]
  · rename_i h; rw [Bool.not_eq_true] at h; rw [h]; rfl
theorem indexS_fn (l : List Sg) (hl : l.length ≤ 4611686018427387904) (f : FuncId) (p : Sg → Bool) (hc : callable Tryz.prog f = true) (hf : ∀ k, k < l.length → Fn Tryz.prog Gd f [.agg [vint (l.getD k default).v, vbool (l.getD k default).d, vbool (l.getD k default).t]] (vbool (p (l.getD k default)))) :
    Fn Tryz.prog Gd 203 [tL Sg.cells l, .fn f []] (vint (idxI p l)) := by
  refine Fn.of_vx0 k_slices_IndexFunc_api_Sign_api_Sign (by simp) (by rw [V.pures, pure_tL]; rfl) ?_
  unfold c_slices_IndexFunc_api_Sign_api_Sign
  replace hf := Hid.mk hf
  replace hc := Hid.mk hc
  repeat' (with_reducible first | refine x_ops ?_ | refine wk ?_ | ((first | refine gd1 ?_ ?_ | refine gd2 ?_ ?_ | refine gd3 ?_ ?_) <;> (first | exact @False.elim _ | intro hc)))
  refine x_loopF w_slices_IndexFunc_api_Sign_api_Sign_p7 kr l.length (fun k t => t 8 = vint k ∧ ∀ i, i < k → p (l.getD i default) = false) ?_ ?_
  · exact ⟨vv, fun i h => by omega⟩
  rintro k t hk ⟨h8, hI⟩
  by_cases hlt : k < l.length
  · have g1 := sg_take (l := l) (k := k) (by omega)
    have hL := sgs_len l
    have c2 : (k : Int) < (l.length : Int) := by omega
    have c4 : k * 3 + 3 ≤ l.length * 3 := by omega
    have w2 := w_add1 (k := k) (by omega)
    have O := hf.out k hlt
    cases hb : p (l.getD k default)
    · rw [hb] at O
      repeat' (with_reducible first | refine x_ops ?_ | refine wk ?_ | (with_reducible refine xcv O hc.out ?_) | ((first | refine gd1 ?_ ?_ | refine gd2 ?_ ?_ | refine gd3 ?_ ?_) <;> (first | exact @False.elim _ | intro hc)))
      refine nf (by omega) ⟨vv, fun i h => ?_⟩ rfl
      by_cases hi : i = k
      · subst hi; exact hb
      · exact hI i (by omega)
    · rw [hb] at O
      repeat' (with_reducible first | refine x_ops ?_ | refine wk ?_ | (with_reducible refine xcv O hc.out ?_) | ((first | refine gd1 ?_ ?_ | refine gd2 ?_ ?_ | refine gd3 ?_ ?_) <;> (first | exact @False.elim _ | intro hc)))
      refine finV_lit vv ?_
      rw [idxI_at hlt hb hI]
  · have c1 : ¬ ((k : Int) < (l.length : Int)) := by omega
    repeat' (with_reducible first | refine x_ops ?_ | refine wk ?_ | ((first | refine gd1 ?_ ?_ | refine gd2 ?_ ?_ | refine gd3 ?_ ?_) <;> (first | exact @False.elim _ | intro hc)))
    refine finV_lit vv ?_
    rw [idxI_none fun i hi => hI i (by omega)]
theorem containsS_fn (l : List Sg) (hl : l.length ≤ 4611686018427387904) (f : FuncId) (p : Sg → Bool) (hc : callable Tryz.prog f = true) (hf : ∀ k, k < l.length → Fn Tryz.prog Gd f [.agg [vint (l.getD k default).v, vbool (l.getD k default).d, vbool (l.getD k default).t]] (vbool (p (l.getD k default)))) :
    Fn Tryz.prog Gd 144 [tL Sg.cells l, .fn f []] (vbool (l.any p)) := by
  refine Fn.of_vx0 k_slices_ContainsFunc_api_Sign_api_Sign (by simp) (by rw [V.pures, pure_tL]; rfl) ?_
  unfold c_slices_ContainsFunc_api_Sign_api_Sign
  have I := indexS_fn l hl f p hc hf
  have G := idxI_ge p l
  clear hf
  repeat' (with_reducible first | refine x_ops ?_ | refine wk ?_ | (with_reducible refine xc (I) ?_) | ((first | refine gd1 ?_ ?_ | refine gd2 ?_ ?_ | refine gd3 ?_ ?_) <;> (first | exact @False.elim _ | intro hc)))
  refine finV_lit vv ?_
  rw [← G]
theorem bad1_fn (s : Sg) : Fn Tryz.prog Gd 145 [s.val] (vbool (tkS s == 0)) := by
  refine Fn.of_vx0 k_leaf_right_1 (by simp) (by rw [V.pures, pure_sg]; rfl) ?_
  unfold c_leaf_right_1
  have T := ticks_fn s
  repeat' (with_reducible first | refine x_ops ?_ | refine wk ?_ | (with_reducible refine xc (T) ?_) | ((first | refine gd1 ?_ ?_ | refine gd2 ?_ ?_ | refine gd3 ?_ ?_) <;> (first | exact @False.elim _ | intro hc)))
  exact finV_lit vv rfl
/-- Numbers that rise, and are some. -/
def risI (l : List Int) : Bool := allB (l.length - 1) (fun i => decide (l.getD i 0 < l.getD (i + 1) 0)) && decide (0 < l.length)
theorem risingI_fn (l : List Int) (hl : l.length ≤ 4611686018427387904) : Fn Tryz.prog Gd 147 [tIs l, .fn 121 []] (vbool (risI l)) := by
  refine Fn.of_vx0 k_leaf_rising_int (by simp) (by rw [V.pures, pure_tIs]; rfl) ?_
  unfold c_leaf_rising_int
  repeat' (with_reducible first | refine x_ops ?_ | refine wk ?_ | ((first | refine gd1 ?_ ?_ | refine gd2 ?_ ?_ | refine gd3 ?_ ?_) <;> (first | exact @False.elim _ | intro hc)))
  refine x_loopF w_leaf_rising_int_p4 kr (l.length - 1) (fun k t => t 5 = vint ((k + 1 : Nat) : Int) ∧ ∀ i, i < k → l.getD i 0 < l.getD (i + 1) 0) ?_ ?_
  · exact ⟨vv, fun i h => by omega⟩
  rintro k t hk ⟨h5, hI⟩
  by_cases hlt : k + 1 < l.length
  · have g1 := ints_at (l := l) (k := k + 1) (by omega)
    have g2 := ints_at (l := l) (k := k) (by omega)
    have c2 : ((k + 1 : Nat) : Int) < (l.length : Int) := by omega
    have c3 : (k : Int) < (l.length : Int) := by omega
    have w1 := w_sub1 (k := k + 1) (by omega) (by omega)
    have w2 := w_add1 (k := k + 1) (by omega)
    have O := compare_fn (l.getD k 0) (l.getD (k + 1) 0)
    rw [Nat.add_sub_cancel] at w1
    by_cases hb : l.getD k 0 < l.getD (k + 1) 0
    · have B1 : ¬ 0 ≤ cmpI (l.getD k 0) (l.getD (k + 1) 0) := by rw [cmpI, if_pos hb]; decide
      clear hb
      repeat' (with_reducible first | refine x_ops ?_ | refine wk ?_ | (with_reducible refine xcv (O) kr ?_) | ((first | refine gd1 ?_ ?_ | refine gd2 ?_ ?_ | refine gd3 ?_ ?_) <;> (first | exact @False.elim _ | intro hc)))
      refine nf (by omega) ⟨vv, fun i h => ?_⟩ rfl
      by_cases hi : i = k
      · subst hi; rw [cmpI] at B1; split at B1
        · assumption
        · split at B1 <;> omega
      · exact hI i (by omega)
    · have B1 : 0 ≤ cmpI (l.getD k 0) (l.getD (k + 1) 0) := by rw [cmpI, if_neg hb]; split <;> decide
      have hb' := Hid.mk hb
      clear hb
      repeat' (with_reducible first | refine x_ops ?_ | refine wk ?_ | (with_reducible refine xcv (O) kr ?_) | ((first | refine gd1 ?_ ?_ | refine gd2 ?_ ?_ | refine gd3 ?_ ?_) <;> (first | exact @False.elim _ | intro hc)))
      refine finV_lit vv ?_
      rw [risI, allB_false (i := k) (by omega) (decide_eq_false hb'.out), Bool.false_and]
  · have c1 : ¬ (((k + 1 : Nat) : Int) < (l.length : Int)) := by omega
    repeat' (with_reducible first | refine x_ops ?_ | refine wk ?_ | ((first | refine gd1 ?_ ?_ | refine gd2 ?_ ?_ | refine gd3 ?_ ?_) <;> (first | exact @False.elim _ | intro hc)))
    refine finV_lit vv ?_
    rw [risI, allB_true fun i hi => decide_eq_true (hI i (by omega)), Bool.true_and]
    congr 1
    by_cases h0 : 0 < l.length
    · rw [decide_eq_true h0, decide_eq_true (by omega)]
    · rw [decide_eq_false h0, decide_eq_false (by omega)]
end Go.Proofs.YtdefefeifcdogaaGreat
