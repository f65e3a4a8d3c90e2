/- LeafChecks: the law, if the look at the example says true. -/
import Derived.Test.YtdefefeifcdogaaGreatLK
import Derived.Test.YtdefefeifcdogaaGreatLL
namespace Go.Proofs.YtdefefeifcdogaaGreat
open Go.RowKit
set_option linter.unusedSimpArgs false
set_option linter.unusedVariables false

theorem getD_map {α β : Type} [Inhabited α] [Inhabited β] (g : α → β) {l : List α} {i : Nat} (h : i < l.length) : (l.map g).getD i default = g (l.getD i default) := by
  rw [List.getD_eq_getElem?_getD, List.getElem?_map, List.getD_eq_getElem?_getD, List.getElem?_eq_getElem h]; rfl
theorem noP_sm : PcSm noP := ⟨by show 0 ≤ _; omega, by show 0 ≤ _; omega, by show 0 ≤ _; omega, fun i hi => absurd hi (Nat.not_lt_zero i)⟩
theorem thP_sm {f : Lf} (hs : LfSm f) (h : lchk f = 0) : PcSm (thP f) := by
  obtain ⟨q1, q2, q3⟩ := lchk_zero h
  obtain ⟨q4, q5, _⟩ := chkI_small q1
  refine ⟨?_, by show f.ins.cs.length ≤ _; omega, by show f.ins.st.length ≤ _; omega, fun i hi => ?_⟩
  · rw [thP, List.length_map]; omega
  · rw [thP, List.length_map] at hi
    have e : (thP f).es.getD i default = evtR (f.cols.getD i default) (frR (f.cols.getD i default)) := getD_map _ hi
    rw [e]
    have h1 := evK_len (frR (f.cols.getD i default)).ns (frR (f.cols.getD i default)).ns.length
    have h2 : (frR (f.cols.getD i default)).ns.length = (f.cols.getD i default).ce.length := List.length_map ..
    have h3 := (hs.c i hi).lc
    show (evK _ _).length ≤ _
    omega
theorem pieR_sm {f : Lf} (hs : LfSm f) : PcSm (pieR f).1 := by
  unfold pieR
  split
  · exact noP_sm
  · rename_i h
    split
    · exact thP_sm hs (by omega)
    · exact noP_sm
set_option maxHeartbeats 2000000 in
theorem leafchecks_fn (W : Fn Tryz.prog Gd 19 [] (vbool true)) (f : Lf) (r : Rls) (hs : LfSm f) : Fn Tryz.prog Gd 5 [caseV f r] (vbool true) := by
  refine Fn.of_vx0 k_theorbolaw10_LeafChecks (by simp) (by rw [V.pures, pure_case]; rfl) ?_
  have C1 := lcheck_fn f hs
  have C2 := rlcheck_fn f hs
  have R1 := crules_fn r
  have R2 := rcrules_fn r
  have P1 := piece_fn f hs
  have P2 := rpiece_fn f hs
  have S := rsame_fn (pieR f).1 (pieR f).1 (pieR_sm hs)
  rw [decide_eq_true rfl] at S
  unfold c_theorbolaw10_LeafChecks
  generalize lchk f = e1 at *
  generalize rchk r = e2 at *
  generalize pieR f = pr at *
  obtain ⟨⟨⟨ics, ist⟩, es⟩, pe⟩ := pr
  clear hs
  repeat' (with_reducible first | refine x_ops ?_ | refine wk ?_ | (with_reducible refine xc (C1) ?_) | (with_reducible refine xc (C2) ?_) | (with_reducible refine xc (R1) ?_) | (with_reducible refine xc (R2) ?_) | (with_reducible refine xc (P1) ?_) | (with_reducible refine xc (P2) ?_) | (with_reducible refine xc (S) ?_) | (with_reducible refine xc (W) ?_) | ((first | refine gd1 ?_ ?_ | refine gd2 ?_ ?_ | refine gd3 ?_ ?_) <;> (first | exact @False.elim _ | intro hc)))
  exact finV_lit vv rfl
end Go.Proofs.YtdefefeifcdogaaGreat
