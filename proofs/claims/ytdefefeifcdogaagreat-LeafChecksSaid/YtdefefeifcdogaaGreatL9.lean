/- A valid instrument, of the reference. -/
import Derived.Test.YtdefefeifcdogaaGreatL8
namespace Go.Proofs.YtdefefeifcdogaaGreat
open Go.RowKit
set_option linter.unusedSimpArgs false
set_option linter.unusedVariables false

set_option maxHeartbeats 1000000 in
theorem richeck_fn (x : Ins) : Fn Tryz.prog Gd 73 [x.val] (vint (chkI x)) := by
  refine Fn.of_vx0 k_theorboref01_Check (by simp) (by rw [V.pures, pure_ins]; rfl) ?_
  unfold c_theorboref01_Check
  by_cases h1 : 14 < x.cs.length
  · have c1 : (14 : Int) < (x.cs.length : Int) := by omega
    have hq : chkI x = 2 := by rw [chkI, if_pos (.inl h1)]
    clear h1
    repeat' (with_reducible first | refine x_ops ?_ | refine wk ?_ | ((first | refine gd1 ?_ ?_ | refine gd2 ?_ ?_ | refine gd3 ?_ ?_) <;> (first | exact @False.elim _ | intro hc)))
    exact finV_lit vv (by first | rfl | rw [hq])
  by_cases h2 : 18 < x.st.length
  · have c1 : ¬ (14 : Int) < (x.cs.length : Int) := by omega
    have c2 : (18 : Int) < (x.st.length : Int) := by omega
    have hq : chkI x = 2 := by rw [chkI, if_pos (.inr h2)]
    clear h1 h2
    repeat' (with_reducible first | refine x_ops ?_ | refine wk ?_ | ((first | refine gd1 ?_ ?_ | refine gd2 ?_ ?_ | refine gd3 ?_ ?_) <;> (first | exact @False.elim _ | intro hc)))
    exact finV_lit vv (by first | rfl | rw [hq])
  have c1 : ¬ (14 : Int) < (x.cs.length : Int) := by omega
  have c2 : ¬ (18 : Int) < (x.st.length : Int) := by omega
  by_cases h3 : x.cs.length = 0
  · have hq : chkI x = 11 := by rw [chkI, if_neg (by omega), if_pos h3]
    have c3 : ((x.cs.length : Int) == 0) = true := by rw [beq_iff_eq]; omega
    clear h1 h2 h3
    repeat' (with_reducible first | refine x_ops ?_ | refine wk ?_ | ((first | refine gd1 ?_ ?_ | refine gd2 ?_ ?_ | refine gd3 ?_ ?_) <;> (first | exact @False.elim _ | intro hc)))
    exact finV_lit vv (by first | rfl | rw [hq])
  have c3 : ((x.cs.length : Int) == 0) = false := by rw [beq_eq_false_iff_ne]; omega
  have hq : chkI x = if stB x.st = true then firE (crsE x.st) x.cs else 11 := by rw [chkI, if_neg (by omega), if_neg h3]
  replace hq := Hid.mk hq
  have hl14 : x.cs.length ≤ 14 := by omega
  have hl18 : x.st.length ≤ 18 := by omega
  clear h1 h2 h3
  replace hl14 := Hid.mk hl14
  replace hl18 := Hid.mk hl18
  repeat' (with_reducible first | refine x_ops ?_ | refine wk ?_ | ((first | refine gd1 ?_ ?_ | refine gd2 ?_ ?_ | refine gd3 ?_ ?_) <;> (first | exact @False.elim _ | intro hc)))
  refine x_loopF w_theorboref01_Check_p7 kr x.st.length (fun k t => t 4 = vint k ∧ t 3 = vint (lastS x.st k) ∧ ∀ i, i < k → lastS x.st i < x.st.getD i 0 ∧ x.st.getD i 0 ≤ 127) ?_ ?_
  · exact ⟨vv, vv, fun i h => by omega⟩
  rintro k t hk ⟨h25, h3, hI⟩
  replace hI := Hid.mk hI
  by_cases hlt : k < x.st.length
  · have g1 := ints_at (l := x.st) (k := k) hlt
    have c4 : (k : Int) < (x.st.length : Int) := by omega
    have w2 := w_add1 (k := k) (by have := hl18.out; omega)
    have hlt0 := Hid.mk hlt
    have hnext : lastS x.st (k + 1) = x.st.getD k 0 := by rw [lastS, if_neg (by omega), Nat.add_sub_cancel]
    replace hnext := Hid.mk hnext
    have bad : ¬ (lastS x.st k < x.st.getD k 0 ∧ x.st.getD k 0 ≤ 127) → (11 : Int) = chkI x := fun h => by
      rw [hq.out, if_neg]
      rw [stB, allB_iff]
      intro h'
      exact h (by simpa using h' k hlt)
    replace bad := Hid.mk bad
    clear hlt hk
    generalize hy : x.st.getD k 0 = y at *
    replace hy := Hid.mk hy
    generalize hz : lastS x.st k = z at *
    replace hz := Hid.mk hz
    repeat' (with_reducible first | refine x_ops ?_ | refine wk ?_ | ((first | refine gd1 ?_ ?_ | refine gd2 ?_ ?_ | refine gd3 ?_ ?_) <;> (first | exact @False.elim _ | intro hc)))
    all_goals first
      | (refine nf hlt0.out ⟨vv, ?_, fun i hi => ?_⟩ rfl
         · rw [hnext.out]; exact vv
         · by_cases e : i = k
           · subst e; rw [hy.out, hz.out]; omega
           · exact hI.out i (by omega))
      | (refine finV_lit vv ?_
         rw [bad.out (by omega)])
  have c4 : ¬ ((k : Int) < (x.st.length : Int)) := by omega
  have hst : stB x.st = true := by
    rw [stB, allB_iff]
    intro i hi
    simpa using hI.out i (by omega)
  have hall := stB_all hst
  replace hq : Hid (chkI x = firE (crsE x.st) x.cs) := Hid.mk (by rw [hq.out, if_pos hst])
  clear hI hlt hk hst h3
  replace hall := Hid.mk hall
  repeat' (with_reducible first | refine x_ops ?_ | refine wk ?_ | ((first | refine gd1 ?_ ?_ | refine gd2 ?_ ?_ | refine gd3 ?_ ?_) <;> (first | exact @False.elim _ | intro hc)))
  refine x_loopW w_theorboref01_Check_p22 kr x.cs.length (fun k t m => t 5 = vint k ∧ (m.obj 0 = some (.box [.sl x.cs.length (x.cs.flatMap Crs.cells) .no, .sl x.st.length (x.st.map vint) .no] 25) ∧ 0 < m.next) ∧ ∀ i, i < k → crsE x.st (x.cs.getD i default) = 0) ?_ ?_
  · exact ⟨vv, ⟨vv, by show 0 < 2; omega⟩, fun i h => by omega⟩
  clear c4 h25
  rintro k t m hk ⟨h41, ⟨hm, hn⟩, hI⟩
  replace hI := Hid.mk hI
  by_cases hlt : k < x.cs.length
  case neg =>
    have c4 : ¬ ((k : Int) < (x.cs.length : Int)) := by omega
    have hz : chkI x = 0 := by rw [hq.out]; exact firE_none fun i hi => hI.out i (by omega)
    clear hlt hk
    repeat' (with_reducible first | refine x_ops ?_ | refine wk ?_ | ((first | refine gd1 ?_ ?_ | refine gd2 ?_ ?_ | refine gd3 ?_ ?_) <;> (first | exact @False.elim _ | intro hc)))
    exact finV_lit vv (by first | rfl | rw [hz])
  have g1 := crs_take (l := x.cs) (k := k) hlt
  have hL := crss_len x.cs
  have c4 : (k : Int) < (x.cs.length : Int) := by omega
  have c5 : k * 3 + 3 ≤ x.cs.length * 3 := by omega
  have w2 := w_add1 (k := k) (by have := hl14.out; omega)
  have x2 : ¬ (0 : Nat) = m.next + 5 := by omega
  have hlt0 := Hid.mk hlt
  have bad : crsE x.st (x.cs.getD k default) ≠ 0 → crsE x.st (x.cs.getD k default) = chkI x := fun h => by rw [hq.out]; exact (firE_at hlt h hI.out).symm
  have step : crsE x.st (x.cs.getD k default) = 0 → ∀ i, i < k + 1 → crsE x.st (x.cs.getD i default) = 0 := fun h i hi => by
    by_cases e : i = k
    · subst e; exact h
    · exact hI.out i (by omega)
  replace bad := Hid.mk bad
  replace step := Hid.mk step
  replace hn := Hid.mk hn
  clear hlt hk
  generalize x.cs.getD k default = c at *
  obtain ⟨p, f, o⟩ := c
  dsimp only at g1
  by_cases hf : f < 0 ∨ (x.st.length : Int) < f
  · have he : crsE x.st ⟨p, f, o⟩ = 13 := by rw [crsE, if_pos hf]
    have hz : chkI x = 13 := by rw [← bad.out (by rw [he]; decide), he]
    by_cases hf1 : f < 0
    · clear hf he
      repeat' (with_reducible first | refine x_ops ?_ | refine wk ?_ | ((first | refine gd1 ?_ ?_ | refine gd2 ?_ ?_ | refine gd3 ?_ ?_) <;> (first | exact @False.elim _ | intro hc)))
      exact finV_lit vv (by first | rfl | rw [hz])
    · have hf2 : (x.st.length : Int) < f := by omega
      clear hf he
      repeat' (with_reducible first | refine x_ops ?_ | refine wk ?_ | ((first | refine gd1 ?_ ?_ | refine gd2 ?_ ?_ | refine gd3 ?_ ?_) <;> (first | exact @False.elim _ | intro hc)))
      exact finV_lit vv (by first | rfl | rw [hz])
  have hf1 : ¬ f < 0 := by omega
  have hf2 : ¬ (x.st.length : Int) < f := by omega
  by_cases hp1 : p < 0
  · have he : crsE x.st ⟨p, f, o⟩ = 10 := by rw [crsE, if_neg hf, if_pos (.inl hp1)]
    have hz : chkI x = 10 := by rw [← bad.out (by rw [he]; decide), he]
    clear hf he
    repeat' (with_reducible first | refine x_ops ?_ | refine wk ?_ | ((first | refine gd1 ?_ ?_ | refine gd2 ?_ ?_ | refine gd3 ?_ ?_) <;> (first | exact @False.elim _ | intro hc)))
    exact finV_lit vv (by first | rfl | rw [hz])
  by_cases hp2 : 127 < p
  · have he : crsE x.st ⟨p, f, o⟩ = 10 := by rw [crsE, if_neg hf, if_pos (.inr (.inl hp2))]
    have hz : chkI x = 10 := by rw [← bad.out (by rw [he]; decide), he]
    clear hf he
    repeat' (with_reducible first | refine x_ops ?_ | refine wk ?_ | ((first | refine gd1 ?_ ?_ | refine gd2 ?_ ?_ | refine gd3 ?_ ?_) <;> (first | exact @False.elim _ | intro hc)))
    exact finV_lit vv (by first | rfl | rw [hz])
  obtain ⟨n, rfl⟩ : ∃ n : Nat, f = n := ⟨f.toNat, by omega⟩
  have hlow : topC x.st ⟨p, n, o⟩ ≤ 127 → crsE x.st ⟨p, n, o⟩ = 0 := fun h => by
    rw [crsE, if_neg hf, if_neg]
    rintro (h1 | h1 | h1)
    · exact hp1 h1
    · exact hp2 h1
    · omega
  have hhigh : 127 < topC x.st ⟨p, n, o⟩ → chkI x = 10 := fun h => by
    have he : crsE x.st ⟨p, n, o⟩ = 10 := by rw [crsE, if_neg hf, if_pos (.inr (.inr h))]
    rw [← bad.out (by rw [he]; decide), he]
  replace hlow := Hid.mk hlow
  replace hhigh := Hid.mk hhigh
  by_cases h0 : 0 < n
  · have c6 : (0 : Int) < (n : Int) := by omega
    have g2 := ints_at (l := x.st) (k := n - 1) (by omega)
    have c7 : ((n - 1 : Nat) : Int) < (x.st.length : Int) := by omega
    have w1 := w_sub1 (k := n) h0 (by have := hl18.out; omega)
    have h1 := hall.out (n - 1) (by omega)
    have hqt : topC x.st ⟨p, n, o⟩ = p + x.st.getD (n - 1) 0 + (if o = true then 12 else 0) := by
      rw [topC, if_pos (by show (0 : Int) < n; omega)]
      show p + x.st.getD ((n : Int) - 1).toNat 0 + _ = _
      rw [show ((n : Int) - 1).toNat = n - 1 by omega]
    have w3 : IntKind.i64.wrap (p + x.st.getD (n - 1) 0) = p + x.st.getD (n - 1) 0 := w_in (by omega)
    have w4 : IntKind.i64.wrap (p + x.st.getD (n - 1) 0 + 12) = p + x.st.getD (n - 1) 0 + 12 := w_in (by omega)
    replace h1 := Hid.mk h1
    replace hqt := Hid.mk hqt
    replace hf := Hid.mk hf
    clear h0
    generalize x.st.getD (n - 1) 0 = y at *
    cases o
    all_goals repeat' (with_reducible first | refine x_ops ?_ | refine wk ?_ | ((first | refine gd1 ?_ ?_ | refine gd2 ?_ ?_ | refine gd3 ?_ ?_) <;> (first | exact @False.elim _ | intro hc)))
    all_goals first
      | (refine nx hlt0.out ⟨vv, ⟨?_, ?_⟩, step.out (hlow.out ?_)⟩
         · have := hn.out
           exact (put_other _ _ (by omega)).trans ((put_other _ _ (by omega)).trans hm)
         · show 0 < m.next + 7
           omega
         · rw [hqt.out]
           first
             | (rw [if_pos rfl]; omega)
             | (rw [if_neg (by decide)]; omega))
      | (refine finV_lit vv ?_
         rw [hhigh.out]
         rw [hqt.out]
         first
           | (rw [if_pos rfl]; omega)
           | (rw [if_neg (by decide)]; omega))
  · have c6 : ¬ (0 : Int) < (n : Int) := by omega
    have hqt : topC x.st ⟨p, n, o⟩ = p + (if o = true then 12 else 0) := by
      rw [topC, if_neg (by show ¬ (0 : Int) < n; omega), Int.add_zero]
    have w4 : IntKind.i64.wrap (p + 12) = p + 12 := w_in (by omega)
    replace hqt := Hid.mk hqt
    replace hf := Hid.mk hf
    clear h0
    cases o
    all_goals repeat' (with_reducible first | refine x_ops ?_ | refine wk ?_ | ((first | refine gd1 ?_ ?_ | refine gd2 ?_ ?_ | refine gd3 ?_ ?_) <;> (first | exact @False.elim _ | intro hc)))
    all_goals first
      | (refine nx hlt0.out ⟨vv, ⟨?_, ?_⟩, step.out (hlow.out ?_)⟩
         · have := hn.out
           exact (put_other _ _ (by omega)).trans ((put_other _ _ (by omega)).trans hm)
         · show 0 < m.next + 7
           omega
         · rw [hqt.out]
           first
             | (rw [if_pos rfl]; omega)
             | (rw [if_neg (by decide)]; omega))
      | (refine finV_lit vv ?_
         rw [hhigh.out]
         rw [hqt.out]
         first
           | (rw [if_pos rfl]; omega)
           | (rw [if_neg (by decide)]; omega))
end Go.Proofs.YtdefefeifcdogaaGreat
