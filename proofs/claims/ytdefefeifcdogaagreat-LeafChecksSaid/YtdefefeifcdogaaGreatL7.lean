/- A valid column, of the reference: all of it. -/
import Derived.Test.YtdefefeifcdogaaGreatL6
namespace Go.Proofs.YtdefefeifcdogaaGreat
open Go.RowKit
set_option linter.unusedSimpArgs false
set_option linter.unusedVariables false

set_option maxHeartbeats 1000000 in
theorem rright10_fn (x : Ins) (c : Clm) (hs : ClmSm c) : Fn Tryz.prog Gd 74 [x.val, c.val] (vbool (clmB x c)) := by
  refine Fn.of_vx0 k_theorboref10_right (by simp) (by rw [V.pures, pure_ins, V.pures, pure_clm]; rfl) ?_
  obtain ⟨bar, tie, sgs, ce⟩ := c
  have hls : sgs.length ≤ 17592186044416 := hs.ls
  have hsc : ce.length ≤ 17592186044416 := hs.lc
  have hse : ∀ i, i < ce.length → (ce.getD i []).length ≤ 17592186044416 := hs.le
  replace hse := Hid.mk hse
  clear hs
  unfold c_theorboref10_right
  by_cases hs0 : sgs.length = 0
  case pos =>
    have d1 : ((sgs.length : Int) == 0) = true := by rw [beq_iff_eq]; omega
    have hs0 := Hid.mk hs0
    clear hls
    repeat' (with_reducible first | refine x_ops ?_ | refine wk ?_ | ((first | refine gd1 ?_ ?_ | refine gd2 ?_ ?_ | refine gd3 ?_ ?_) <;> (first | exact @False.elim _ | intro hc)))
    refine finV_lit vv (clm_bad fun h => ?_)
    have := h.sgs.1
    have h9 := hs0.out
    rw [h9] at this
    cases this
  have d1 : ((sgs.length : Int) == 0) = false := by rw [beq_eq_false_iff_ne]; omega
  by_cases hlen : ce.length = x.cs.length
  case neg =>
    have d2 : ((ce.length : Int) == (x.cs.length : Int)) = false := by rw [beq_eq_false_iff_ne]; omega
    clear hs0
    repeat' (with_reducible first | refine x_ops ?_ | refine wk ?_ | ((first | refine gd1 ?_ ?_ | refine gd2 ?_ ?_ | refine gd3 ?_ ?_) <;> (first | exact @False.elim _ | intro hc)))
    exact finV_lit vv (clm_bad fun h => hlen h.len)
  have d2 : ((ce.length : Int) == (x.cs.length : Int)) = true := by rw [beq_iff_eq]; omega
  replace hlen := Hid.mk hlen
  replace hs0 := Hid.mk hs0
  repeat' (with_reducible first | refine x_ops ?_ | refine wk ?_ | ((first | refine gd1 ?_ ?_ | refine gd2 ?_ ?_ | refine gd3 ?_ ?_) <;> (first | exact @False.elim _ | intro hc)))
  refine x_loopF w_theorboref10_right_p5 kr sgs.length (fun k t => t 5 = vint k ∧ ∀ i, i < k → tkS (sgs.getD i default) ≠ 0 ∧ (0 < i → befS (sgs.getD (i - 1) default) (sgs.getD i default) = true)) ?_ ?_
  · exact ⟨vv, fun i h => by omega⟩
  rintro k t hk ⟨h5, hI⟩
  replace hI := Hid.mk hI
  by_cases hlt : k < sgs.length
  · have g1 := sg_take (l := sgs) (k := k) hlt
    have hL := sgs_len sgs
    have c2 : (k : Int) < (sgs.length : Int) := by omega
    have c4 : k * 3 + 3 ≤ sgs.length * 3 := by omega
    have w2 := w_add1 (k := k) (by omega)
    have T := rticks_fn (sgs.getD k default)
    have step : tkS (sgs.getD k default) ≠ 0 → (0 < k → befS (sgs.getD (k - 1) default) (sgs.getD k default) = true) → ∀ i, i < k + 1 → tkS (sgs.getD i default) ≠ 0 ∧ (0 < i → befS (sgs.getD (i - 1) default) (sgs.getD i default) = true) := fun h1 h2 i hi => by
      by_cases e : i = k
      · subst e; exact ⟨h1, h2⟩
      · exact hI.out i (by omega)
    have bad : (tkS (sgs.getD k default) = 0 ∨ 0 < k ∧ befS (sgs.getD (k - 1) default) (sgs.getD k default) = false) → ¬ ClmOk x ⟨bar, tie, sgs, ce⟩ := fun h h' => by
      have h9 := h'.sgs.2 k hlt
      rcases h with h | ⟨h, h2⟩
      · exact h9.1 h
      · have h8 : befS (sgs.getD (k - 1) default) (sgs.getD k default) = true := h9.2 h
        rw [h2] at h8; cases h8
    replace step := Hid.mk step
    replace bad := Hid.mk bad
    have hlt0 := Hid.mk hlt
    by_cases h0 : tkS (sgs.getD k default) = 0
    · have e1 : (tkS (sgs.getD k default) == 0) = true := by rw [h0]; rfl
      have h00 := Hid.mk h0
      clear h0 hk
      repeat' (with_reducible first | refine x_ops ?_ | refine wk ?_ | (with_reducible refine xc (T) ?_) | ((first | refine gd1 ?_ ?_ | refine gd2 ?_ ?_ | refine gd3 ?_ ?_) <;> (first | exact @False.elim _ | intro hc)))
      exact finV_lit vv (clm_bad (bad.out (.inl h00.out)))
    have e1 : (tkS (sgs.getD k default) == 0) = false := by rw [beq_eq_false_iff_ne]; exact h0
    have h00 := Hid.mk h0
    clear h0
    by_cases hk0 : 0 < k
    · have c5 : (0 : Int) < (k : Int) := by omega
      have g2 := sg_take (l := sgs) (k := k - 1) (by omega)
      have w1 := w_sub1 (k := k) hk0 (by omega)
      have c6 : ((k - 1 : Nat) : Int) < (sgs.length : Int) := by omega
      have c7 : (k - 1) * 3 + 3 ≤ sgs.length * 3 := by omega
      have B := before_fn (sgs.getD (k - 1) default) (sgs.getD k default)
      replace hk0 := Hid.mk hk0
      clear hk
      cases hb : befS (sgs.getD (k - 1) default) (sgs.getD k default)
      · rw [hb] at B
        repeat' (with_reducible first | refine x_ops ?_ | refine wk ?_ | (with_reducible refine xc (T) ?_) | (with_reducible refine xc (B) ?_) | ((first | refine gd1 ?_ ?_ | refine gd2 ?_ ?_ | refine gd3 ?_ ?_) <;> (first | exact @False.elim _ | intro hc)))
        exact finV_lit vv (clm_bad (bad.out (.inr ⟨hk0.out, hb⟩)))
      · rw [hb] at B
        repeat' (with_reducible first | refine x_ops ?_ | refine wk ?_ | (with_reducible refine xc (T) ?_) | (with_reducible refine xc (B) ?_) | ((first | refine gd1 ?_ ?_ | refine gd2 ?_ ?_ | refine gd3 ?_ ?_) <;> (first | exact @False.elim _ | intro hc)))
        exact nf hlt0.out ⟨vv, step.out h00.out fun _ => hb⟩ rfl
    · have c5 : ¬ (0 : Int) < (k : Int) := by omega
      clear hk
      repeat' (with_reducible first | refine x_ops ?_ | refine wk ?_ | (with_reducible refine xc (T) ?_) | ((first | refine gd1 ?_ ?_ | refine gd2 ?_ ?_ | refine gd3 ?_ ?_) <;> (first | exact @False.elim _ | intro hc)))
      exact nf hlt0.out ⟨vv, step.out h00.out fun h => absurd h hk0⟩ rfl
  have c1 : ¬ ((k : Int) < (sgs.length : Int)) := by omega
  have hS := ris_of (l := sgs) (by have := hs0.out; omega) fun i hi => hI.out i (by omega)
  replace hS := Hid.mk hS
  clear hI hlt hk hls
  repeat' (with_reducible first | refine x_ops ?_ | refine wk ?_ | ((first | refine gd1 ?_ ?_ | refine gd2 ?_ ?_ | refine gd3 ?_ ?_) <;> (first | exact @False.elim _ | intro hc)))
  refine x_loopF w_theorboref10_right_p17 kr ce.length (fun k t => t 6 = vint k ∧ ∀ i, i < k → CelOk (ce.getD i []) (x.cs.getD i default).f tie) ?_ ?_
  · exact ⟨vv, fun i h => by omega⟩
  clear c1 h5
  rintro k t hk ⟨h6, hI⟩
  replace hI := Hid.mk hI
  by_cases hlt : k < ce.length
  case neg =>
    have c1 : ¬ ((k : Int) < (ce.length : Int)) := by omega
    repeat' (with_reducible first | refine x_ops ?_ | refine wk ?_ | ((first | refine gd1 ?_ ?_ | refine gd2 ?_ ?_ | refine gd3 ?_ ?_) <;> (first | exact @False.elim _ | intro hc)))
    exact finV_lit vv (clm_good ⟨hlen.out, hS.out.1, hS.out.2, fun i hi => hI.out i (by have : i < ce.length := hi; omega)⟩)
  have g1 := iss_at (l := ce) (k := k) hlt
  have g2 := crs_at1 (l := x.cs) (k := k) (by have := hlen.out; omega)
  have hL := crss_len x.cs
  have c2 : (k : Int) < (ce.length : Int) := by omega
  have c3 : (k : Int) < (x.cs.length : Int) := by have := hlen.out; omega
  have w2 := w_add1 (k := k) (by omega)
  have hll := hse.out k hlt
  have bad : ¬ CelOk (ce.getD k []) (x.cs.getD k default).f tie → ¬ ClmOk x ⟨bar, tie, sgs, ce⟩ := fun h h' => h (h'.cel k hlt)
  have step : CelOk (ce.getD k []) (x.cs.getD k default).f tie → ∀ i, i < k + 1 → CelOk (ce.getD i []) (x.cs.getD i default).f tie := fun h i hi => by
    by_cases e : i = k
    · subst e; exact h
    · exact hI.out i (by omega)
  generalize ce.getD k [] = l at *
  generalize hfr : (x.cs.getD k default).f = fr at *
  replace hfr := Hid.mk hfr
  replace bad := Hid.mk bad
  replace step := Hid.mk step
  have hlt0 := Hid.mk hlt
  clear hk hlt
  by_cases hl0 : l.length = 0
  · have e1 : ((l.length : Int) == 0) = true := by rw [beq_iff_eq]; omega
    replace hl0 := Hid.mk hl0
    clear hll
    repeat' (with_reducible first | refine x_ops ?_ | refine wk ?_ | ((first | refine gd1 ?_ ?_ | refine gd2 ?_ ?_ | refine gd3 ?_ ?_) <;> (first | exact @False.elim _ | intro hc)))
    refine finV_lit vv (clm_bad (bad.out fun h => ?_))
    have := h.all.1
    have := hl0.out
    omega
  have e1 : ((l.length : Int) == 0) = false := by rw [beq_eq_false_iff_ne]; omega
  have hpos : 0 < l.length := by omega
  have g3 := ints_at (l := l) (k := 0) hpos
  have c4 : (0 : Int) < (l.length : Int) := by omega
  replace hl0 := Hid.mk hl0
  replace hpos := Hid.mk hpos
  by_cases htt : tie = true → (l.length = 1 ∧ l.getD 0 0 = -1)
  case neg =>
    have ht : tie = true := by
      cases tie
      · exact absurd (fun e => by cases e) htt
      · rfl
    subst ht
    have htt : ¬ (l.length = 1 ∧ l.getD 0 0 = -1) := fun h => htt fun _ => h
    have bad' : ¬ CelOk l fr true := fun h => htt (h.all.2.1 rfl)
    replace bad' := Hid.mk bad'
    by_cases h1 : l.length = 1
    · have e2 : ((l.length : Int) == 1) = true := by rw [beq_iff_eq]; omega
      have e3 : (l.getD 0 0 == -1) = false := by rw [beq_eq_false_iff_ne]; exact fun h => htt ⟨h1, h⟩
      clear h1 htt hll
      generalize l.getD 0 0 = l0 at *
      repeat' (with_reducible first | refine x_ops ?_ | refine wk ?_ | ((first | refine gd1 ?_ ?_ | refine gd2 ?_ ?_ | refine gd3 ?_ ?_) <;> (first | exact @False.elim _ | intro hc)))
      exact finV_lit vv (clm_bad (bad.out bad'.out))
    · have e2 : ((l.length : Int) == 1) = false := by rw [beq_eq_false_iff_ne]; omega
      clear h1 htt hll
      repeat' (with_reducible first | refine x_ops ?_ | refine wk ?_ | ((first | refine gd1 ?_ ?_ | refine gd2 ?_ ?_ | refine gd3 ?_ ?_) <;> (first | exact @False.elim _ | intro hc)))
      exact finV_lit vv (clm_bad (bad.out bad'.out))
  have c9 : k < x.cs.length := by omega
  have key := fun (t : Nat → V) (M : Mm) hM hn h7 h6 h2 => right_cells (x := x) (l := l) (k := k) (tie := tie) (M := M) (t := t) c9 (by omega) hpos.out htt hM hn h7 h6 h2
  replace bad := Hid.mk bad.out
  simp only [hfr.out] at key
  replace key := Hid.mk key
  replace htt := Hid.mk htt
  clear hll c9
  cases tie
  · repeat' (with_reducible first | refine x_ops ?_ | refine wk ?_ | ((first | refine gd1 ?_ ?_ | refine gd2 ?_ ?_ | refine gd3 ?_ ?_) <;> (first | exact @False.elim _ | intro hc)))
    refine x_edT 42535295865078622306694157795380429072 kr (key.out _ _ vv (by show 0 < 3; omega) vw vw vw) (fun hA t => ?_) (fun hB t ht => ?_)
    · clear key
      repeat' (with_reducible first | refine x_ops ?_ | refine wk ?_ | ((first | refine gd1 ?_ ?_ | refine gd2 ?_ ?_ | refine gd3 ?_ ?_) <;> (first | exact @False.elim _ | intro hc)))
      exact nf hlt0.out ⟨vv, step.out hA⟩ rfl
    · clear key
      repeat' (with_reducible first | refine x_ops ?_ | refine wk ?_ | ((first | refine gd1 ?_ ?_ | refine gd2 ?_ ?_ | refine gd3 ?_ ?_) <;> (first | exact @False.elim _ | intro hc)))
      exact finV_lit vw (clm_bad (bad.out hB))
  · have e2 : ((l.length : Int) == 1) = true := by rw [beq_iff_eq]; have := (htt.out rfl).1; omega
    have e3 : (l.getD 0 0 == -1) = true := by rw [beq_iff_eq]; exact (htt.out rfl).2
    generalize hl00 : l.getD 0 0 = l00 at *
    replace hl00 := Hid.mk hl00
    repeat' (with_reducible first | refine x_ops ?_ | refine wk ?_ | ((first | refine gd1 ?_ ?_ | refine gd2 ?_ ?_ | refine gd3 ?_ ?_) <;> (first | exact @False.elim _ | intro hc)))
    refine x_edT 42535295865078622306694157795380429072 kr (key.out _ _ vv (by show 0 < 3; omega) vw vw vw) (fun hA t => ?_) (fun hB t ht => ?_)
    · clear key
      repeat' (with_reducible first | refine x_ops ?_ | refine wk ?_ | ((first | refine gd1 ?_ ?_ | refine gd2 ?_ ?_ | refine gd3 ?_ ?_) <;> (first | exact @False.elim _ | intro hc)))
      exact nf hlt0.out ⟨vv, step.out hA⟩ rfl
    · clear key
      repeat' (with_reducible first | refine x_ops ?_ | refine wk ?_ | ((first | refine gd1 ?_ ?_ | refine gd2 ?_ ?_ | refine gd3 ?_ ?_) <;> (first | exact @False.elim _ | intro hc)))
      exact finV_lit vw (clm_bad (bad.out hB))
end Go.Proofs.YtdefefeifcdogaaGreat
