/- A valid column, of both. -/
import Derived.Test.YtdefefeifcdogaaGreatL4
namespace Go.Proofs.YtdefefeifcdogaaGreat
open Go.RowKit
set_option linter.unusedSimpArgs false
set_option linter.unusedVariables false

/-- A valid cell of a course with some frets. -/
structure CelOk (l : List Int) (fr : Int) (tie : Bool) : Prop where
  ris : risI l = true
  lo : -1 ≤ l.getD 0 0
  hi : l.getD (l.length - 1) 0 ≤ fr
  ti : tie = true → l.getD (l.length - 1) 0 ≤ -1
/-- A valid column for an instrument. -/
structure ClmOk (x : Ins) (c : Clm) : Prop where
  len : c.ce.length = x.cs.length
  ris : risS c.sgs = true
  tks : (c.sgs.any fun s => tkS s == 0) = false
  cel : ∀ i, i < c.ce.length → CelOk (c.ce.getD i []) (x.cs.getD i default).f c.tie
open Classical in
noncomputable def clmB (x : Ins) (c : Clm) : Bool := if ClmOk x c then true else false
theorem clm_bad {x : Ins} {c : Clm} (h : ¬ ClmOk x c) : Value.bool false = Value.bool (clmB x c) := by rw [clmB, if_neg h]
theorem clm_good {x : Ins} {c : Clm} (h : ClmOk x c) : Value.bool true = Value.bool (clmB x c) := by rw [clmB, if_pos h]
theorem risI_pos {l : List Int} (h : risI l = true) : 0 < l.length := by rw [risI, Bool.and_eq_true] at h; simpa using h.2
theorem risI_lt {l : List Int} (h : risI l = true) : ∀ i, i + 1 < l.length → l.getD i 0 < l.getD (i + 1) 0 := fun i hi => by
  rw [risI, Bool.and_eq_true, allB_iff] at h; simpa using h.1 i (by omega)
theorem risS_pos {l : List Sg} (h : risS l = true) : 0 < l.length := by rw [risS, Bool.and_eq_true] at h; simpa using h.2

/-- What fits in memory. -/
structure ClmSm (c : Clm) : Prop where
  ls : c.sgs.length ≤ 17592186044416
  lc : c.ce.length ≤ 17592186044416
  le : ∀ i, i < c.ce.length → (c.ce.getD i []).length ≤ 17592186044416

set_option maxHeartbeats 1000000 in
theorem right_fn (x : Ins) (c : Clm) (hs : ClmSm c) : Fn Tryz.prog Gd 72 [x.val, c.val] (vbool (clmB x c)) := by
  refine Fn.of_vx0 k_leaf_right (by simp) (by rw [V.pures, pure_ins, V.pures, pure_clm]; rfl) ?_
  obtain ⟨bar, tie, sgs, ce⟩ := c
  have hls : sgs.length ≤ 17592186044416 := hs.ls
  have hsc : ce.length ≤ 17592186044416 := hs.lc
  have hse : ∀ i, i < ce.length → (ce.getD i []).length ≤ 17592186044416 := hs.le
  replace hse := Hid.mk hse
  clear hs
  have R := risingS_fn sgs (by omega)
  have C := containsS_fn sgs (by omega) 145 (fun s => tkS s == 0) kr (fun k _ => bad1_fn (sgs.getD k default))
  unfold c_leaf_right
  by_cases hlen : ce.length = x.cs.length
  case neg =>
    have d1 : ((ce.length : Int) == (x.cs.length : Int)) = false := by rw [beq_eq_false_iff_ne]; omega
    clear R C
    repeat' (with_reducible first | refine x_ops ?_ | refine wk ?_ | ((first | refine gd1 ?_ ?_ | refine gd2 ?_ ?_ | refine gd3 ?_ ?_) <;> (first | exact @False.elim _ | intro hc)))
    exact finV_lit vv (clm_bad fun h => hlen h.len)
  have d1 : ((ce.length : Int) == (x.cs.length : Int)) = true := by rw [beq_iff_eq]; omega
  replace hlen := Hid.mk hlen
  cases hr : risS sgs
  · rw [hr] at R
    have hr' : ¬ ClmOk x ⟨bar, tie, sgs, ce⟩ := fun h => by rw [h.ris] at hr; cases hr
    replace hr' := Hid.mk hr'
    clear C hr
    repeat' (with_reducible first | refine x_ops ?_ | refine wk ?_ | (with_reducible refine xc (R) ?_) | ((first | refine gd1 ?_ ?_ | refine gd2 ?_ ?_ | refine gd3 ?_ ?_) <;> (first | exact @False.elim _ | intro hc)))
    exact finV_lit vv (clm_bad hr'.out)
  rw [hr] at R
  cases ht : (sgs.any fun s => tkS s == 0)
  case true =>
    rw [ht] at C
    have hr' : ¬ ClmOk x ⟨bar, tie, sgs, ce⟩ := fun h => by rw [h.tks] at ht; cases ht
    replace hr' := Hid.mk hr'
    clear ht hr
    repeat' (with_reducible first | refine x_ops ?_ | refine wk ?_ | (with_reducible refine xc (R) ?_) | (with_reducible refine xc (C) ?_) | ((first | refine gd1 ?_ ?_ | refine gd2 ?_ ?_ | refine gd3 ?_ ?_) <;> (first | exact @False.elim _ | intro hc)))
    exact finV_lit vv (clm_bad hr'.out)
  rw [ht] at C
  replace ht := Hid.mk ht
  replace hr := Hid.mk hr
  repeat' (with_reducible first | refine x_ops ?_ | refine wk ?_ | (with_reducible refine xc (R) ?_) | (with_reducible refine xc (C) ?_) | ((first | refine gd1 ?_ ?_ | refine gd2 ?_ ?_ | refine gd3 ?_ ?_) <;> (first | exact @False.elim _ | intro hc)))
  clear R C
  refine x_loopF w_leaf_right_p6 kr ce.length (fun k t => t 28 = vint k ∧ ∀ i, i < k → CelOk (ce.getD i []) (x.cs.getD i default).f tie) ?_ ?_
  · exact ⟨vv, fun i h => by omega⟩
  rintro k t hk ⟨h28, hI⟩
  replace hI := Hid.mk hI
  by_cases hlt : k < ce.length
  · have g1 := iss_at (l := ce) (k := k) hlt
    have g2 := crs_at1 (l := x.cs) (k := k) (by have := hlen.out; omega)
    have hL := crss_len x.cs
    have c2 : (k : Int) < (ce.length : Int) := by omega
    have c3 : (k : Int) < (x.cs.length : Int) := by have := hlen.out; omega
    have w2 := w_add1 (k := k) (by omega)
    have hll := hse.out k hlt
    have bad : ¬ CelOk (ce.getD k []) (x.cs.getD k default).f tie → ¬ ClmOk x ⟨bar, tie, sgs, ce⟩ := fun h h' => h (h'.cel k hlt)
    have step : CelOk (ce.getD k []) (x.cs.getD k default).f tie → ∀ i, i < k + 1 → CelOk (ce.getD i []) (x.cs.getD i default).f tie := fun h i hi => by
      by_cases e : i = k
      · subst e; exact h
      · exact hI.out i (by omega)
    generalize ce.getD k [] = l at *
    generalize (x.cs.getD k default).f = fr at *
    have RI := risingI_fn l (by omega)
    replace bad := Hid.mk bad
    replace step := Hid.mk step
    cases hri : risI l
    · rw [hri] at RI
      have bad' : ¬ CelOk l fr tie := fun h => by rw [h.ris] at hri; cases hri
      replace bad' := Hid.mk bad'
      clear hri
      repeat' (with_reducible first | refine x_ops ?_ | refine wk ?_ | (with_reducible refine xc (RI) ?_) | ((first | refine gd1 ?_ ?_ | refine gd2 ?_ ?_ | refine gd3 ?_ ?_) <;> (first | exact @False.elim _ | intro hc)))
      exact finV_lit vv (clm_bad (bad.out bad'.out))
    rw [hri] at RI
    have hpos := risI_pos hri
    have g3 := ints_at (l := l) (k := 0) hpos
    have g4 := ints_at (l := l) (k := l.length - 1) (by omega)
    have c4 : (0 : Int) < (l.length : Int) := by omega
    have c5 : ((l.length - 1 : Nat) : Int) < (l.length : Int) := by omega
    have w1 := w_sub1 (k := l.length) hpos (by omega)
    replace hri := Hid.mk hri
    clear hpos hll hk hsc
    have mkc : -1 ≤ l.getD 0 0 → l.getD (l.length - 1) 0 ≤ fr → (tie = true → l.getD (l.length - 1) 0 ≤ -1) → CelOk l fr tie := fun h1 h2 h3 => ⟨hri.out, h1, h2, h3⟩
    have bad2 : (CelOk l fr tie → False) → ¬ ClmOk x ⟨bar, tie, sgs, ce⟩ := bad.out
    replace mkc := Hid.mk mkc
    replace bad2 := Hid.mk bad2
    generalize hl0 : l.getD 0 0 = l0 at *
    generalize hl1 : l.getD (l.length - 1) 0 = l1 at *
    replace hl0 := Hid.mk hl0
    replace hl1 := Hid.mk hl1
    cases tie
    all_goals repeat' (with_reducible first | refine x_ops ?_ | refine wk ?_ | (with_reducible refine xc (RI) ?_) | ((first | refine gd1 ?_ ?_ | refine gd2 ?_ ?_ | refine gd3 ?_ ?_) <;> (first | exact @False.elim _ | intro hc)))
    all_goals first
      | (refine nf (by omega) ⟨vv, step.out (mkc.out (by omega) (by omega) (fun e => ?_))⟩ rfl
         first
           | omega
           | cases e)
      | (refine finV_lit vv (clm_bad (bad2.out fun h => ?_))
         have h1 := h.lo
         have h2 := h.hi
         rw [hl0.out] at h1
         rw [hl1.out] at h2
         first
           | omega
           | (have h3 := h.ti rfl
              rw [hl1.out] at h3
              omega))
  · have c1 : ¬ ((k : Int) < (ce.length : Int)) := by omega
    repeat' (with_reducible first | refine x_ops ?_ | refine wk ?_ | ((first | refine gd1 ?_ ?_ | refine gd2 ?_ ?_ | refine gd3 ?_ ?_) <;> (first | exact @False.elim _ | intro hc)))
    exact finV_lit vv (clm_good ⟨hlen.out, hr.out, ht.out, fun i hi => hI.out i (by have : i < ce.length := hi; omega)⟩)
end Go.Proofs.YtdefefeifcdogaaGreat
