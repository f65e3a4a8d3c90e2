/- A valid column, of the reference. -/
import Derived.Test.YtdefefeifcdogaaGreatL5
import Derived.Test.YtdefefeifcdogaaGreatWl
namespace Go.Proofs.YtdefefeifcdogaaGreat
open Go.RowKit
set_option linter.unusedSimpArgs false
set_option linter.unusedVariables false

theorem ris_mono {l : List Int} (h : ∀ i, i + 1 < l.length → l.getD i 0 < l.getD (i + 1) 0) (i : Nat) : ∀ j, i ≤ j → j < l.length → l.getD i 0 + ((j - i : Nat) : Int) ≤ l.getD j 0
  | 0, h1, h2 => by have : i = 0 := by omega
                    subst this; simp
  | j + 1, h1, h2 => by
    by_cases e : i = j + 1
    · subst e; simp
    · have h3 := ris_mono h i j (by omega) (by omega)
      have h4 := h j h2
      omega
theorem CelOk.all {l : List Int} {fr : Int} {tie : Bool} (h : CelOk l fr tie) : 0 < l.length ∧ (tie = true → l.length = 1 ∧ l.getD 0 0 = -1) ∧ ∀ j, j < l.length → -1 ≤ l.getD j 0 ∧ l.getD j 0 ≤ fr ∧ (0 < j → l.getD (j - 1) 0 < l.getD j 0) := by
  have hp := risI_pos h.ris
  have hm := ris_mono (risI_lt h.ris)
  have h1 := h.lo
  have h2 := h.hi
  refine ⟨hp, fun ht => ?_, fun j hj => ⟨?_, ?_, fun h0 => ?_⟩⟩
  · have h3 := h.ti ht
    have h4 := hm 0 (l.length - 1) (by omega) (by omega)
    omega
  · have h4 := hm 0 j (by omega) hj
    omega
  · have h4 := hm j (l.length - 1) (by omega) (by omega)
    omega
  · have h4 := risI_lt h.ris (j - 1) (by omega)
    rwa [Nat.sub_add_cancel h0] at h4
theorem CelOk.of {l : List Int} {fr : Int} {tie : Bool} (h0 : 0 < l.length) (ht : tie = true → l.length = 1 ∧ l.getD 0 0 = -1) (h : ∀ j, j < l.length → -1 ≤ l.getD j 0 ∧ l.getD j 0 ≤ fr ∧ (0 < j → l.getD (j - 1) 0 < l.getD j 0)) : CelOk l fr tie where
  ris := by
    rw [risI, decide_eq_true h0, Bool.and_true]
    exact allB_true fun i hi => decide_eq_true (by have := (h (i + 1) (by omega)).2.2 (by omega); simpa using this)
  lo := (h 0 h0).1
  hi := (h (l.length - 1) (by omega)).2.1
  ti := fun e => by have := ht e; rw [this.1]; show l.getD 0 0 ≤ -1; omega
theorem ris_of {l : List Sg} (h0 : 0 < l.length) (h : ∀ i, i < l.length → tkS (l.getD i default) ≠ 0 ∧ (0 < i → befS (l.getD (i - 1) default) (l.getD i default) = true)) : risS l = true ∧ (l.any fun s => tkS s == 0) = false := by
  constructor
  · rw [risS, decide_eq_true h0, Bool.and_true]
    exact allB_true fun i hi => by have := (h (i + 1) (by omega)).2 (by omega); simpa using this
  · rw [List.any_eq_false]
    intro x hx
    obtain ⟨i, hi, rfl⟩ := List.mem_iff_getElem.1 hx
    have := (h i hi).1
    rw [List.getD_eq_getElem?_getD, List.getElem?_eq_getElem hi, Option.getD_some] at this
    simpa using this
theorem ClmOk.sgs {x : Ins} {c : Clm} (h : ClmOk x c) : 0 < c.sgs.length ∧ ∀ i, i < c.sgs.length → tkS (c.sgs.getD i default) ≠ 0 ∧ (0 < i → befS (c.sgs.getD (i - 1) default) (c.sgs.getD i default) = true) := by
  refine ⟨risS_pos h.ris, fun i hi => ⟨fun e => ?_, fun h0 => ?_⟩⟩
  · have := List.any_eq_false.1 h.tks (c.sgs.getD i default) (by rw [List.getD_eq_getElem?_getD, List.getElem?_eq_getElem hi]; exact List.getElem_mem hi)
    rw [e] at this
    exact this rfl
  · have h1 := h.ris
    rw [risS, Bool.and_eq_true, allB_iff] at h1
    have := h1.1 (i - 1) (by omega)
    rwa [Nat.sub_add_cancel h0] at this

/-- The numbers of a cell, looked at one by one. -/
theorem right_cells {x : Ins} {l : List Int} {k : Nat} {tie : Bool} (hk : k < x.cs.length) (hl : l.length ≤ 17592186044416) (h0 : 0 < l.length) (ht : tie = true → l.length = 1 ∧ l.getD 0 0 = -1) {M : Mm} (hM : M.obj 0 = some (.box [.sl x.cs.length (x.cs.flatMap Crs.cells) .no, .sl x.st.length (x.st.map vint) .no] 25)) (hn : 0 < M.next) {t : Nat → V}
    (h7 : t 7 = .sl l.length (l.map vint) .no) (h6 : t 6 = vint k) (h2 : t 2 = .ptr 0 0) :
    (c_theorboref10_right_p13).vx Tryz.prog Gd (EdQ M (CelOk l (x.cs.getD k default).f tie) (¬ CelOk l (x.cs.getD k default).f tie) 4 (vbool false)) ⟨t, M⟩ := by
  unfold c_theorboref10_right_p13
  have g2 := crs_at1 (l := x.cs) (k := k) hk
  have hL := crss_len x.cs
  have c3 : (k : Int) < (x.cs.length : Int) := by omega
  replace ht := Hid.mk ht
  replace h0 := Hid.mk h0
  clear hk
  generalize (x.cs.getD k default).f = fr at *
  repeat' (with_reducible first | refine x_ops ?_ | refine wk ?_ | ((first | refine gd1 ?_ ?_ | refine gd2 ?_ ?_ | refine gd3 ?_ ?_) <;> (first | exact @False.elim _ | intro hc)))
  refine x_loopF w_theorboref10_right_p11 kr l.length (fun j t => t 8 = vint j ∧ ∀ i, i < j → -1 ≤ l.getD i 0 ∧ l.getD i 0 ≤ fr ∧ (0 < i → l.getD (i - 1) 0 < l.getD i 0)) ?_ ?_
  · exact ⟨vv, fun i h => by omega⟩
  rintro j t' hj ⟨h8, hJ⟩
  replace hJ := Hid.mk hJ
  by_cases hjl : j < l.length
  case neg =>
    have c8 : ¬ (j : Int) < (l.length : Int) := by omega
    have hok : CelOk l fr tie := CelOk.of h0.out ht.out fun i hi => hJ.out i (by omega)
    replace hok := Hid.mk hok
    clear hjl hj
    repeat' (with_reducible first | refine x_ops ?_ | refine wk ?_ | ((first | refine gd1 ?_ ?_ | refine gd2 ?_ ?_ | refine gd3 ?_ ?_) <;> (first | exact @False.elim _ | intro hc)))
    exact edN rfl hok.out
  have g3 := ints_at (l := l) (k := j) hjl
  have c8 : (j : Int) < (l.length : Int) := by omega
  have w8 := w_add1 (k := j) (by omega)
  have hjl0 := Hid.mk hjl
  have bad : (-1 ≤ l.getD j 0 ∧ l.getD j 0 ≤ fr ∧ (0 < j → l.getD (j - 1) 0 < l.getD j 0) → False) → ¬ CelOk l fr tie := fun h h' => h (h'.all.2.2 j hjl)
  have step : -1 ≤ l.getD j 0 → l.getD j 0 ≤ fr → (0 < j → l.getD (j - 1) 0 < l.getD j 0) → ∀ i, i < j + 1 → -1 ≤ l.getD i 0 ∧ l.getD i 0 ≤ fr ∧ (0 < i → l.getD (i - 1) 0 < l.getD i 0) := fun a b c i hi => by
    by_cases e : i = j
    · subst e; exact ⟨a, b, c⟩
    · exact hJ.out i (by omega)
  replace bad := Hid.mk bad
  replace step := Hid.mk step
  by_cases hj0 : 0 < j
  · have g4 := ints_at (l := l) (k := j - 1) (by omega)
    have c9 : ((j - 1 : Nat) : Int) < (l.length : Int) := by omega
    have c10 : (0 : Int) < (j : Int) := by omega
    have w9 := w_sub1 (k := j) hj0 (by omega)
    replace hj0 := Hid.mk hj0
    clear hj hjl
    generalize l.getD j 0 = a at *
    generalize l.getD (j - 1) 0 = b at *
    repeat' (with_reducible first | refine x_ops ?_ | refine wk ?_ | ((first | refine gd1 ?_ ?_ | refine gd2 ?_ ?_ | refine gd3 ?_ ?_) <;> (first | exact @False.elim _ | intro hc)))
    all_goals first
      | (refine nf hjl0.out ⟨vv, step.out (by omega) (by omega) (fun _ => by omega)⟩ rfl; done)
      | (refine edR rfl vv (bad.out fun h => ?_)
         have h3 := h.2.2 hj0.out
         omega)
  · have c10 : ¬ (0 : Int) < (j : Int) := by omega
    replace hj0 := Hid.mk hj0
    clear hj hjl
    generalize l.getD j 0 = a at *
    generalize l.getD (j - 1) 0 = b at *
    repeat' (with_reducible first | refine x_ops ?_ | refine wk ?_ | ((first | refine gd1 ?_ ?_ | refine gd2 ?_ ?_ | refine gd3 ?_ ?_) <;> (first | exact @False.elim _ | intro hc)))
    all_goals first
      | (refine nf hjl0.out ⟨vv, step.out (by omega) (by omega) (fun h => absurd h hj0.out)⟩ rfl; done)
      | (refine edR rfl vv (bad.out fun h => ?_)
         omega)
end Go.Proofs.YtdefefeifcdogaaGreat
