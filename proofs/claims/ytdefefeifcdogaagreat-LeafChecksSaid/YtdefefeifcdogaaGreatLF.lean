/- The readings of a column, by the reference: rows that grow by a number. -/
import Derived.Test.YtdefefeifcdogaaGreatLE
namespace Go.Proofs.YtdefefeifcdogaaGreat
open Go.RowKit
set_option linter.unusedSimpArgs false
set_option linter.unusedVariables false

/-- Rows, longer by a number of a cell: of the first j rows, and n of the next one. -/
def extL (A : List (List Int)) (cell : List Int) (j n : Nat) : List (List Int) := ((A.take j).flatMap fun r => cell.map fun x => r ++ [x]) ++ ((cell.take n).map fun x => A.getD j [] ++ [x])
theorem extL_n {A : List (List Int)} {cell : List Int} {j n : Nat} (hn : n < cell.length) : extL A cell j (n + 1) = extL A cell j n ++ [A.getD j [] ++ [cell.getD n 0]] := by
  rw [extL, extL, List.append_assoc, List.take_add_one, List.getElem?_eq_getElem hn, List.map_append, List.getD_eq_getElem?_getD (l := cell), List.getElem?_eq_getElem hn]; rfl
theorem extL_j {A : List (List Int)} {cell : List Int} {j : Nat} (hj : j < A.length) : extL A cell (j + 1) 0 = extL A cell j cell.length := by
  rw [extL, extL, List.take_zero, List.map_nil, List.append_nil, List.take_add_one, List.getElem?_eq_getElem hj, List.flatMap_append, List.take_length, List.getD_eq_getElem?_getD, List.getElem?_eq_getElem hj]
  simp
theorem extL_len {A : List (List Int)} {cell : List Int} {j n : Nat} (hj : j ≤ A.length) (hn : n ≤ cell.length) : (extL A cell j n).length = j * cell.length + n := by
  rw [extL, List.length_append, List.length_map, List.length_take, List.length_flatMap]
  have : ∀ l : List (List Int), (l.map fun r => (cell.map fun x => r ++ [x]).length).sum = l.length * cell.length := fun l => by
    induction l with
    | nil => simp
    | cons a l ih => rw [List.map_cons, List.sum_cons, ih, List.length_map, List.length_cons, Nat.add_mul]; omega
  rw [this, List.length_take, Nat.min_eq_left hj, Nat.min_eq_left hn]
theorem extL_all (A : List (List Int)) (cell : List Int) : extL A cell A.length 0 = A.flatMap fun r => cell.map fun x => r ++ [x] := by
  rw [extL, List.take_zero, List.map_nil, List.append_nil, List.take_length]
/-- A piece goes on with a row of rows in a slot; what stood before stays. -/
def RdQ (M : Mm) (L : List (List Int)) (r : Nat) (e : VX) (s : St) : Prop := e = .nrm ∧ (∃ tok, s.t r = .sl L.length (L.map tIs) tok) ∧ (∀ q, q < M.next → s.m.obj q = M.obj q) ∧ M.next ≤ s.m.next
set_option maxHeartbeats 2000000 in
theorem read_step {c : Clm} {k : Nat} (hk : k < c.ce.length) {A : List (List Int)} (hA : A.length ≤ 1000000) (hw : ∀ r ∈ A, r.length ≤ 1000000) (hc : (c.ce.getD k []).length ≤ 1000000) {M : Mm} {t : Nat → V} {k5 : Tok}
    (hM : M.obj 0 = some (.box [vbool c.bar, vbool c.tie, .sl c.sgs.length (c.sgs.flatMap Sg.cells) .no, .sl c.ce.length (c.ce.map tIs) .no] 84)) (hn : 0 < M.next)
    (h1 : t 1 = .ptr 0 0) (h5 : t 5 = .sl A.length (A.map tIs) k5) (h6 : t 6 = vint k) (h7 : t 7 = .sl 0 [] .exact) :
    (c_theorboref10_readings_p10).vx Tryz.prog Gd (RdQ M (A.flatMap fun r => (c.ce.getD k []).map fun x => r ++ [x]) 5) ⟨t, M⟩ := by
  unfold c_theorboref10_readings_p10
  have g1 := iss_at (l := c.ce) (k := k) hk
  have c0 : (k : Int) < (c.ce.length : Int) := by omega
  generalize c.ce.getD k [] = cell at *
  have hw0 := Hid.mk hw
  have hn0 := Hid.mk hn
  clear hw hk
  repeat' (with_reducible first | refine x_ops ?_ | refine wk ?_ | ((first | refine gd1 ?_ ?_ | refine gd2 ?_ ?_ | refine gd3 ?_ ?_) <;> (first | exact @False.elim _ | intro hc)))
  refine x_loopW w_theorboref10_readings_p7 kr A.length (fun j t m => t 8 = vint j ∧ (m.obj 0 = some (.box [vbool c.bar, vbool c.tie, .sl c.sgs.length (c.sgs.flatMap Sg.cells) .no, .sl c.ce.length (c.ce.map tIs) .no] 84) ∧ 0 < m.next) ∧ ((∀ q, q < M.next → m.obj q = M.obj q) ∧ M.next ≤ m.next) ∧ ∃ tok, t 7 = .sl (extL A cell j 0).length ((extL A cell j 0).map tIs) tok ∧ Apb m tok (extL A cell j 0).length 23 1 ∧ ∀ q, tok = .own q → M.next ≤ q) ?_ ?_
  · refine ⟨vv, ⟨hM, hn⟩, ⟨fun _ _ => rfl, Nat.le_refl _⟩, .exact, ?_, .inl rfl, fun q e => by cases e⟩
    rw [show extL A cell 0 0 = [] from rfl]
    exact vw
  clear hM hn h7
  rintro j t1 m hj ⟨h8, ⟨hm, hn⟩, hfr, tok, h7, hap, htk⟩
  have hfr0 := Hid.mk hfr
  by_cases hlt : j < A.length
  case neg =>
    have c1 : ¬ (j : Int) < (A.length : Int) := by omega
    have hjl : j = A.length := by omega
    subst hjl
    rw [extL_all] at h7
    replace hap := Hid.mk hap
    replace htk := Hid.mk htk
    clear hlt hj hfr
    repeat' (with_reducible first | refine x_ops ?_ | refine wk ?_ | ((first | refine gd1 ?_ ?_ | refine gd2 ?_ ?_ | refine gd3 ?_ ?_) <;> (first | exact @False.elim _ | intro hc)))
    exact ⟨rfl, ⟨tok, vv⟩, hfr0.out.1, hfr0.out.2⟩
  have gA := iss_at (l := A) (k := j) hlt
  have hwr := hw0.out (A.getD j []) (by rw [List.getD_eq_getElem?_getD, List.getElem?_eq_getElem hlt]; exact List.getElem_mem hlt)
  have c1 : (j : Int) < (A.length : Int) := by omega
  have w1 := w_add1 (k := j) (by omega)
  have hlt0 := Hid.mk hlt
  replace hap := Hid.mk hap
  replace htk := Hid.mk htk
  clear hlt hj hfr
  repeat' (with_reducible first | refine x_ops ?_ | refine wk ?_ | ((first | refine gd1 ?_ ?_ | refine gd2 ?_ ?_ | refine gd3 ?_ ?_) <;> (first | exact @False.elim _ | intro hc)))
  refine x_loopW w_theorboref10_readings_p3 kr cell.length (fun n t m => t 9 = vint n ∧ (m.obj 0 = some (.box [vbool c.bar, vbool c.tie, .sl c.sgs.length (c.sgs.flatMap Sg.cells) .no, .sl c.ce.length (c.ce.map tIs) .no] 84) ∧ 0 < m.next) ∧ ((∀ q, q < M.next → m.obj q = M.obj q) ∧ M.next ≤ m.next) ∧ ∃ tok, t 7 = .sl (extL A cell j n).length ((extL A cell j n).map tIs) tok ∧ Apb m tok (extL A cell j n).length 23 1 ∧ ∀ q, tok = .own q → M.next ≤ q) ?_ ?_
  · refine ⟨vv, ⟨hm, hn⟩, hfr0.out, tok, ?_, hap.out, htk.out⟩
    exact vw
  clear h7 hap htk hm hn hfr0
  rintro n t2 m2 hn2 ⟨h9, ⟨hm, hn⟩, hfr, tok2, h7, hap, htk⟩
  by_cases hlt : n < cell.length
  case neg =>
    have c2 : ¬ (n : Int) < (cell.length : Int) := by omega
    have hnl : n = cell.length := by omega
    subst hnl
    rw [← extL_j hlt0.out] at h7 hap
    replace hap := Hid.mk hap
    replace htk := Hid.mk htk
    replace hfr := Hid.mk hfr
    clear hlt hn2
    repeat' (with_reducible first | refine x_ops ?_ | refine wk ?_ | ((first | refine gd1 ?_ ?_ | refine gd2 ?_ ?_ | refine gd3 ?_ ?_) <;> (first | exact @False.elim _ | intro hc)))
    exact nx hlt0.out ⟨vv, ⟨hm, hn⟩, hfr.out, tok2, vw, hap.out, htk.out⟩
  have g2 := ints_at (l := cell) (k := n) hlt
  have c2 : (n : Int) < (cell.length : Int) := by omega
  have w2 := w_add1 (k := n) (by omega)
  have hlt2 := Hid.mk hlt
  have hsn : (extL A cell j (n + 1)).length = (extL A cell j n).length + 1 := by rw [extL_n hlt]; simp
  have hmn : (extL A cell j (n + 1)).map tIs = (extL A cell j n).map tIs ++ [.sl ((A.getD j []).length + 1) ((A.getD j []).map vint ++ [vint (cell.getD n 0)]) .no] := by rw [extL_n hlt, List.map_append, List.map_singleton, tIs, List.length_append, List.map_append]; rfl
  have hle : (extL A cell j n).length ≤ 1000000 * 1000000 + 1000000 := by
    rw [extL_len (by have := hlt0.out; omega) (by omega)]
    have h1 := hlt0.out
    have := Nat.mul_le_mul (show j ≤ 1000000 by omega) hc
    omega
  generalize hL1 : extL A cell j (n + 1) = L1 at *
  replace hL1 := Hid.mk hL1
  generalize extL A cell j n = L at *
  generalize A.getD j [] = r at *
  generalize cell.getD n 0 = y at *
  replace hap := Hid.mk hap
  replace htk := Hid.mk htk
  replace hfr := Hid.mk hfr
  replace hsn := Hid.mk hsn
  replace hmn := Hid.mk hmn
  replace hle := Hid.mk hle
  clear hlt hn2
  repeat' (with_reducible first | refine x_ops ?_ | refine wk ?_ | ((first | refine gd1 ?_ ?_ | refine gd2 ?_ ?_ | refine gd3 ?_ ?_) <;> (first | exact @False.elim _ | intro hc)))
  refine x_appE (n := 0) (xs := []) (j := r.length) (ys := r.map vint) vw vw rfl (by simp) (by omega) (by unfold Go.maxLen; omega) ?_
  repeat' (with_reducible first | refine x_ops ?_ | refine wk ?_ | ((first | refine gd1 ?_ ?_ | refine gd2 ?_ ?_ | refine gd3 ?_ ?_) <;> (first | exact @False.elim _ | intro hc)))
  refine x_appO (n := 0 + r.length) (xs := [] ++ r.map vint) (t := m2.next + 5) (j := 1) (ys := [vint y]) (k2 := .exact) vw vw rfl vw (by simp) rfl (by omega) (by unfold Go.maxLen; omega) ?_
  repeat' (with_reducible first | refine x_ops ?_ | refine wk ?_ | ((first | refine gd1 ?_ ?_ | refine gd2 ?_ ?_ | refine gd3 ?_ ?_) <;> (first | exact @False.elim _ | intro hc)))
  have hle1 := hle.out
  have hx5 : ∀ q, tok2 = .own q → q ≠ m2.next + 5 := fun q e => by
    rcases hap.out with h | ⟨q', h', h2, _⟩
    · rw [h] at e; cases e
    · rw [h'] at e; injection e with e; subst e; omega
  refine x_appc (n := L.length) (xs := L.map tIs) (j := 1) (ys := [.sl (r.length + 1) (r.map vint ++ [vint y]) .no]) (k := tok2) (k2 := .exact) vw vw (hap.out.mono (fun q hq ho => ?_) (Nat.le_add_right _ _)) (by simp) rfl (by omega) (by unfold Go.maxLen; omega) (by show m2.next + 17 < m2.next + 19; omega) ?_
  · have hq1 : q < m2.next := hq
    show (if q = m2.next + 5 then _ else (if q = m2.next + 5 then _ else m2.obj q)) = m2.obj q
    rw [if_neg (by omega), if_neg (by omega)]
  intro tok3 m3 hap3 hn3 hf3 hq3
  have hnn : m3.next = m2.next + 19 := hn3
  have hold : ∀ q, q < m2.next → tok2 ≠ .own q → m3.obj q = m2.obj q := fun q hq hne => by
    refine (hf3 q (by show ¬ q = m2.next + 17; omega) hne).trans ?_
    show (if q = m2.next + 5 then _ else (if q = m2.next + 5 then _ else m2.obj q)) = m2.obj q
    rw [if_neg (by omega), if_neg (by omega)]
  have hm3 : m3.obj 0 = some (.box [vbool c.bar, vbool c.tie, .sl c.sgs.length (c.sgs.flatMap Sg.cells) .no, .sl c.ce.length (c.ce.map tIs) .no] 84) := (hold 0 hn (hap.out.box hm)).trans hm
  have hfr3 : (∀ q, q < M.next → m3.obj q = M.obj q) ∧ M.next ≤ m3.next := ⟨fun q hq => (hold q (by have := hfr.out.2; omega) fun e => by have := htk.out q e; omega).trans (hfr.out.1 q hq), by have := hfr.out.2; omega⟩
  have htk3 : ∀ q, tok3 = .own q → M.next ≤ q := fun q e => by
    rcases hq3 q e with h | h
    · have h' : q = m2.next + 17 := h
      have := hfr.out.2
      omega
    · exact htk.out q h
  replace hm3 := Hid.mk hm3
  replace hap3 := Hid.mk hap3
  clear hm hf3 hq3 hn3 hold hx5
  repeat' (with_reducible first | refine x_ops ?_ | refine wk ?_ | ((first | refine gd1 ?_ ?_ | refine gd2 ?_ ?_ | refine gd3 ?_ ?_) <;> (first | exact @False.elim _ | intro hc)))
  refine nx hlt2.out ⟨vv, ⟨hm3.out, by show 0 < m2.next + 19; omega⟩, ⟨hfr3.1, by show M.next ≤ m2.next + 19; have := hfr.out.2; omega⟩, tok3, ?_, ?_, htk3⟩
  · rw [hL1.out, hsn.out, hmn.out]; exact vv
  · rw [hL1.out, hsn.out]; exact hap3.out.mono (fun _ _ _ => rfl) (by show m3.next ≤ m2.next + 19; omega)
end Go.Proofs.YtdefefeifcdogaaGreat
