/- Piece of the program. -/
import Derived.Test.YtdefefeifcdogaaGreatLJ
namespace Go.Proofs.YtdefefeifcdogaaGreat
open Go.RowKit
set_option linter.unusedSimpArgs false
set_option linter.unusedVariables false

/-- The event of a column's first reading. -/
def evF1 (c : Clm) : Evt := evtR c (frR c)
def fsN (ce : List (List Int)) : List Int := ce.map fun l => l.getD 0 0
theorem fsN_succ {ce : List (List Int)} {j : Nat} (h : j < ce.length) {a : Int} (ha : ce.getD j [] = [a]) : ((fsN ce).take (j + 1)).map vint = ((fsN ce).take j).map vint ++ [vint a] := by
  have h2 : ce[j] = [a] := by rw [← ha, List.getD_eq_getElem?_getD, List.getElem?_eq_getElem h]; rfl
  rw [fsN, List.take_add_one, List.getElem?_map, List.getElem?_eq_getElem h, h2, List.map_append]; rfl
set_option maxHeartbeats 4000000 in
theorem piece_fn (f : Lf) (hs : LfSm f) : Fn Tryz.prog Gd 31 [f.val] (.tup [(pieR f).1.val, vint (pieR f).2]) := by
  refine Fn.of_vx0 k_leaf_Piece (by simp) (by rw [V.pures, pure_lf]; rfl) ?_
  have K := lcheck_fn f hs
  unfold c_leaf_Piece
  by_cases h0 : lchk f = 0
  case neg =>
    have c1 : (lchk f == 0) = false := by rw [beq_eq_false_iff_ne]; exact h0
    have hq : pieR f = (noP, lchk f) := by rw [pieR, if_pos h0]
    rw [hq]
    replace hq := Hid.mk hq
    clear h0 hs
    repeat' (with_reducible first | refine x_ops ?_ | refine wk ?_ | (with_reducible refine xc (K) ?_) | ((first | refine gd1 ?_ ?_ | refine gd2 ?_ ?_ | refine gd3 ?_ ?_) <;> (first | exact @False.elim _ | intro hc)))
    refine finV_ret vv ?_
    exact .tup (.cons (.agg (.cons (.sl _ _ _) (.cons (.sl _ _ _) (.cons (.sl _ _ _) .nil)))) (.cons (.lit _) .nil))
  have c1 : (lchk f == 0) = true := by rw [h0]; rfl
  obtain ⟨q1, q2, q3⟩ := lchk_zero h0
  obtain ⟨q4, q5, _⟩ := chkI_small q1
  have hq : pieR f = if oneL f = true then (thP f, 0) else (noP, 101) := by rw [pieR, if_neg (by omega)]
  replace hq := Hid.mk hq
  have q30 := Hid.mk q3
  have C := copied_fn f.ins (by omega) (by omega)
  clear h0 hs q1 q3
  repeat' (with_reducible first | refine x_ops ?_ | refine wk ?_ | (with_reducible refine xc (K) ?_) | (with_reducible refine xc (C) ?_) | ((first | refine gd1 ?_ ?_ | refine gd2 ?_ ?_ | refine gd3 ?_ ?_) <;> (first | exact @False.elim _ | intro hc)))
  clear K C c1
  refine x_loopW w_leaf_Piece_p17 kr f.cols.length (fun k t m => t 24 = vint k ∧ (m.obj 1 = some (.box [.sl 0 [] .exact, .sl 0 [] .exact, .sl 0 [] .exact] 49) ∧ 7 < m.next) ∧ (∃ tok, m.obj 7 = some (.box [.sl f.ins.cs.length (f.ins.cs.flatMap Crs.cells) .no, .sl f.ins.st.length (f.ins.st.map vint) .no, .sl k (((f.cols.map evF1).take k).flatMap Evt.cells) tok] 49) ∧ Apb m tok k 136 6) ∧ ∀ i, i < k → oneC (f.cols.getD i default) = true) ?_ ?_
  · exact ⟨vv, ⟨vv, by show 7 < 9; omega⟩, ⟨.exact, vv, .inl rfl⟩, fun i hi => by omega⟩
  rintro k t m hk ⟨h24, ⟨hm1, hn⟩, ⟨tok, h7, hap⟩, hI⟩
  replace hap := Hid.mk hap
  replace hI := Hid.mk hI
  by_cases hlt : k < f.cols.length
  case neg =>
    have c1 : ¬ (k : Int) < (f.cols.length : Int) := by omega
    have hkl : k = f.cols.length := by omega
    subst hkl
    have hol : oneL f = true := oneL_iff.2 fun i hi => hI.out i hi
    have hqq := hq.out
    rw [if_pos hol] at hqq
    have e1 : (pieR f).1 = thP f := by rw [hqq]
    have e2 : (pieR f).2 = 0 := by rw [hqq]
    have e3 : (thP f).es.length = f.cols.length := List.length_map ..
    rw [e1, e2, e3]
    have ht : (f.cols.map evF1).take f.cols.length = (thP f).es := List.take_of_length_le (by simp)
    rw [ht] at h7
    clear hlt hk hqq ht e1 e2 e3
    repeat' (with_reducible first | refine x_ops ?_ | refine wk ?_ | ((first | refine gd1 ?_ ?_ | refine gd2 ?_ ?_ | refine gd3 ?_ ?_) <;> (first | exact @False.elim _ | intro hc)))
    refine finV_ret vv ?_
    exact .tup (.cons (.agg (.cons (.sl _ _ _) (.cons (.sl _ _ _) (.cons (.sl _ _ _) .nil)))) (.cons (.lit _) .nil))
  have hlt0 := Hid.mk hlt
  have g1 := clm_take (l := f.cols) (k := k) hlt
  have hL1 := clms_len f.cols
  have c1 : (k : Int) < (f.cols.length : Int) := by omega
  have c3 : k * 4 + 4 ≤ f.cols.length * 4 := by omega
  have w1 := w_add1 (k := k) (by omega)
  have hcl := (q30.out k hlt).1
  have hci : ∀ i, i < (f.cols.getD k default).ce.length → 0 < ((f.cols.getD k default).ce.getD i []).length := fun i hi => risI_pos (hcl.cel i hi).ris
  have hsg : 0 < (f.cols.getD k default).sgs.length := risS_pos hcl.ris
  have hcn : (f.cols.getD k default).ce.length ≤ 14 := by have := hcl.len; omega
  have hgk : f.cols[k] = f.cols.getD k default := by rw [List.getD_eq_getElem?_getD, List.getElem?_eq_getElem hlt]; rfl
  have htk : ((f.cols.map evF1).take (k + 1)).flatMap Evt.cells = ((f.cols.map evF1).take k).flatMap Evt.cells ++ (evF1 (f.cols.getD k default)).cells := by
    rw [List.take_add_one, List.getElem?_map, List.getElem?_eq_getElem hlt, List.flatMap_append, hgk]
    simp
  have hsl : (((f.cols.map evF1).take k).flatMap Evt.cells).length = k * 6 := by
    rw [evts_len, List.length_take, List.length_map, Nat.min_eq_left (by omega)]
  have hst : oneC (f.cols.getD k default) = true → ∀ i, i < k + 1 → oneC (f.cols.getD i default) = true := fun h1 i hi => by
    by_cases e : i = k
    · subst e; exact h1
    · exact hI.out i (by omega)
  have hno : ¬ oneC (f.cols.getD k default) = true → pieR f = (noP, 101) := fun h1 => by
    rw [hq.out, if_neg fun ho => h1 (oneL_iff.1 ho k hlt)]
  replace hci := Hid.mk hci
  replace hsg := Hid.mk hsg
  replace hcn := Hid.mk hcn
  replace htk := Hid.mk htk
  replace hsl := Hid.mk hsl
  replace hst := Hid.mk hst
  replace hno := Hid.mk hno
  have q20 := Hid.mk q2
  have hnx := Hid.mk hn
  clear hlt hk hgk hcl q2 q30 hI
  generalize f.cols.getD k default = c at *
  generalize hL9 : ((f.cols.map evF1).take (k + 1)).flatMap Evt.cells = L9 at *
  generalize ((f.cols.map evF1).take k).flatMap Evt.cells = L8 at *
  obtain ⟨bar, tie, sgs, ce⟩ := c
  replace hL9 := Hid.mk hL9
  repeat' (with_reducible first | refine x_ops ?_ | refine wk ?_ | ((first | refine gd1 ?_ ?_ | refine gd2 ?_ ?_ | refine gd3 ?_ ?_) <;> (first | exact @False.elim _ | intro hc)))
  refine x_loopW w_leaf_Piece_p8 kr ce.length (fun j t' m' => t' 31 = vint j ∧ (m'.obj 1 = some (.box [.sl 0 [] .exact, .sl 0 [] .exact, .sl 0 [] .exact] 49) ∧ m'.obj 7 = some (.box [.sl f.ins.cs.length (f.ins.cs.flatMap Crs.cells) .no, .sl f.ins.st.length (f.ins.st.map vint) .no, .sl k L8 tok] 49) ∧ m'.obj (m.next + 2) = some (.box [vbool bar, vbool tie, .sl sgs.length (sgs.flatMap Sg.cells) .no, .sl ce.length (ce.map tIs) .no] 84) ∧ m.next + 4 ≤ m'.next) ∧ Apb m' tok k 136 6 ∧ (∃ tok8, t' 8 = .sl j (((fsN ce).take j).map vint) tok8 ∧ Apb m' tok8 j 3 1) ∧ ∀ i, i < j → (ce.getD i []).length = 1) ?_ ?_
  · refine ⟨vv, ⟨?_, ?_, vv, Nat.le_refl _⟩, ?_, ⟨.exact, vv, .inl rfl⟩, fun i hi => by omega⟩
    · (simp only [put_obj]; repeat rw [if_neg (by omega)]); exact hm1
    · (simp only [put_obj]; repeat rw [if_neg (by omega)]); exact h7
    · refine hap.out.mono (fun q hq _ => ?_) (Nat.le_add_right _ _)
      (simp only [put_obj]; repeat rw [if_neg (by omega)])
  clear hm1 h7 hap g1 hL1 c3 hn
  rintro j t1 m2 hj ⟨h31, ⟨hm1, h7, hm2, hn2⟩, hap, ⟨tok8, h8, hap8⟩, hI2⟩
  replace hap := Hid.mk hap
  replace hap8 := Hid.mk hap8
  replace hI2 := Hid.mk hI2
  have hn20 := Hid.mk hn2
  have n7 : 7 < m2.next := by have := hnx.out; omega
  have n2 : m.next + 2 < m2.next := by omega
  by_cases hlt2 : j < ce.length
  case neg =>
    have c2 : ¬ (j : Int) < (ce.length : Int) := by omega
    have hjl : j = ce.length := by omega
    subst hjl
    rw [List.take_of_length_le (show (fsN ce).length ≤ ce.length by rw [fsN, List.length_map]; exact Nat.le_refl _)] at h8
    have hfl : (fsN ce).length = ce.length := by rw [fsN, List.length_map]
    by_cases hs1 : sgs.length = 1
    case neg =>
      have c4 : (1 : Int) < (sgs.length : Int) := by have := hsg.out; dsimp only at this; omega
      have hq2 := hno.out fun h => hs1 (oneC_iff.1 h).1
      rw [hq2]
      clear hlt2 hj hn2 hs1 hfl
      repeat' (with_reducible first | refine x_ops ?_ | refine wk ?_ | ((first | refine gd1 ?_ ?_ | refine gd2 ?_ ?_ | refine gd3 ?_ ?_) <;> (first | exact @False.elim _ | intro hc)))
      refine finV_ret vv ?_
      exact .tup (.cons (.agg (.cons (.sl _ _ _) (.cons (.sl _ _ _) (.cons (.sl _ _ _) .nil)))) (.cons (.lit _) .nil))
    obtain ⟨⟨sv, sd, st⟩, rfl⟩ := List.length_eq_one_iff.1 hs1
    have hst' := hst.out (oneC_iff.2 ⟨rfl, hI2.out⟩)
    replace hst' := Hid.mk hst'
    have EV := event_fn ⟨bar, tie, [⟨sv, sd, st⟩], ce⟩ ⟨sv, sd, st⟩ (fsN ce) (by have := hcn.out; dsimp only at this; omega)
    have htk' := htk.out
    rw [show evF1 ⟨bar, tie, [⟨sv, sd, st⟩], ce⟩ = evtR ⟨bar, tie, [⟨sv, sd, st⟩], ce⟩ ⟨⟨sv, sd, st⟩, fsN ce⟩ from rfl] at htk'
    rw [show [Sg.mk sv sd st].flatMap Sg.cells = [vint sv, vbool sd, vbool st] from rfl] at hm2
    generalize evtR ⟨bar, tie, [⟨sv, sd, st⟩], ce⟩ ⟨⟨sv, sd, st⟩, fsN ce⟩ = ev at *
    obtain ⟨ebar, ⟨ev1, ev2, ev3⟩, etie, ess⟩ := ev
    rw [tIs, hfl] at EV
    have e9 : [Sg.mk sv sd st].flatMap Sg.cells = [vint sv, vbool sd, vbool st] := rfl
    replace htk' := Hid.mk htk'
    clear hlt2 hj hn2 hs1 htk hst hno
    generalize (fsN ce).map vint = FN at *
    repeat' (with_reducible first | refine x_ops ?_ | refine wk ?_ | (with_reducible refine xc (EV) ?_) | ((first | refine gd1 ?_ ?_ | refine gd2 ?_ ?_ | refine gd3 ?_ ?_) <;> (first | exact @False.elim _ | intro hc)))
    refine x_appc (n := k) (xs := L8) (j := 1) (ys := [vbool ebar, vint ev1, vbool ev2, vbool ev3, vbool etie, .sl ess.length (ess.flatMap Stp.cells) .no]) (k := tok) (k2 := .exact) vw vw (hap.out.mono (fun _ _ _ => rfl) (Nat.le_add_right _ _)) hsl.out rfl (by have := hlt0.out; have := q20.out; omega) (by have := hlt0.out; have := q20.out; unfold Go.maxLen; omega) (by show m2.next + 10 < m2.next + 13; omega) ?_
    intro tok3 m3 hap3 hn3 hf3 hq3
    have hnn : m3.next = m2.next + 13 := hn3
    have hm3 : m3.obj 1 = some (.box [.sl 0 [] .exact, .sl 0 [] .exact, .sl 0 [] .exact] 49) := (hf3 1 (by show ¬ 1 = m2.next + 10; omega) (hap.out.box hm1)).trans hm1
    have h73 : m3.obj 7 = some (.box [.sl f.ins.cs.length (f.ins.cs.flatMap Crs.cells) .no, .sl f.ins.st.length (f.ins.st.map vint) .no, .sl k L8 tok] 49) := (hf3 7 (by show ¬ 7 = m2.next + 10; omega) (hap.out.box h7)).trans h7
    replace hap3 := Hid.mk hap3
    clear hm1 h7 hf3 hq3 hn3
    repeat' (with_reducible first | refine x_ops ?_ | refine wk ?_ | ((first | refine gd1 ?_ ?_ | refine gd2 ?_ ?_ | refine gd3 ?_ ?_) <;> (first | exact @False.elim _ | intro hc)))
    refine nx hlt0.out ⟨vv, ⟨hm3, by show 7 < m2.next + 13; omega⟩, ⟨tok3, ?_, ?_⟩, hst'.out⟩
    · rw [hL9.out, htk'.out]
      first
        | exact vv
        | exact if_pos rfl
        | rfl
    · show Apb ⟨(m3.put 7 _).obj, _⟩ tok3 (k + 1) 136 6
      exact (hap3.out.put h73).mono (fun _ _ _ => rfl) (by show m3.next ≤ m2.next + 13; omega)
  have g2 := iss_at (l := ce) (k := j) hlt2
  have c2 : (j : Int) < (ce.length : Int) := by omega
  have w2 := w_add1 (k := j) (by have := hcn.out; dsimp only at this; omega)
  by_cases hs1 : (ce.getD j []).length = 1
  case neg =>
    have c4 : (1 : Int) < ((ce.getD j []).length : Int) := by have := hci.out j hlt2; dsimp only at this; omega
    have hq2 := hno.out fun h => hs1 ((oneC_iff.1 h).2 j hlt2)
    rw [hq2]
    clear hlt2 hj hn2 hs1
    repeat' (with_reducible first | refine x_ops ?_ | refine wk ?_ | ((first | refine gd1 ?_ ?_ | refine gd2 ?_ ?_ | refine gd3 ?_ ?_) <;> (first | exact @False.elim _ | intro hc)))
    refine finV_ret vv ?_
    exact .tup (.cons (.agg (.cons (.sl _ _ _) (.cons (.sl _ _ _) (.cons (.sl _ _ _) .nil)))) (.cons (.lit _) .nil))
  obtain ⟨a, ha⟩ : ∃ a, ce.getD j [] = [a] := List.length_eq_one_iff.1 hs1
  have hfs := fsN_succ hlt2 ha
  have hI3 : ∀ i, i < j + 1 → (ce.getD i []).length = 1 := fun i hi => by
    by_cases e : i = j
    · subst e; exact hs1
    · exact hI2.out i (by omega)
  have hfl : (((fsN ce).take j).map vint).length = j * 1 := by rw [List.length_map, List.length_take, fsN, List.length_map]; omega
  rw [ha] at g2
  have hj14 : j < 14 := by have := hcn.out; dsimp only at this; omega
  replace hj14 := Hid.mk hj14
  replace hI3 := Hid.mk hI3
  replace hfs := Hid.mk hfs
  replace hfl := Hid.mk hfl
  replace ha := Hid.mk ha
  replace hs1 := Hid.mk hs1
  have hlt20 := Hid.mk hlt2
  clear hlt2 hj hn2
  generalize hF9 : ((fsN ce).take (j + 1)).map vint = F9 at *
  generalize ((fsN ce).take j).map vint = F8 at *
  replace hF9 := Hid.mk hF9
  repeat' (with_reducible first | refine x_ops ?_ | refine wk ?_ | ((first | refine gd1 ?_ ?_ | refine gd2 ?_ ?_ | refine gd3 ?_ ?_) <;> (first | exact @False.elim _ | intro hc)))
  have hx : ∀ q, tok8 = .own q → tok ≠ .own q := hap8.out.ne hap.out (by decide)
  refine x_appc (n := j) (xs := F8) (j := 1) (ys := [vint a]) (k := tok8) (k2 := .exact) vw vw (hap8.out.mono (fun _ _ _ => rfl) (Nat.le_add_right _ _)) hfl.out rfl (by have := hj14.out; omega) (by have := hj14.out; unfold Go.maxLen; omega) (by show m2.next + 5 < m2.next + 7; omega) ?_
  intro tok3 m3 hap3 hn3 hf3 hq3
  have hnn : m3.next = m2.next + 7 := hn3
  have old : ∀ q cs t, q < m2.next → m2.obj q = some (.box cs t) → m3.obj q = some (.box cs t) := fun q cs t hq ho => (hf3 q (by show ¬ q = m2.next + 5; omega) (hap8.out.box ho)).trans ho
  have hm13 := old _ _ _ (by omega) hm1
  have h73 := old _ _ _ n7 h7
  have hm23 := old _ _ _ n2 hm2
  have hapk : Apb m3 tok k 136 6 := hap.out.keep (by omega) fun q hq e => hf3 q (by show ¬ q = m2.next + 5; omega) fun e2 => hx q e2 e
  replace hap3 := Hid.mk hap3
  replace hapk := Hid.mk hapk
  clear hm1 h7 hm2 hf3 hq3 hn3 old hx
  repeat' (with_reducible first | refine x_ops ?_ | refine wk ?_ | ((first | refine gd1 ?_ ?_ | refine gd2 ?_ ?_ | refine gd3 ?_ ?_) <;> (first | exact @False.elim _ | intro hc)))
  refine nx hlt20.out ⟨vv, ⟨hm13, h73, hm23, by show m.next + 4 ≤ m2.next + 7; have := hn20.out; omega⟩, ?_, ⟨tok3, ?_, ?_⟩, hI3.out⟩
  · exact hapk.out.mono (fun _ _ _ => rfl) (by show m3.next ≤ m2.next + 7; omega)
  · rw [hF9.out, hfs.out]; exact vv
  · exact hap3.out.mono (fun _ _ _ => rfl) (by show m3.next ≤ m2.next + 7; omega)
end Go.Proofs.YtdefefeifcdogaaGreat
