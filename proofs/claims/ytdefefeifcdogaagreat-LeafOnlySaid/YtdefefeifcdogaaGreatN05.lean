/- Piece of the program. LeafChecks: the law, if the look at the example says true. Alike of the program, and the law LeafOnly, if the look at the example says true and the plain law holds. The plain law of LeafOnly: the leaf of a piece has one completion. The plain law of LeafOnly, the rest. Functions of the program, as code on values by numbers, for the evaluator: printed by a program from the program that was given, and held against it here. -/
import Derived.Test.YtdefefeifcdogaaGreatG0
import Derived.Test.YtdefefeifcdogaaGreatWk
import Derived.Test.YtdefefeifcdogaaGreatN03
import Derived.Test.YtdefefeifcdogaaGreatN04
import Derived.Test.YtdefefeifcdogaaGreatVe
set_option linter.unusedSimpArgs false
set_option linter.unusedVariables false
namespace Go.Proofs.YtdefefeifcdogaaGreat
open Go.RowKit
set_option linter.unusedSimpArgs false
set_option linter.unusedVariables false

/-- The event of a column's first reading. -/
def evF1 (c : Clm) : Evt := evtR c (frR c)
def fsN (ce : List (List Int)) : List Int := ce.map fun l => l.getD 0 0
theorem fsN_succ {ce : List (List Int)} {j : Nat} (h : j < ce.length) {a : Int} (ha : ce.getD j [] = [a]) : ((fsN ce).take (j + 1)).map vint = ((fsN ce).take j).map vint ++ [vint a] := by
  have h2 : ce[j] = [a] := by rw [← ha, List.getD_eq_getElem?_getD, List.getElem?_eq_getElem h]; rfl
  rw [fsN, List.take_add_one, List.getElem?_map, List.getElem?_eq_getElem h, h2, List.map_append]; rfl
set_option maxHeartbeats 4000000 in
theorem piece_fn (f : Lf) (hs : LfSm f) : Fn Tryz.prog Gd 31 [f.val] (.tup [(pieR f).1.val, vint (pieR f).2]) := by
  refine Fn.of_vx0 k_leaf_Piece (by simp) (by rw [V.pures, pure_lf]; rfl) ?_
  have K := lcheck_fn f hs
  unfold c_leaf_Piece
  by_cases h0 : lchk f = 0
  case neg =>
    have c1 : (lchk f == 0) = false := by rw [beq_eq_false_iff_ne]; exact h0
    have hq : pieR f = (noP, lchk f) := by rw [pieR, if_pos h0]
    rw [hq]
    replace hq := Hid.mk hq
    clear h0 hs
    repeat' (with_reducible first | refine x_ops ?_ | refine wk ?_ | (with_reducible refine xc (K) ?_) | ((first | refine gd1 ?_ ?_ | refine gd2 ?_ ?_ | refine gd3 ?_ ?_) <;> (first | exact @False.elim _ | intro hc)))
    refine finV_ret vv ?_
    exact .tup (.cons (.agg (.cons (.sl _ _ _) (.cons (.sl _ _ _) (.cons (.sl _ _ _) .nil)))) (.cons (.lit _) .nil))
  have c1 : (lchk f == 0) = true := by rw [h0]; rfl
  obtain ⟨q1, q2, q3⟩ := lchk_zero h0
  obtain ⟨q4, q5, _⟩ := chkI_small q1
  have hq : pieR f = if oneL f = true then (thP f, 0) else (noP, 101) := by rw [pieR, if_neg (by omega)]
  replace hq := Hid.mk hq
  have q30 := Hid.mk q3
  have C := copied_fn f.ins (by omega) (by omega)
  clear h0 hs q1 q3
  repeat' (with_reducible first | refine x_ops ?_ | refine wk ?_ | (with_reducible refine xc (K) ?_) | (with_reducible refine xc (C) ?_) | ((first | refine gd1 ?_ ?_ | refine gd2 ?_ ?_ | refine gd3 ?_ ?_) <;> (first | exact @False.elim _ | intro hc)))
  clear K C c1
  refine x_loopW w_leaf_Piece_p17 kr f.cols.length (fun k t m => t 24 = vint k ∧ (m.obj 1 = some (.box [.sl 0 [] .exact, .sl 0 [] .exact, .sl 0 [] .exact] 49) ∧ 7 < m.next) ∧ (∃ tok, m.obj 7 = some (.box [.sl f.ins.cs.length (f.ins.cs.flatMap Crs.cells) .no, .sl f.ins.st.length (f.ins.st.map vint) .no, .sl k (((f.cols.map evF1).take k).flatMap Evt.cells) tok] 49) ∧ Apb m tok k 136 6) ∧ ∀ i, i < k → oneC (f.cols.getD i default) = true) ?_ ?_
  · exact ⟨vv, ⟨vv, by show 7 < 9; omega⟩, ⟨.exact, vv, .inl rfl⟩, fun i hi => by omega⟩
  rintro k t m hk ⟨h24, ⟨hm1, hn⟩, ⟨tok, h7, hap⟩, hI⟩
  replace hap := Hid.mk hap
  replace hI := Hid.mk hI
  by_cases hlt : k < f.cols.length
  case neg =>
    have c1 : ¬ (k : Int) < (f.cols.length : Int) := by omega
    have hkl : k = f.cols.length := by omega
    subst hkl
    have hol : oneL f = true := oneL_iff.2 fun i hi => hI.out i hi
    have hqq := hq.out
    rw [if_pos hol] at hqq
    have e1 : (pieR f).1 = thP f := by rw [hqq]
    have e2 : (pieR f).2 = 0 := by rw [hqq]
    have e3 : (thP f).es.length = f.cols.length := List.length_map ..
    rw [e1, e2, e3]
    have ht : (f.cols.map evF1).take f.cols.length = (thP f).es := List.take_of_length_le (by simp)
    rw [ht] at h7
    clear hlt hk hqq ht e1 e2 e3
    repeat' (with_reducible first | refine x_ops ?_ | refine wk ?_ | ((first | refine gd1 ?_ ?_ | refine gd2 ?_ ?_ | refine gd3 ?_ ?_) <;> (first | exact @False.elim _ | intro hc)))
    refine finV_ret vv ?_
    exact .tup (.cons (.agg (.cons (.sl _ _ _) (.cons (.sl _ _ _) (.cons (.sl _ _ _) .nil)))) (.cons (.lit _) .nil))
  have hlt0 := Hid.mk hlt
  have g1 := clm_take (l := f.cols) (k := k) hlt
  have hL1 := clms_len f.cols
  have c1 : (k : Int) < (f.cols.length : Int) := by omega
  have c3 : k * 4 + 4 ≤ f.cols.length * 4 := by omega
  have w1 := w_add1 (k := k) (by omega)
  have hcl := (q30.out k hlt).1
  have hci : ∀ i, i < (f.cols.getD k default).ce.length → 0 < ((f.cols.getD k default).ce.getD i []).length := fun i hi => risI_pos (hcl.cel i hi).ris
  have hsg : 0 < (f.cols.getD k default).sgs.length := risS_pos hcl.ris
  have hcn : (f.cols.getD k default).ce.length ≤ 14 := by have := hcl.len; omega
  have hgk : f.cols[k] = f.cols.getD k default := by rw [List.getD_eq_getElem?_getD, List.getElem?_eq_getElem hlt]; rfl
  have htk : ((f.cols.map evF1).take (k + 1)).flatMap Evt.cells = ((f.cols.map evF1).take k).flatMap Evt.cells ++ (evF1 (f.cols.getD k default)).cells := by
    rw [List.take_add_one, List.getElem?_map, List.getElem?_eq_getElem hlt, List.flatMap_append, hgk]
    simp
  have hsl : (((f.cols.map evF1).take k).flatMap Evt.cells).length = k * 6 := by
    rw [evts_len, List.length_take, List.length_map, Nat.min_eq_left (by omega)]
  have hst : oneC (f.cols.getD k default) = true → ∀ i, i < k + 1 → oneC (f.cols.getD i default) = true := fun h1 i hi => by
    by_cases e : i = k
    · subst e; exact h1
    · exact hI.out i (by omega)
  have hno : ¬ oneC (f.cols.getD k default) = true → pieR f = (noP, 101) := fun h1 => by
    rw [hq.out, if_neg fun ho => h1 (oneL_iff.1 ho k hlt)]
  replace hci := Hid.mk hci
  replace hsg := Hid.mk hsg
  replace hcn := Hid.mk hcn
  replace htk := Hid.mk htk
  replace hsl := Hid.mk hsl
  replace hst := Hid.mk hst
  replace hno := Hid.mk hno
  have q20 := Hid.mk q2
  have hnx := Hid.mk hn
  clear hlt hk hgk hcl q2 q30 hI
  generalize f.cols.getD k default = c at *
  generalize hL9 : ((f.cols.map evF1).take (k + 1)).flatMap Evt.cells = L9 at *
  generalize ((f.cols.map evF1).take k).flatMap Evt.cells = L8 at *
  obtain ⟨bar, tie, sgs, ce⟩ := c
  replace hL9 := Hid.mk hL9
  repeat' (with_reducible first | refine x_ops ?_ | refine wk ?_ | ((first | refine gd1 ?_ ?_ | refine gd2 ?_ ?_ | refine gd3 ?_ ?_) <;> (first | exact @False.elim _ | intro hc)))
  refine x_loopW w_leaf_Piece_p8 kr ce.length (fun j t' m' => t' 31 = vint j ∧ (m'.obj 1 = some (.box [.sl 0 [] .exact, .sl 0 [] .exact, .sl 0 [] .exact] 49) ∧ m'.obj 7 = some (.box [.sl f.ins.cs.length (f.ins.cs.flatMap Crs.cells) .no, .sl f.ins.st.length (f.ins.st.map vint) .no, .sl k L8 tok] 49) ∧ m'.obj (m.next + 2) = some (.box [vbool bar, vbool tie, .sl sgs.length (sgs.flatMap Sg.cells) .no, .sl ce.length (ce.map tIs) .no] 84) ∧ m.next + 4 ≤ m'.next) ∧ Apb m' tok k 136 6 ∧ (∃ tok8, t' 8 = .sl j (((fsN ce).take j).map vint) tok8 ∧ Apb m' tok8 j 3 1) ∧ ∀ i, i < j → (ce.getD i []).length = 1) ?_ ?_
  · refine ⟨vv, ⟨?_, ?_, vv, Nat.le_refl _⟩, ?_, ⟨.exact, vv, .inl rfl⟩, fun i hi => by omega⟩
    · (simp only [put_obj]; repeat rw [if_neg (by omega)]); exact hm1
    · (simp only [put_obj]; repeat rw [if_neg (by omega)]); exact h7
    · refine hap.out.mono (fun q hq _ => ?_) (Nat.le_add_right _ _)
      (simp only [put_obj]; repeat rw [if_neg (by omega)])
  clear hm1 h7 hap g1 hL1 c3 hn
  rintro j t1 m2 hj ⟨h31, ⟨hm1, h7, hm2, hn2⟩, hap, ⟨tok8, h8, hap8⟩, hI2⟩
  replace hap := Hid.mk hap
  replace hap8 := Hid.mk hap8
  replace hI2 := Hid.mk hI2
  have hn20 := Hid.mk hn2
  have n7 : 7 < m2.next := by have := hnx.out; omega
  have n2 : m.next + 2 < m2.next := by omega
  by_cases hlt2 : j < ce.length
  case neg =>
    have c2 : ¬ (j : Int) < (ce.length : Int) := by omega
    have hjl : j = ce.length := by omega
    subst hjl
    rw [List.take_of_length_le (show (fsN ce).length ≤ ce.length by rw [fsN, List.length_map]; exact Nat.le_refl _)] at h8
    have hfl : (fsN ce).length = ce.length := by rw [fsN, List.length_map]
    by_cases hs1 : sgs.length = 1
    case neg =>
      have c4 : (1 : Int) < (sgs.length : Int) := by have := hsg.out; dsimp only at this; omega
      have hq2 := hno.out fun h => hs1 (oneC_iff.1 h).1
      rw [hq2]
      clear hlt2 hj hn2 hs1 hfl
      repeat' (with_reducible first | refine x_ops ?_ | refine wk ?_ | ((first | refine gd1 ?_ ?_ | refine gd2 ?_ ?_ | refine gd3 ?_ ?_) <;> (first | exact @False.elim _ | intro hc)))
      refine finV_ret vv ?_
      exact .tup (.cons (.agg (.cons (.sl _ _ _) (.cons (.sl _ _ _) (.cons (.sl _ _ _) .nil)))) (.cons (.lit _) .nil))
    obtain ⟨⟨sv, sd, st⟩, rfl⟩ := List.length_eq_one_iff.1 hs1
    have hst' := hst.out (oneC_iff.2 ⟨rfl, hI2.out⟩)
    replace hst' := Hid.mk hst'
    have EV := event_fn ⟨bar, tie, [⟨sv, sd, st⟩], ce⟩ ⟨sv, sd, st⟩ (fsN ce) (by have := hcn.out; dsimp only at this; omega)
    have htk' := htk.out
    rw [show evF1 ⟨bar, tie, [⟨sv, sd, st⟩], ce⟩ = evtR ⟨bar, tie, [⟨sv, sd, st⟩], ce⟩ ⟨⟨sv, sd, st⟩, fsN ce⟩ from rfl] at htk'
    rw [show [Sg.mk sv sd st].flatMap Sg.cells = [vint sv, vbool sd, vbool st] from rfl] at hm2
    generalize evtR ⟨bar, tie, [⟨sv, sd, st⟩], ce⟩ ⟨⟨sv, sd, st⟩, fsN ce⟩ = ev at *
    obtain ⟨ebar, ⟨ev1, ev2, ev3⟩, etie, ess⟩ := ev
    rw [tIs, hfl] at EV
    have e9 : [Sg.mk sv sd st].flatMap Sg.cells = [vint sv, vbool sd, vbool st] := rfl
    replace htk' := Hid.mk htk'
    clear hlt2 hj hn2 hs1 htk hst hno
    generalize (fsN ce).map vint = FN at *
    repeat' (with_reducible first | refine x_ops ?_ | refine wk ?_ | (with_reducible refine xc (EV) ?_) | ((first | refine gd1 ?_ ?_ | refine gd2 ?_ ?_ | refine gd3 ?_ ?_) <;> (first | exact @False.elim _ | intro hc)))
    refine x_appc (n := k) (xs := L8) (j := 1) (ys := [vbool ebar, vint ev1, vbool ev2, vbool ev3, vbool etie, .sl ess.length (ess.flatMap Stp.cells) .no]) (k := tok) (k2 := .exact) vw vw (hap.out.mono (fun _ _ _ => rfl) (Nat.le_add_right _ _)) hsl.out rfl (by have := hlt0.out; have := q20.out; omega) (by have := hlt0.out; have := q20.out; unfold Go.maxLen; omega) (by show m2.next + 10 < m2.next + 13; omega) ?_
    intro tok3 m3 hap3 hn3 hf3 hq3
    have hnn : m3.next = m2.next + 13 := hn3
    have hm3 : m3.obj 1 = some (.box [.sl 0 [] .exact, .sl 0 [] .exact, .sl 0 [] .exact] 49) := (hf3 1 (by show ¬ 1 = m2.next + 10; omega) (hap.out.box hm1)).trans hm1
    have h73 : m3.obj 7 = some (.box [.sl f.ins.cs.length (f.ins.cs.flatMap Crs.cells) .no, .sl f.ins.st.length (f.ins.st.map vint) .no, .sl k L8 tok] 49) := (hf3 7 (by show ¬ 7 = m2.next + 10; omega) (hap.out.box h7)).trans h7
    replace hap3 := Hid.mk hap3
    clear hm1 h7 hf3 hq3 hn3
    repeat' (with_reducible first | refine x_ops ?_ | refine wk ?_ | ((first | refine gd1 ?_ ?_ | refine gd2 ?_ ?_ | refine gd3 ?_ ?_) <;> (first | exact @False.elim _ | intro hc)))
    refine nx hlt0.out ⟨vv, ⟨hm3, by show 7 < m2.next + 13; omega⟩, ⟨tok3, ?_, ?_⟩, hst'.out⟩
    · rw [hL9.out, htk'.out]
      first
        | exact vv
        | exact if_pos rfl
        | rfl
    · show Apb ⟨(m3.put 7 _).obj, _⟩ tok3 (k + 1) 136 6
      exact (hap3.out.put h73).mono (fun _ _ _ => rfl) (by show m3.next ≤ m2.next + 13; omega)
  have g2 := iss_at (l := ce) (k := j) hlt2
  have c2 : (j : Int) < (ce.length : Int) := by omega
  have w2 := w_add1 (k := j) (by have := hcn.out; dsimp only at this; omega)
  by_cases hs1 : (ce.getD j []).length = 1
  case neg =>
    have c4 : (1 : Int) < ((ce.getD j []).length : Int) := by have := hci.out j hlt2; dsimp only at this; omega
    have hq2 := hno.out fun h => hs1 ((oneC_iff.1 h).2 j hlt2)
    rw [hq2]
    clear hlt2 hj hn2 hs1
    repeat' (with_reducible first | refine x_ops ?_ | refine wk ?_ | ((first | refine gd1 ?_ ?_ | refine gd2 ?_ ?_ | refine gd3 ?_ ?_) <;> (first | exact @False.elim _ | intro hc)))
    refine finV_ret vv ?_
    exact .tup (.cons (.agg (.cons (.sl _ _ _) (.cons (.sl _ _ _) (.cons (.sl _ _ _) .nil)))) (.cons (.lit _) .nil))
  obtain ⟨a, ha⟩ : ∃ a, ce.getD j [] = [a] := List.length_eq_one_iff.1 hs1
  have hfs := fsN_succ hlt2 ha
  have hI3 : ∀ i, i < j + 1 → (ce.getD i []).length = 1 := fun i hi => by
    by_cases e : i = j
    · subst e; exact hs1
    · exact hI2.out i (by omega)
  have hfl : (((fsN ce).take j).map vint).length = j * 1 := by rw [List.length_map, List.length_take, fsN, List.length_map]; omega
  rw [ha] at g2
  have hj14 : j < 14 := by have := hcn.out; dsimp only at this; omega
  replace hj14 := Hid.mk hj14
  replace hI3 := Hid.mk hI3
  replace hfs := Hid.mk hfs
  replace hfl := Hid.mk hfl
  replace ha := Hid.mk ha
  replace hs1 := Hid.mk hs1
  have hlt20 := Hid.mk hlt2
  clear hlt2 hj hn2
  generalize hF9 : ((fsN ce).take (j + 1)).map vint = F9 at *
  generalize ((fsN ce).take j).map vint = F8 at *
  replace hF9 := Hid.mk hF9
  repeat' (with_reducible first | refine x_ops ?_ | refine wk ?_ | ((first | refine gd1 ?_ ?_ | refine gd2 ?_ ?_ | refine gd3 ?_ ?_) <;> (first | exact @False.elim _ | intro hc)))
  have hx : ∀ q, tok8 = .own q → tok ≠ .own q := hap8.out.ne hap.out (by decide)
  refine x_appc (n := j) (xs := F8) (j := 1) (ys := [vint a]) (k := tok8) (k2 := .exact) vw vw (hap8.out.mono (fun _ _ _ => rfl) (Nat.le_add_right _ _)) hfl.out rfl (by have := hj14.out; omega) (by have := hj14.out; unfold Go.maxLen; omega) (by show m2.next + 5 < m2.next + 7; omega) ?_
  intro tok3 m3 hap3 hn3 hf3 hq3
  have hnn : m3.next = m2.next + 7 := hn3
  have old : ∀ q cs t, q < m2.next → m2.obj q = some (.box cs t) → m3.obj q = some (.box cs t) := fun q cs t hq ho => (hf3 q (by show ¬ q = m2.next + 5; omega) (hap8.out.box ho)).trans ho
  have hm13 := old _ _ _ (by omega) hm1
  have h73 := old _ _ _ n7 h7
  have hm23 := old _ _ _ n2 hm2
  have hapk : Apb m3 tok k 136 6 := hap.out.keep (by omega) fun q hq e => hf3 q (by show ¬ q = m2.next + 5; omega) fun e2 => hx q e2 e
  replace hap3 := Hid.mk hap3
  replace hapk := Hid.mk hapk
  clear hm1 h7 hm2 hf3 hq3 hn3 old hx
  repeat' (with_reducible first | refine x_ops ?_ | refine wk ?_ | ((first | refine gd1 ?_ ?_ | refine gd2 ?_ ?_ | refine gd3 ?_ ?_) <;> (first | exact @False.elim _ | intro hc)))
  refine nx hlt20.out ⟨vv, ⟨hm13, h73, hm23, by show m.next + 4 ≤ m2.next + 7; have := hn20.out; omega⟩, ?_, ⟨tok3, ?_, ?_⟩, hI3.out⟩
  · exact hapk.out.mono (fun _ _ _ => rfl) (by show m3.next ≤ m2.next + 7; omega)
  · rw [hF9.out, hfs.out]; exact vv
  · exact hap3.out.mono (fun _ _ _ => rfl) (by show m3.next ≤ m2.next + 7; omega)
end Go.Proofs.YtdefefeifcdogaaGreat
namespace Go.Proofs.YtdefefeifcdogaaGreat
open Go.RowKit
set_option linter.unusedSimpArgs false
set_option linter.unusedVariables false

theorem getD_map {α β : Type} [Inhabited α] [Inhabited β] (g : α → β) {l : List α} {i : Nat} (h : i < l.length) : (l.map g).getD i default = g (l.getD i default) := by
  rw [List.getD_eq_getElem?_getD, List.getElem?_map, List.getD_eq_getElem?_getD, List.getElem?_eq_getElem h]; rfl
theorem thP_sm {f : Lf} (hs : LfSm f) (h : lchk f = 0) : PcSm (thP f) := by
  obtain ⟨q1, q2, q3⟩ := lchk_zero h
  obtain ⟨q4, q5, _⟩ := chkI_small q1
  refine ⟨?_, by show f.ins.cs.length ≤ _; omega, by show f.ins.st.length ≤ _; omega, fun i hi => ?_⟩
  · rw [thP, List.length_map]; omega
  · rw [thP, List.length_map] at hi
    have e : (thP f).es.getD i default = evtR (f.cols.getD i default) (frR (f.cols.getD i default)) := getD_map _ hi
    rw [e]
    have h1 := evK_len (frR (f.cols.getD i default)).ns (frR (f.cols.getD i default)).ns.length
    have h2 : (frR (f.cols.getD i default)).ns.length = (f.cols.getD i default).ce.length := List.length_map ..
    have h3 := (hs.c i hi).lc
    show (evK _ _).length ≤ _
    omega
end Go.Proofs.YtdefefeifcdogaaGreat
namespace Go.Proofs.YtdefefeifcdogaaGreat
open Go.RowKit
set_option linter.unusedSimpArgs false
set_option linter.unusedVariables false

theorem alike_fn (x y : Pce) (hx : PcSm x) (hy : PcSm y) (h1 : chkP x = 0) (h2 : chkP y = 0) (h3 : x.ins = y.ins) (h4 : onsL x.es x.es.length = onsL y.es y.es.length) (h5 : eqF alkE x.es y.es = true) : Fn Tryz.prog Gd 45 [x.val, y.val] (vbool true) := by
  refine Fn.of_vx0 k_piece_Alike (by simp) (by rw [V.pures, pure_pce, V.pures, pure_pce]; rfl) ?_
  have A := onsets_fn x hx
  have B := onsets_fn y hy
  have I := isameI_fn x.ins y.ins (by have := hx.c; omega) (by have := hx.s; omega)
  have ok := PcOk.of h1
  have okn := ok.n
  have okl := ok.l
  have E := equalEv_fn x.es y.es alkE (f := 105) (cs := []) kr rfl rfl (fun i h _ => alike1_fn _ _ (by have := okl i h; omega)) (by omega)
  rw [show onsR x = (onsL x.es x.es.length, 0) from by rw [onsR, if_neg (by omega)]] at A
  rw [show onsR y = (onsL x.es x.es.length, 0) from by rw [onsR, if_neg (by omega), h4]] at B
  have Q := eqInts_fn (onsL x.es x.es.length) (onsL x.es x.es.length) (by rw [onsL_len]; omega)
  rw [decide_eq_true h3] at I
  rw [decide_eq_true rfl] at Q
  rw [h5] at E
  generalize onsL x.es x.es.length = L at *
  clear hx hy h1 h2 h3 h4 h5 ok okn okl
  obtain ⟨⟨fc, fst⟩, fl⟩ := x
  obtain ⟨⟨gc, gst⟩, gl⟩ := y
  unfold c_piece_Alike
  repeat' (with_reducible first | refine x_ops ?_ | refine wk ?_ | (with_reducible refine xc (A) ?_) | (with_reducible refine xc (B) ?_) | (with_reducible refine xc (I) ?_) | (with_reducible refine xc (Q) ?_) | (with_reducible refine xc (E) ?_) | ((first | refine gd1 ?_ ?_ | refine gd2 ?_ ?_ | refine gd3 ?_ ?_) <;> (first | exact @False.elim _ | intro hc)))
  exact finV_lit vv rfl
/-- What the law says of values. -/
structure OnlyOk (p : Pce) : Prop where
  c : lchk (lfO p) = 0
  o : oneL (lfO p) = true
  k : chkP (thP (lfO p)) = 0
  t : onsL (thP (lfO p)).es (thP (lfO p)).es.length = onsL p.es p.es.length
  a : eqF alkE (thP (lfO p)).es p.es = true
theorem leafonly_fn (W : Fn Tryz.prog Gd 19 [] (vbool true)) (p q : Pce) (hp : PcSm p) (hq : PcSm q) (PL : chkP p = 0 → OnlyOk p) (PB : chkP q = 0 → chkP (bareP q) = 0)
    (PE : chkP p = 0 → chkP q = 0 → (shpB (lfO p) (lfO q) && insB (lfO q) (lfO p)) = decide (plnP (bareP q) = thP (lfO p))) : Fn Tryz.prog Gd 11 [p.val, q.val] (vbool true) := by
  refine Fn.of_vx0 k_theorbolaw10_LeafOnly (by simp) (by rw [V.pures, pure_pce, V.pures, pure_pce]; rfl) ?_
  have O := of_fn p hp
  unfold c_theorbolaw10_LeafOnly
  by_cases h0 : chkP p = 0
  case neg =>
    have c1 : (chkP p == 0) = false := by rw [beq_eq_false_iff_ne]; exact h0
    rw [show ofR p = (noL, chkP p) from by rw [ofR, if_pos h0]] at O
    clear h0 hp hq PL PB PE
    generalize chkP p = e at *
    obtain ⟨⟨pc, pst⟩, pl⟩ := p
    obtain ⟨⟨qc, qst⟩, ql⟩ := q
    repeat' (with_reducible first | refine x_ops ?_ | refine wk ?_ | (with_reducible refine xc (O) ?_) | (with_reducible refine xc (W) ?_) | ((first | refine gd1 ?_ ?_ | refine gd2 ?_ ?_ | refine gd3 ?_ ?_) <;> (first | exact @False.elim _ | intro hc)))
    exact finV_lit vv rfl
  have ok := PcOk.of h0
  have oo := PL h0
  rw [show ofR p = (lfO p, 0) from by rw [ofR, if_neg (by omega)]] at O
  have hsf := lfO_sm ok
  have P1 := piece_fn (lfO p) hsf
  rw [show pieR (lfO p) = (thP (lfO p), 0) from by rw [pieR, if_neg (by have := oo.c; omega), if_pos oo.o]] at P1
  have C := lcheck_fn (lfO p) hsf
  rw [oo.c] at C
  have hst := thP_sm hsf oo.c
  have A := alike_fn (thP (lfO p)) p hst hp oo.k h0 rfl oo.t oo.a
  have R := reads_fn (lfO p) q hsf hq
  by_cases h1 : chkP q = 0
  case neg =>
    have c1 : (chkP q == 0) = false := by rw [beq_eq_false_iff_ne]; exact h1
    rw [show rdsR (lfO p) q = (false, chkP q) from by rw [rdsR, if_neg (by have := oo.c; omega), if_pos h1]] at R
    clear h0 h1 hp hq PL PB PE ok oo hsf hst
    generalize chkP q = e at *
    generalize thP (lfO p) = g at *
    generalize lfO p = f at *
    obtain ⟨⟨pc, pst⟩, pl⟩ := p
    obtain ⟨⟨qc, qst⟩, ql⟩ := q
    obtain ⟨⟨fc, fst⟩, fl⟩ := f
    obtain ⟨⟨gc, gst⟩, gl⟩ := g
    repeat' (with_reducible first | refine x_ops ?_ | refine wk ?_ | (with_reducible refine xc (O) ?_) | (with_reducible refine xc (W) ?_) | (with_reducible refine xc (P1) ?_) | (with_reducible refine xc (C) ?_) | (with_reducible refine xc (A) ?_) | (with_reducible refine xc (R) ?_) | ((first | refine gd1 ?_ ?_ | refine gd2 ?_ ?_ | refine gd3 ?_ ?_) <;> (first | exact @False.elim _ | intro hc)))
    exact finV_lit vv rfl
  have hb := PB h1
  have okb := PcOk.of hb
  have hsb : PcSm (bareP q) := ⟨by have := okb.n; omega, by have := okb.c; omega, by have := okb.s; omega, fun i hi => by have := okb.l i hi; omega⟩
  have B := bare_fn q hq
  rw [show barR q = (bareP q, 0) from by rw [barR, if_neg (by omega)]] at B
  have N := pplain_fn (bareP q) hsb
  rw [show plnR (bareP q) = (plnP (bareP q), 0) from by rw [plnR, if_neg (by omega)]] at N
  have hln : (plnP (bareP q)).es.length = (bareP q).es.length := plnE_len _ _
  have hsn : PcSm (plnP (bareP q)) := ⟨by have := okb.n; omega, by show (bareP q).ins.cs.length ≤ _; have := okb.c; omega, by show (bareP q).ins.st.length ≤ _; have := okb.s; omega, fun i hi => by
    rw [hln] at hi
    rw [show (plnP (bareP q)).es = plnE (bareP q).es (bareP q).es.length from rfl, plnE_at hi]
    show ((bareP q).es.getD i default).ss.length ≤ _
    have := okb.l i hi; omega⟩
  have S := psame_fn (plnP (bareP q)) (thP (lfO p)) hsn
  rw [show rdsR (lfO p) q = (shpB (lfO p) (lfO q) && insB (lfO q) (lfO p), 0) from by rw [rdsR, if_neg (by have := oo.c; omega), if_neg (by omega)], PE h0 h1] at R
  clear h0 h1 hp hq PL PB PE ok oo hsf hst hb okb hsb hln hsn
  generalize decide (plnP (bareP q) = thP (lfO p)) = z at *
  generalize plnP (bareP q) = h at *
  generalize bareP q = b at *
  generalize thP (lfO p) = g at *
  generalize lfO p = f at *
  obtain ⟨⟨pc, pst⟩, pl⟩ := p
  obtain ⟨⟨qc, qst⟩, ql⟩ := q
  obtain ⟨⟨fc, fst⟩, fl⟩ := f
  obtain ⟨⟨gc, gst⟩, gl⟩ := g
  obtain ⟨⟨bc, bst⟩, bl⟩ := b
  obtain ⟨⟨hc, hst⟩, hl⟩ := h
  repeat' (with_reducible first | refine x_ops ?_ | refine wk ?_ | (with_reducible refine xc (O) ?_) | (with_reducible refine xc (W) ?_) | (with_reducible refine xc (P1) ?_) | (with_reducible refine xc (C) ?_) | (with_reducible refine xc (A) ?_) | (with_reducible refine xc (R) ?_) | (with_reducible refine xc (B) ?_) | (with_reducible refine xc (N) ?_) | (with_reducible refine xc (S) ?_) | ((first | refine gd1 ?_ ?_ | refine gd2 ?_ ?_ | refine gd3 ?_ ?_) <;> (first | exact @False.elim _ | intro hc)))
  exact finV_lit vv rfl
end Go.Proofs.YtdefefeifcdogaaGreat
namespace Go.Proofs.YtdefefeifcdogaaGreat
open Go.RowKit
set_option linter.unusedSimpArgs false
set_option linter.unusedVariables false

theorem numC_miss {l : List Stp} {c : Int} : ∀ {m : Nat}, (∀ j, j < m → (l.getD j default).co ≠ c) → numC l c m = -1
  | 0, _ => rfl
  | m + 1, h => by rw [numC, if_neg (h m (by omega))]; exact numC_miss fun j hj => h j (by omega)
theorem numC_hit {l : List Stp} {c : Int} {j : Nat} (hc : (l.getD j default).co = c) : ∀ {m : Nat}, j < m → (∀ j', j < j' → j' < m → (l.getD j' default).co ≠ c) → numC l c m = (l.getD j default).fr
  | 0, h, _ => by omega
  | m + 1, h, hh => by
    by_cases e : j = m
    · subst e; rw [numC, if_pos hc]
    · rw [numC, if_neg (hh m (by omega) (by omega))]; exact numC_hit hc (by omega) fun j' h1 h2 => hh j' h1 (by omega)
/-- Stops in rising order of courses 1 to n, frets from 0. -/
structure StOk (n : Nat) (l : List Stp) : Prop where
  r : ∀ j, j < l.length → 1 ≤ (l.getD j default).co ∧ (l.getD j default).co ≤ n
  f : ∀ j, j < l.length → 0 ≤ (l.getD j default).fr
  s : ∀ j, j + 1 < l.length → (l.getD j default).co < (l.getD (j + 1) default).co
theorem StOk.lt {n : Nat} {l : List Stp} (h : StOk n l) {j : Nat} : ∀ {j' : Nat}, j < j' → j' < l.length → (l.getD j default).co < (l.getD j' default).co
  | 0, h1, _ => by omega
  | j' + 1, h1, h2 => by
    by_cases e : j = j'
    · subst e; exact h.s j h2
    · have := h.lt (j := j) (j' := j') (by omega) (by omega)
      have := h.s j' h2
      omega
theorem take_succ_map {α β : Type} [Inhabited α] (g : α → β) {l : List α} {c : Nat} (h : c < l.length) : (l.take (c + 1)).map g = (l.take c).map g ++ [g (l.getD c default)] := by
  rw [List.take_add_one, List.getElem?_eq_getElem h, List.map_append, List.getD_eq_getElem?_getD, List.getElem?_eq_getElem h]; rfl
theorem evK_stops {n : Nat} {l : List Stp} (h : StOk n l) {ns : List Int} (hns : ∀ i, i < n → ns.getD i 0 = numC l ((i + 1 : Nat) : Int) l.length) : ∀ k, k ≤ n →
    ∃ c, c ≤ l.length ∧ (∀ j, j < c → (l.getD j default).co ≤ k) ∧ (∀ j, c ≤ j → j < l.length → (k : Int) < (l.getD j default).co) ∧ evK ns k = (l.take c).map bareS
  | 0, _ => ⟨0, Nat.zero_le _, fun j hj => by omega, fun j _ hj => by have := (h.r j hj).1; omega, rfl⟩
  | k + 1, hk => by
    obtain ⟨c, h1, h2, h3, h4⟩ := evK_stops h hns k (by omega)
    by_cases hc : c < l.length ∧ (l.getD c default).co = ((k + 1 : Nat) : Int)
    · obtain ⟨hc1, hc2⟩ := hc
      refine ⟨c + 1, hc1, fun j hj => ?_, fun j hj hl => ?_, ?_⟩
      · by_cases e : j = c
        · subst e; omega
        · have := h2 j (by omega); omega
      · have := h.lt (j := c) (j' := j) (by omega) hl; omega
      · have e : numC l ((k + 1 : Nat) : Int) l.length = (l.getD c default).fr := numC_hit hc2 hc1 fun j' g1 g2 => by have := h.lt g1 g2; omega
        rw [evK_succ, h4, take_succ_map bareS hc1, stpA, hns k (by omega), e, if_pos (h.f c hc1), bareS, hc2]
    · have hm : ∀ j, c ≤ j → j < l.length → ((k + 1 : Nat) : Int) < (l.getD j default).co := fun j g1 g2 => by
        have a := h3 j g1 g2
        by_cases e : j = c
        · subst e
          have : (l.getD j default).co ≠ ((k + 1 : Nat) : Int) := fun e => hc ⟨g2, e⟩
          omega
        · have a0 := h3 c (Nat.le_refl _) (by omega)
          have := h.lt (j := c) (j' := j) (by omega) g2
          omega
      refine ⟨c, h1, fun j hj => by have := h2 j hj; omega, hm, ?_⟩
      have e : numC l ((k + 1 : Nat) : Int) l.length = -1 := numC_miss fun j hj => by
        by_cases g : j < c
        · have := h2 j g; omega
        · have := hm j (by omega) hj; omega
      rw [evK_succ, h4, stpA, hns k (by omega), e, if_neg (by omega), List.append_nil]
theorem celO_at {l : List Stp} {n i : Nat} (h : i < n) : (celO l n).getD i [] = [numC l ((i + 1 : Nat) : Int) l.length] := by
  rw [celO, List.getD_eq_getElem?_getD, List.getElem?_map, List.getElem?_range h]; rfl
theorem celO_fr {l : List Stp} {n i : Nat} (h : i < n) : ((celO l n).map fun l => l.getD 0 0).getD i 0 = numC l ((i + 1 : Nat) : Int) l.length := by
  rw [celO, List.getD_eq_getElem?_getD, List.getElem?_map, List.getElem?_map, List.getElem?_range h]; rfl
theorem evtR_clmO {n : Nat} {x : Evt} (h : StOk n x.ss) : evtR (clmO n x) (frR (clmO n x)) = bareE x := by
  rw [clmO_ce, evtR, frR, bareE]
  obtain ⟨c, h1, _, h3, h4⟩ := evK_stops h (ns := (celO x.ss n).map fun l => l.getD 0 0) (fun i hi => celO_fr hi) n (Nat.le_refl _)
  have hc : c = x.ss.length := Decidable.byContradiction fun e => by
    have a := h3 c (Nat.le_refl _) (by omega)
    have b := (h.r c (by omega)).2
    omega
  rw [hc, List.take_length] at h4
  have hl : ((celO x.ss n).map fun l => l.getD 0 0).length = n := by rw [List.length_map, celO_len]
  show Evt.mk x.bar x.sg x.tie (evK ((celO x.ss n).map fun l => l.getD 0 0) ((celO x.ss n).map fun l => l.getD 0 0).length) = _
  rw [hl, h4]
theorem EvOk.stOk {p : Pce} {i : Nat} {x : Evt} (h : EvOk p i x) : StOk p.ins.cs.length x.ss where
  r j hj := (stp_zero (h.st j hj)).1
  f j hj := (stp_zero (h.st j hj)).2.1.1
  s j hj := by have := (stp_zero (h.st (j + 1) hj)).2.2.1; rw [lstC_succ] at this; exact this
/-- The event i of a piece in plain. -/
def plnX (p : Pce) (i : Nat) : Evt := { p.es.getD i default with sg := frc p.es (i + 1) }
theorem thP_len (p : Pce) : (thP (lfO p)).es.length = p.es.length := by rw [thP, List.length_map, colsO_len]
theorem thP_at {p : Pce} (ok : PcOk p) {i : Nat} (hi : i < p.es.length) : (thP (lfO p)).es.getD i default = bareE (plnX p i) := by
  have h2 : i < (plnP p).es.length := by rw [plnP, plnE_len]; exact hi
  have e1 : (thP (lfO p)).es.getD i default = evtR ((lfO p).cols.getD i default) (frR ((lfO p).cols.getD i default)) := getDmap (fun c => evtR c (frR c)) (by rw [colsO_len]; exact hi)
  have e2 : (lfO p).cols.getD i default = clmO p.ins.cs.length ((plnP p).es.getD i default) := getDmap _ h2
  have e3 : (plnP p).es.getD i default = plnX p i := plnE_at hi
  rw [e1, e2, e3]
  exact evtR_clmO (x := plnX p i) (ok.e i hi).stOk
end Go.Proofs.YtdefefeifcdogaaGreat
namespace Go.Proofs.YtdefefeifcdogaaGreat
open Go.RowKit
set_option linter.unusedSimpArgs false
set_option linter.unusedVariables false

theorem stp_of {p : Pce} {i : Nat} {s : Stp} {last : Int} (h1 : 1 ≤ s.co ∧ s.co ≤ p.ins.cs.length) (h2 : 0 ≤ s.fr ∧ s.fr ≤ (p.ins.cs.getD (s.co - 1).toNat default).f) (h3 : last < s.co) (h4 : s.ri = 0) (h5 : s.gr = 0) (h6 : s.ho = 0) : stpE p i s last = 0 := by
  rw [stpE, if_neg (by omega), if_neg (by omega), if_neg (by omega), if_neg (by omega), if_neg (by omega)]
theorem evt_of {p : Pce} {i : Nat} (h : EvOk p i (p.es.getD i default)) : evtE p i = 0 := by
  rw [evtE, if_neg, if_neg]
  · exact fstE_zero.2 h.st
  · rintro ⟨ht, h2⟩
    have := h.tie ht
    omega
  · rintro (h1 | ⟨h1, h2⟩)
    · rw [h.sg] at h1; cases h1
    · exact h.s0 h1 h2
theorem chkP_of {p : Pce} (h1 : chkI p.ins = 0) (h2 : p.es.length ≤ 400) (h3 : ∀ i, i < p.es.length → EvOk p i (p.es.getD i default)) : chkP p = 0 := by
  rw [chkP, if_neg (by omega), if_neg (by omega)]
  exact fstE_zero.2 fun i hi => evt_of (h3 i hi)
theorem chk_bare {p p' : Pce} (ok : PcOk p) (hi : p'.ins = p.ins) (hl : p'.es.length = p.es.length) (g : Nat → Sg) (he : ∀ i, i < p.es.length → p'.es.getD i default = bareE { p.es.getD i default with sg := g i }) (hg : ∀ i, i < p.es.length → rgtS (g i) = true)
    (h0 : 0 < p.es.length → (g 0).v ≠ 0) : chkP p' = 0 := by
  refine chkP_of (by rw [hi]; exact ok.i) (by rw [hl]; exact ok.n) fun i h => ?_
  rw [hl] at h
  rw [he i h]
  have ev := ok.e i h
  refine ⟨hg i h, fun e => by subst e; exact h0 h, fun ht => ?_, fun j hj => ?_⟩
  · have := ev.tie ht
    refine ⟨?_, this.2⟩
    show ((p.es.getD i default).ss.map bareS).length = 0
    rw [List.length_map]; exact this.1
  · have hj' : j < (p.es.getD i default).ss.length := by
      have : j < ((p.es.getD i default).ss.map bareS).length := hj
      rwa [List.length_map] at this
    have e1 : (bareE { p.es.getD i default with sg := g i }).ss.getD j default = bareS ((p.es.getD i default).ss.getD j default) := getDmap bareS hj'
    have e2 : lstC (bareE { p.es.getD i default with sg := g i }).ss j = lstC (p.es.getD i default).ss j := by
      cases j with
      | zero => rfl
      | succ j =>
        rw [lstC_succ, lstC_succ]
        have : (bareE { p.es.getD i default with sg := g i }).ss.getD j default = bareS ((p.es.getD i default).ss.getD j default) := getDmap bareS (l := (p.es.getD i default).ss) (by omega)
        rw [this]; rfl
    obtain ⟨a1, a2, a3, _⟩ := stp_zero (ev.st j hj')
    rw [e1, e2]
    exact stp_of (by rw [hi]; exact a1) (by rw [hi]; exact a2) a3 rfl rfl rfl
theorem okS_of {s : Sg} (h : rgtS s = true) (hv : s.v ≠ 0) : 0 < tkS s := by
  rw [rgtS, Bool.or_eq_true] at h
  rcases h with h | h
  · rw [← tkS_pos] at h; exact of_decide_eq_true h
  · rw [Bool.and_eq_true, Bool.and_eq_true, decide_eq_true_iff] at h; exact absurd h.1.1 hv
theorem tkS_zero {s : Sg} (hv : s.v = 0) : ¬ 0 < tkS s := by
  intro h
  have := tkS_pos s
  rw [decide_eq_true h, okS, hv] at this
  cases this
theorem frc_ok {p : Pce} (ok : PcOk p) : ∀ i, i < p.es.length → rgtS (frc p.es (i + 1)) = true ∧ (frc p.es (i + 1)).v ≠ 0 ∧ tkS (frc p.es (i + 1)) = frcT p.es (i + 1)
  | i, hi => by
    have ev := ok.e i hi
    by_cases hv : (p.es.getD i default).sg.v ≠ 0
    · have e1 : frc p.es (i + 1) = (p.es.getD i default).sg := if_pos hv
      have e2 : frcT p.es (i + 1) = tkS (p.es.getD i default).sg := if_pos (okS_of ev.sg hv)
      rw [e1, e2]; exact ⟨ev.sg, hv, rfl⟩
    · have e1 : frc p.es (i + 1) = frc p.es i := if_neg hv
      have e2 : frcT p.es (i + 1) = frcT p.es i := if_neg (tkS_zero (by omega))
      rw [e1, e2]
      cases i with
      | zero => exact absurd (by omega) (ev.s0 rfl)
      | succ i => exact frc_ok ok i (by omega)
theorem onsL_congr {a b : List Evt} : ∀ {n : Nat}, (∀ k, k ≤ n → frcT a k = frcT b k) → onsL a n = onsL b n
  | 0, _ => rfl
  | n + 1, h => by rw [onsL, onsL, onsL_congr fun k hk => h k (by omega), h (n + 1) (Nat.le_refl _)]
theorem thP_frcT {p : Pce} (ok : PcOk p) : ∀ k, k ≤ p.es.length → frcT (thP (lfO p)).es k = frcT p.es k
  | 0, _ => rfl
  | k + 1, hk => by
    obtain ⟨h1, h2, h3⟩ := frc_ok ok k (by omega)
    rw [frcT, thP_at ok (by omega)]
    show (if 0 < tkS (frc p.es (k + 1)) then tkS (frc p.es (k + 1)) else _) = _
    rw [if_pos (okS_of h1 h2), h3]
theorem alkE_bare (x : Evt) (s : Sg) : alkE (bareE { x with sg := s }) x = true := by
  have h : eqF alkS (x.ss.map bareS) x.ss = true := eqF_all (by rw [List.length_map]) fun i hi => by
    rw [List.length_map] at hi
    rw [getDmap bareS hi]
    show (((x.ss.getD i default).co == (x.ss.getD i default).co) && ((x.ss.getD i default).fr == (x.ss.getD i default).fr)) = true
    rw [beq_self_eq_true, beq_self_eq_true]; rfl
  show ((x.tie == x.tie) && eqF alkS (x.ss.map bareS) x.ss) = true
  rw [beq_self_eq_true, h]; rfl
theorem clmO_ok {p : Pce} (ok : PcOk p) {i : Nat} (hi : i < p.es.length) : ClmOk p.ins (clmO p.ins.cs.length (plnX p i)) := by
  obtain ⟨h1, h2, h3⟩ := frc_ok ok i hi
  have ev := ok.e i hi
  have so := ev.stOk
  rw [clmO_ce]
  refine ⟨celO_len _ _, rfl, ?_, fun j hj => ?_⟩
  · have h4 := okS_of h1 h2
    show ((tkS (frc p.es (i + 1)) == 0) || false) = false
    rw [Bool.or_false, beq_eq_false_iff_ne]; omega
  · have hj' : j < p.ins.cs.length := by
      have : j < (celO (plnX p i).ss p.ins.cs.length).length := hj
      rwa [celO_len] at this
    show CelOk ((celO (plnX p i).ss p.ins.cs.length).getD j []) _ _
    rw [celO_at hj']
    have hf : 0 ≤ (p.ins.cs.getD j default).f := by
      have := (chkI_small ok.i).2.2.2.2 j hj'
      unfold crsE at this
      split at this
      · cases this
      · omega
    by_cases hc : ∃ k, k < (plnX p i).ss.length ∧ ((plnX p i).ss.getD k default).co = ((j + 1 : Nat) : Int)
    · obtain ⟨k, hk, hck⟩ := hc
      have e : numC (plnX p i).ss ((j + 1 : Nat) : Int) (plnX p i).ss.length = ((plnX p i).ss.getD k default).fr := numC_hit hck hk fun j' g1 g2 => by have := so.lt g1 g2; have h : ((plnX p i).ss.getD k default).co < ((plnX p i).ss.getD j' default).co := this; omega
      rw [e]
      have hs := (stp_zero (ev.st k hk)).2.1
      have hck' : ((p.es.getD i default).ss.getD k default).co = ((j + 1 : Nat) : Int) := hck
      rw [hck', show (((j + 1 : Nat) : Int) - 1).toNat = j from by omega] at hs
      refine ⟨rfl, ?_, ?_, fun ht => ?_⟩
      · show -1 ≤ ((p.es.getD i default).ss.getD k default).fr; omega
      · exact hs.2
      · have h5 := (ev.tie ht).1
        have hk' : k < (p.es.getD i default).ss.length := hk
        omega
    · have e : numC (plnX p i).ss ((j + 1 : Nat) : Int) (plnX p i).ss.length = -1 := numC_miss fun k hk h => hc ⟨k, hk, h⟩
      rw [e]
      refine ⟨rfl, ?_, ?_, fun ht => ?_⟩
      · show (-1 : Int) ≤ -1; omega
      · show (-1 : Int) ≤ _; omega
      · show (-1 : Int) ≤ -1; omega
theorem cols_at {p : Pce} {i : Nat} (hi : i < p.es.length) : (lfO p).cols.getD i default = clmO p.ins.cs.length (plnX p i) := by
  have h2 : i < (plnP p).es.length := by rw [plnP, plnE_len]; exact hi
  have e2 : (lfO p).cols.getD i default = clmO p.ins.cs.length ((plnP p).es.getD i default) := getDmap _ h2
  have e3 : (plnP p).es.getD i default = plnX p i := plnE_at hi
  rw [e2, e3]
theorem only_ok {p : Pce} (h : chkP p = 0) : OnlyOk p := by
  have ok := PcOk.of h
  refine ⟨?_, ?_, ?_, ?_, ?_⟩
  · rw [lchk, if_neg (by show ¬ chkI p.ins ≠ 0; have := ok.i; omega), if_neg (by rw [colsO_len]; have := ok.n; omega), if_pos]
    intro i hi
    rw [colsO_len] at hi
    rw [cols_at hi]
    refine ⟨clmO_ok ok hi, fun e => ?_⟩
    show (p.es.getD i default).tie = false
    cases ht : (p.es.getD i default).tie with
    | false => rfl
    | true => exact absurd e ((ok.e i hi).tie ht).2
  · refine oneL_iff.2 fun i hi => ?_
    rw [colsO_len] at hi
    rw [cols_at hi, oneC_iff, clmO_ce]
    refine ⟨rfl, fun j hj => ?_⟩
    have hj' : j < p.ins.cs.length := by
      have : j < (celO (plnX p i).ss p.ins.cs.length).length := hj
      rwa [celO_len] at this
    show ((celO (plnX p i).ss p.ins.cs.length).getD j []).length = 1
    rw [celO_at hj']; rfl
  · exact chk_bare ok rfl (thP_len p) (fun i => frc p.es (i + 1)) (fun i hi => thP_at ok hi) (fun i hi => (frc_ok ok i hi).1) fun h0 => (frc_ok ok 0 h0).2.1
  · rw [thP_len]; exact onsL_congr fun k hk => thP_frcT ok k hk
  · refine eqF_all (thP_len p) fun i hi => ?_
    rw [thP_len] at hi
    rw [thP_at ok hi]
    exact alkE_bare _ _
theorem bare_ok {q : Pce} (h : chkP q = 0) : chkP (bareP q) = 0 := by
  have ok := PcOk.of h
  refine chk_bare ok rfl (List.length_map ..) (fun i => (q.es.getD i default).sg) (fun i hi => getDmap bareE hi) (fun i hi => (ok.e i hi).sg) fun h0 => (ok.e 0 h0).s0 rfl
theorem frc_bare (l : List Evt) : ∀ k, k ≤ l.length → frc (l.map bareE) k = frc l k
  | 0, _ => rfl
  | k + 1, hk => by
    rw [frc, frc, frc_bare l k (by omega), getDmap bareE (by omega)]
    rfl
theorem pln_bare {q : Pce} (ok : PcOk q) : plnP (bareP q) = thP (lfO q) := by
  have hl : (bareP q).es.length = q.es.length := List.length_map ..
  have e : (plnP (bareP q)).es = (thP (lfO q)).es := by
    refine lst_eq (by rw [thP_len]; show (plnE _ _).length = _; rw [plnE_len, hl]) fun i hi => ?_
    have hi' : i < q.es.length := by
      have : i < (plnE (bareP q).es (bareP q).es.length).length := hi
      rwa [plnE_len, hl] at this
    rw [thP_at ok hi', show (plnP (bareP q)).es = plnE (bareP q).es (bareP q).es.length from rfl, plnE_at (by rw [hl]; exact hi')]
    rw [show (bareP q).es = q.es.map bareE from rfl, frc_bare _ _ (by omega), getDmap bareE hi']
    rfl
  show Pce.mk q.ins (plnP (bareP q)).es = Pce.mk q.ins (thP (lfO q)).es
  rw [e]
theorem numC_bare (l : List Stp) (c : Int) : ∀ m, m ≤ l.length → numC (l.map bareS) c m = numC l c m
  | 0, _ => rfl
  | m + 1, h => by
    rw [numC, numC, numC_bare l c m (by omega), getDmap bareS (by omega)]
    rfl
theorem celO_bare (l : List Stp) (n : Nat) : celO (l.map bareS) n = celO l n := by
  rw [celO, celO]
  refine List.map_congr_left fun j _ => ?_
  rw [List.length_map, numC_bare l _ _ (Nat.le_refl _)]
theorem clmO_bare (n : Nat) (x : Evt) : clmO n (bareE x) = clmO n x := by
  rw [clmO_ce, clmO_ce]
  show Clm.mk x.bar x.tie [x.sg] (celO (x.ss.map bareS) n) = _
  rw [celO_bare]
theorem lf_of_th {p q : Pce} (okp : PcOk p) (okq : PcOk q) (h : thP (lfO q) = thP (lfO p)) : lfO q = lfO p := by
  have hi : q.ins = p.ins := by have e := congrArg Pce.ins h; exact e
  have he : (thP (lfO q)).es = (thP (lfO p)).es := congrArg Pce.es h
  have hl : q.es.length = p.es.length := by rw [← thP_len q, ← thP_len p, he]
  have hc : (lfO q).cols = (lfO p).cols := by
    refine lst_eq (by rw [colsO_len, colsO_len, hl]) fun i hlt => ?_
    rw [colsO_len] at hlt
    rw [cols_at hlt, cols_at (by omega), ← clmO_bare, ← clmO_bare _ (plnX p i), ← thP_at okq hlt, ← thP_at okp (by omega), he, hi]
  show Lf.mk q.ins (lfO q).cols = Lf.mk p.ins (lfO p).cols
  rw [hi, hc]
theorem subS_refl (a : List Sg) : subS a a = true := subS_iff.2 fun i hi => memS_at hi rfl
theorem subI_refl (a : List Int) : subI a a = true := subI_iff.2 fun i hi => memI_at hi rfl
theorem subS_one {a b : Sg} (h : subS [a] [b] = true) : a = b := by
  have := subS_iff.1 h 0 (by show 0 < 1; omega)
  rw [memS, List.any_eq_true] at this
  obtain ⟨x, hx, e⟩ := this
  rw [List.mem_singleton] at hx
  subst hx
  exact (of_decide_eq_true e).symm
theorem subI_one {a b : Int} (h : subI [a] [b] = true) : a = b := by
  have := subI_iff.1 h 0 (by show 0 < 1; omega)
  rw [memI, List.any_eq_true] at this
  obtain ⟨x, hx, e⟩ := this
  rw [List.mem_singleton] at hx
  subst hx
  exact (of_decide_eq_true e).symm
theorem reads_iff {p q : Pce} (hp : chkP p = 0) (hq : chkP q = 0) : (shpB (lfO p) (lfO q) && insB (lfO q) (lfO p)) = decide (plnP (bareP q) = thP (lfO p)) := by
  have okp := PcOk.of hp
  have okq := PcOk.of hq
  rw [pln_bare okq, Bool.eq_iff_iff, Bool.and_eq_true, decide_eq_true_iff]
  constructor
  · rintro ⟨h1, h2⟩
    rw [shpB, eqC, Bool.and_eq_true, Bool.and_eq_true, decide_eq_true_iff, decide_eq_true_iff, allB_iff] at h1
    obtain ⟨e1, e2, h3⟩ := h1
    have hi : p.ins = q.ins := e1
    rw [insB, allB_iff] at h2
    have hc : (lfO q).cols = (lfO p).cols := by
      refine lst_eq e2.symm fun i hlt => ?_
      have h4 := h3 i (by omega)
      have h5 := h2 i hlt
      rw [colsO_len] at hlt
      rw [colsO_len, colsO_len] at e2
      rw [cols_at hlt, cols_at (by omega), clmO_ce, clmO_ce] at h4 h5 ⊢
      rw [shpC, Bool.and_eq_true, beq_iff_eq, beq_iff_eq] at h4
      rw [insC, Bool.and_eq_true, allB_iff] at h5
      obtain ⟨h6, h7⟩ := h4
      obtain ⟨h8, h9⟩ := h5
      have h6' : (plnX p i).bar = (plnX q i).bar := h6
      have h7' : (plnX p i).tie = (plnX q i).tie := h7
      have h8' : (plnX q i).sg = (plnX p i).sg := subS_one h8
      have h10 : celO (plnX q i).ss q.ins.cs.length = celO (plnX p i).ss p.ins.cs.length := by
        refine lst_eq (by rw [celO_len, celO_len, hi]) fun j hj => ?_
        have h11 := h9 j hj
        rw [celO_len] at hj
        have hj2 : j < p.ins.cs.length := by rw [hi]; exact hj
        have h12 : subI ((celO (plnX q i).ss q.ins.cs.length).getD j []) ((celO (plnX p i).ss p.ins.cs.length).getD j []) = true := h11
        rw [celO_at hj, celO_at hj2] at h12
        show (celO (plnX q i).ss q.ins.cs.length).getD j [] = (celO (plnX p i).ss p.ins.cs.length).getD j []
        rw [celO_at hj, celO_at hj2, subI_one h12]
      rw [h6', h7', h8', h10]
    show Pce.mk q.ins ((lfO q).cols.map _) = Pce.mk p.ins ((lfO p).cols.map _)
    rw [hc, hi]
  · intro h
    rw [lf_of_th okp okq h]
    refine ⟨?_, ?_⟩
    · rw [shpB, decide_eq_true rfl, eqC, decide_eq_true rfl, allB_true fun i _ => ?_]
      · rfl
      · rw [shpC, beq_self_eq_true, beq_self_eq_true]; rfl
    · rw [insB, allB_true fun i _ => ?_]
      rw [insC, subS_refl, allB_true fun j _ => subI_refl _]; rfl
theorem leafonly_all (W : Fn Tryz.prog Gd 19 [] (vbool true)) (p q : Pce) (hp : PcSm p) (hq : PcSm q) : Fn Tryz.prog Gd 11 [p.val, q.val] (vbool true) :=
  leafonly_fn W p q hp hq only_ok bare_ok reads_iff
end Go.Proofs.YtdefefeifcdogaaGreat
namespace Go.Proofs.YtdefefeifcdogaaGreat
open Go.RowKit
set_option maxRecDepth 100000
def d_83 : Fd := ⟨160, (.seq (.ops 4 [oo 2 .boxE [.t 0], oo 3 .boxE [.t 1], oo 4 (.alloc 88 [(.lit (.pointer none))]) [], oo 5 (.alloc 38 [li 0]) []]) (.seq (.ops 10 [oo 19 (.ldA 3) [.t 2], oo 20 (.ldA 12) [.t 3], ⟨(some 21), none, (.build [li 0, (.sl 0 [] .exact), (.sl 0 [] .exact), (.sl 0 [] .exact), (.sl 0 [] .exact), (.sl 0 [] .exact), li 0, (.lit (.bool false))] [(6, 1)]), [kk 1], none⟩, oo 22 (.box 108) [.t 21], oo 23 (.mkslB 99 1 1 [(.lit (.pointer none))] [(0, 1)]) [.t 22], ⟨(some 24), none, (.mkslB 95 1 1 [(.sl 0 [] .exact)] [(0, 1)]), [.t 23], none⟩, ⟨(some 25), none, (.build [(.sl 0 [] .exact), (.sl 0 [] .exact), (.sl 0 [] .exact), (.sl 0 [] .exact), (.sl 0 [] .exact), (.sl 0 [] .exact), li 0, li 0, li 0, li 0, li 0, li 0, li 0, li 0, (.lit (.bool false)), (.sl 0 [] .exact), li 0] [(0, 3), (3, 12), (15, 1)]), [.t 19, .t 20, .t 24], none⟩, oo 26 (.box 98) [.t 25], oo 6 (.alloc 88 [(.lit (.pointer none))]) [], ⟨none, none, (.st 1), [.t 6, .t 26], none⟩]) (.seq (.seq (.ops 0 [oo 27 (.fldA 2) [.t 2], oo 28 .ld1 [.t 27], oo 29 .len [.t 28], oo 30 .mv [kk 0]]) (.block 0 (.loop (.seq (.ops 0 [oo 31 (.bin .lss) [.t 30, .t 29]]) (.seq (.cond (.t 31) .skip (.exit 0)) (.seq (.block 1 (.seq (.ops 6 [oo 32 .mv [.t 30], oo 33 (.ixA 4) [.t 28, .t 30], oo 34 (.ldA 4) [.t 33], ⟨(some 8), none, (.alloc 84 [(.lit (.bool false)), (.lit (.bool false)), (.sl 0 [] .exact), (.sl 0 [] .exact)]), [], none⟩, oo 7 .mv [.t 32], ⟨none, none, (.st 4), [.t 8, .t 34], none⟩]) (.seq (.ops 0 [oo 35 .ld1 [.t 6], oo 36 .mv [.t 7], oo 37 .nilck [.t 35], oo 38 (.fldA 16) [.t 37], ⟨none, none, (.st 1), [.t 38, .t 36], none⟩]) (.seq (.seq (.ops 0 [oo 39 (.ldA 4) [.t 8], oo 40 (.call 151) [.t 39], oo 41 (.un .not) [.t 40]]) (.cond (.t 41) (.seq (.ops 0 [oo 42 .ld1 [.t 6], ⟨none, none, (.st 1), [.t 4, .t 42], none⟩, ⟨none, none, (.st 1), [.t 5, kk 2], none⟩]) .ret) .skip)) (.seq (.ops 3 [oo 43 (.mkmap [2]) [], oo 9 (.alloc 206 [(.lit (.map none))]) [], ⟨none, none, (.st 1), [.t 9, .t 43], none⟩]) (.seq (.ops 1 [⟨(some 10), none, (.alloc 95 [(.sl 0 [] .exact)]), [], none⟩]) (.seq (.seq (.ops 0 [oo 44 .ld1 [.t 6], oo 45 .nilck [.t 44], oo 46 (.fldA 15) [.t 45], oo 47 .ld1 [.t 46], oo 48 .mv [.t 7], oo 49 (.ixA 1) [.t 47, .t 48], oo 50 .ld1 [.t 49], oo 51 .len [.t 50], oo 52 .mv [kk 0]]) (.block 2 (.loop (.seq (.ops 0 [oo 53 (.bin .lss) [.t 52, .t 51]]) (.seq (.cond (.t 53) .skip (.exit 2)) (.seq (.block 3 (.seq (.ops 4 [oo 54 (.ixA 1) [.t 50, .t 52], oo 55 .ld1 [.t 54], oo 12 (.alloc 99 [(.lit (.pointer none))]) [], ⟨none, none, (.st 1), [.t 12, .t 55], none⟩]) (.seq (.ops 0 [oo 56 (.ldA 4) [.t 8], oo 57 (.call 152) [.t 56]]) (.block 4 (.rangeF 160 (.t 57) #[58] (.region 14 #[(.mk (some 13) (.alloc 112) 0 "search.go:191" #[] none), (.mk none (.store 112 (.tmp 13) (.tmp 58)) 0 "search.go:191" #[(.mk 0 .data), (.mk 0 .phase)] none)] false) (.block 5 (.seq (.region 15 #[(.mk (some 60) (.load 88 (.tmp 6)) 88 "search.go:192" #[] none), (.mk (some 61) (.load 99 (.tmp 12)) 99 "search.go:192" #[] none), (.mk (some 62) (.nilCheck (.tmp 61)) 0 "search.go:192" #[(.mk 1 .data)] none), (.mk (some 63) (.fieldAddr 108 (.tmp 62) 0) 0 "search.go:192" #[(.mk 2 .data)] none), (.mk (some 64) (.load 105 (.tmp 63)) 105 "search.go:192" #[(.mk 3 .data)] none), (.mk (some 65) (.load 84 (.tmp 8)) 84 "search.go:192" #[] none), (.mk (some 66) (.load 112 (.tmp 13)) 112 "search.go:192" #[] none), (.mk (some 67) (.call (.mk (.value (.func 153)) #[(.tmp 60), (.tmp 64), (.tmp 65), (.tmp 66)] #[88, 105, 84, 112])) 210 "search.go:192" #[(.mk 0 .data), (.mk 4 .data), (.mk 5 .data), (.mk 6 .data)] none), (.mk (some 59) (.move (.tmp 67)) 210 "search.go:192" #[(.mk 7 .data)] none), (.mk (some 68) (.extract (.tmp 59) 0) 105 "search.go:192" #[(.mk 8 .data)] none), (.mk (some 69) (.extract (.tmp 59) 1) 4 "search.go:192" #[(.mk 8 .data), (.mk 13 (.gcOnly .lateStores))] none), (.mk (some 70) (.extract (.tmp 59) 2) 38 "search.go:192" #[(.mk 8 .data), (.mk 14 (.gcOnly .lateStores))] none), (.mk (some 14) (.alloc 105) 0 "search.go:192" #[] none), (.mk none (.store 105 (.tmp 14) (.tmp 68)) 0 "search.go:192" #[(.mk 12 .data), (.mk 9 .data), (.mk 7 .chain), (.mk 0 .phase), (.mk 1 .phase), (.mk 2 .phase), (.mk 3 .phase), (.mk 4 .phase), (.mk 5 .phase), (.mk 6 .phase), (.mk 7 .phase), (.mk 8 .phase), (.mk 9 .phase), (.mk 10 (.textOnly .lateStores)), (.mk 11 (.textOnly .lateStores)), (.mk 12 .phase)] none), (.mk (some 15) (.assign (.tmp 69)) 4 "search.go:192" #[(.mk 10 .data), (.mk 13 .chain), (.mk 0 .phase), (.mk 1 .phase), (.mk 2 .phase), (.mk 3 .phase), (.mk 4 .phase), (.mk 5 .phase), (.mk 6 .phase), (.mk 7 .phase), (.mk 8 .phase), (.mk 9 .phase), (.mk 10 .phase), (.mk 11 (.textOnly .lateStores)), (.mk 12 .phase), (.mk 13 .phase)] none), (.mk (some 16) (.assign (.tmp 70)) 38 "search.go:192" #[(.mk 11 .data), (.mk 14 .chain), (.mk 0 .phase), (.mk 1 .phase), (.mk 2 .phase), (.mk 3 .phase), (.mk 4 .phase), (.mk 5 .phase), (.mk 6 .phase), (.mk 7 .phase), (.mk 8 .phase), (.mk 9 .phase), (.mk 10 .phase), (.mk 11 .phase), (.mk 12 .phase), (.mk 13 .phase), (.mk 14 .phase)] none)] true) (.seq (.seq (.region 16 #[(.mk (some 71) (.move (.tmp 16)) 38 "search.go:193" #[] none), (.mk (some 72) (.binOp .neq 38 (.tmp 71) (.const (.int .i64 0)) 38) 4 "search.go:193" #[(.mk 0 .data)] none)] false) (.cond (.tmp 72) (.seq (.region 17 #[(.mk (some 73) (.load 88 (.tmp 6)) 88 "search.go:194" #[] none), (.mk (some 74) (.move (.tmp 16)) 38 "search.go:194" #[(.mk 2 (.gcOnly .lateStores))] none), (.mk none (.store 88 (.tmp 4) (.tmp 73)) 0 "search.go:194" #[(.mk 0 .data), (.mk 0 .phase), (.mk 1 (.textOnly .lateStores))] none), (.mk none (.store 38 (.tmp 5) (.tmp 74)) 0 "search.go:194" #[(.mk 1 .data), (.mk 2 .chain), (.mk 0 .phase), (.mk 1 .phase), (.mk 2 .phase)] none)] false) .ret) .skip)) (.seq (.seq (.region 18 #[(.mk (some 75) (.move (.tmp 15)) 4 "search.go:196" #[] none), (.mk (some 76) (.unOp .not 4 (.tmp 75)) 4 "search.go:196" #[(.mk 0 .data)] none)] false) (.cond (.tmp 76) (.exit 5) .skip)) (.seq (.region 19 #[(.mk (some 78) (.load 206 (.tmp 9)) 206 "search.go:199" #[] none), (.mk (some 79) (.load 105 (.tmp 14)) 105 "search.go:199" #[] none), (.mk (some 80) (.call (.mk (.value (.func 154)) #[(.tmp 79)] #[105])) 9 "search.go:199" #[(.mk 1 .data)] none), (.mk (some 81) (.lookup 206 (.tmp 78) (.tmp 80) true) 212 "search.go:199" #[(.mk 0 .data), (.mk 2 .data)] none), (.mk (some 77) (.move (.tmp 81)) 212 "search.go:199" #[(.mk 3 .data)] none), (.mk (some 82) (.extract (.tmp 77) 0) 3 "search.go:199" #[(.mk 4 .data)] none), (.mk (some 83) (.extract (.tmp 77) 1) 4 "search.go:199" #[(.mk 4 .data), (.mk 7 (.gcOnly .lateStores))] none), (.mk (some 17) (.assign (.tmp 82)) 3 "search.go:199" #[(.mk 5 .data), (.mk 2 .chain), (.mk 0 .phase), (.mk 1 .phase), (.mk 2 .phase), (.mk 3 .phase), (.mk 4 .phase), (.mk 5 .phase), (.mk 6 (.textOnly .lateStores))] none), (.mk (some 18) (.assign (.tmp 83)) 4 "search.go:199" #[(.mk 6 .data), (.mk 7 .chain), (.mk 0 .phase), (.mk 1 .phase), (.mk 2 .phase), (.mk 3 .phase), (.mk 4 .phase), (.mk 5 .phase), (.mk 6 .phase), (.mk 7 .phase)] none)] true) (.seq (.seq (.region 20 #[(.mk (some 84) (.move (.tmp 18)) 4 "search.go:200" #[] none), (.mk (some 85) (.unOp .not 4 (.tmp 84)) 4 "search.go:200" #[(.mk 0 .data)] none)] false) (.cond (.tmp 85) (.seq (.region 21 #[(.mk (some 86) (.load 95 (.tmp 10)) 95 "search.go:201" #[] none), (.mk (some 87) (.call (.mk (.builtin .len) #[(.tmp 86)] #[95])) 3 "search.go:201" #[(.mk 0 .data)] none), (.mk (some 17) (.assign (.tmp 87)) 3 "search.go:201" #[(.mk 1 .data), (.mk 0 .phase), (.mk 1 .phase)] none)] false) (.seq (.region 22 #[(.mk (some 88) (.load 206 (.tmp 9)) 206 "search.go:202" #[] none), (.mk (some 89) (.load 105 (.tmp 14)) 105 "search.go:202" #[] none), (.mk (some 90) (.call (.mk (.value (.func 154)) #[(.tmp 89)] #[105])) 9 "search.go:202" #[(.mk 1 .data)] none), (.mk (some 91) (.move (.tmp 17)) 3 "search.go:202" #[] none), (.mk none (.mapUpdate 206 (.tmp 88) (.tmp 90) (.tmp 91)) 0 "search.go:202" #[(.mk 0 .data), (.mk 2 .data), (.mk 3 .data), (.mk 2 .chain), (.mk 0 .phase), (.mk 1 .phase), (.mk 2 .phase), (.mk 3 .phase)] none)] true) (.region 23 #[(.mk (some 92) (.load 95 (.tmp 10)) 95 "search.go:203" #[] none), (.mk (some 93) (.load 105 (.tmp 14)) 105 "search.go:203" #[] none), (.mk (some 94) (.build 108 #[(0, (.tmp 93))]) 108 "search.go:203" #[(.mk 1 .data)] none), (.mk (some 95) (.box 108 (.tmp 94)) 99 "search.go:203" #[(.mk 2 .data)] none), (.mk (some 96) (.buildSlice 95 1 #[(0, (.tmp 95))]) 95 "search.go:203" #[(.mk 3 .data)] none), (.mk (some 97) (.call (.mk (.builtin .append) #[(.tmp 92), (.tmp 96)] #[95, 95])) 95 "search.go:203" #[(.mk 0 .data), (.mk 4 .data)] none), (.mk none (.store 95 (.tmp 10) (.tmp 97)) 0 "search.go:203" #[(.mk 5 .data), (.mk 5 .chain), (.mk 0 .phase), (.mk 1 .phase), (.mk 2 .phase), (.mk 3 .phase), (.mk 4 .phase), (.mk 5 .phase)] none)] false))) .skip)) (.seq (.region 24 #[(.mk (some 98) (.load 95 (.tmp 10)) 95 "search.go:205" #[] none), (.mk (some 99) (.move (.tmp 17)) 3 "search.go:205" #[] none), (.mk (some 100) (.indexAddr 95 (.tmp 98) (.tmp 99)) 0 "search.go:205" #[(.mk 0 .data), (.mk 1 .data)] none), (.mk (some 101) (.load 99 (.tmp 100)) 99 "search.go:205" #[(.mk 2 .data)] none), (.mk (some 102) (.load 95 (.tmp 10)) 95 "search.go:205" #[] none), (.mk (some 103) (.move (.tmp 17)) 3 "search.go:205" #[] none), (.mk (some 104) (.indexAddr 95 (.tmp 102) (.tmp 103)) 0 "search.go:205" #[(.mk 4 .data), (.mk 5 .data)] none), (.mk (some 105) (.load 99 (.tmp 104)) 99 "search.go:205" #[(.mk 6 .data)] none), (.mk (some 106) (.nilCheck (.tmp 105)) 0 "search.go:205" #[(.mk 7 .data)] none), (.mk (some 107) (.fieldAddr 108 (.tmp 106) 2) 0 "search.go:205" #[(.mk 8 .data)] none), (.mk (some 108) (.load 3 (.tmp 107)) 3 "search.go:205" #[(.mk 9 .data)] none), (.mk (some 109) (.load 99 (.tmp 12)) 99 "search.go:205" #[] none), (.mk (some 110) (.nilCheck (.tmp 109)) 0 "search.go:205" #[(.mk 11 .data)] none), (.mk (some 111) (.fieldAddr 108 (.tmp 110) 2) 0 "search.go:205" #[(.mk 12 .data)] none), (.mk (some 112) (.load 3 (.tmp 111)) 3 "search.go:205" #[(.mk 13 .data)] none), (.mk (some 113) (.binOp .add 3 (.tmp 108) (.tmp 112) 3) 3 "search.go:205" #[(.mk 10 .data), (.mk 14 .data)] none), (.mk (some 114) (.call (.mk (.builtin .min) #[(.tmp 113), (.const (.int .i64 1099511627776))] #[3, 3])) 3 "search.go:205" #[(.mk 15 .data)] none), (.mk (some 115) (.nilCheck (.tmp 101)) 0 "search.go:205" #[(.mk 3 .data), (.mk 0 .phase), (.mk 1 .phase), (.mk 2 .phase), (.mk 3 .phase), (.mk 4 .phase), (.mk 5 .phase), (.mk 6 .phase), (.mk 7 .phase), (.mk 8 .phase), (.mk 9 .phase), (.mk 10 .phase), (.mk 11 .phase), (.mk 12 .phase), (.mk 13 .phase), (.mk 14 .phase), (.mk 15 .phase), (.mk 16 .phase)] none), (.mk (some 116) (.fieldAddr 108 (.tmp 115) 2) 0 "search.go:205" #[(.mk 17 .data), (.mk 0 .phase), (.mk 1 .phase), (.mk 2 .phase), (.mk 3 .phase), (.mk 4 .phase), (.mk 5 .phase), (.mk 6 .phase), (.mk 7 .phase), (.mk 8 .phase), (.mk 9 .phase), (.mk 10 .phase), (.mk 11 .phase), (.mk 12 .phase), (.mk 13 .phase), (.mk 14 .phase), (.mk 15 .phase), (.mk 16 .phase)] none), (.mk none (.store 3 (.tmp 116) (.tmp 114)) 0 "search.go:205" #[(.mk 18 .data), (.mk 16 .data), (.mk 0 .phase), (.mk 1 .phase), (.mk 2 .phase), (.mk 3 .phase), (.mk 4 .phase), (.mk 5 .phase), (.mk 6 .phase), (.mk 7 .phase), (.mk 8 .phase), (.mk 9 .phase), (.mk 10 .phase), (.mk 11 .phase), (.mk 12 .phase), (.mk 13 .phase), (.mk 14 .phase), (.mk 15 .phase), (.mk 16 .phase)] none)] true) (.region 25 #[(.mk (some 117) (.load 99 (.tmp 12)) 99 "search.go:206" #[] none), (.mk (some 118) (.load 99 (.tmp 12)) 99 "search.go:206" #[] none), (.mk (some 119) (.nilCheck (.tmp 118)) 0 "search.go:206" #[(.mk 1 .data)] none), (.mk (some 120) (.fieldAddr 108 (.tmp 119) 1) 0 "search.go:206" #[(.mk 2 .data)] none), (.mk (some 121) (.load 106 (.tmp 120)) 106 "search.go:206" #[(.mk 3 .data)] none), (.mk (some 122) (.load 112 (.tmp 13)) 112 "search.go:206" #[] none), (.mk (some 123) (.move (.tmp 17)) 3 "search.go:206" #[] none), (.mk (some 124) (.build 114 #[(0, (.tmp 122)), (1, (.tmp 123))]) 114 "search.go:206" #[(.mk 5 .data), (.mk 6 .data)] none), (.mk (some 125) (.buildSlice 106 1 #[(0, (.tmp 124))]) 106 "search.go:206" #[(.mk 7 .data)] none), (.mk (some 126) (.call (.mk (.builtin .append) #[(.tmp 121), (.tmp 125)] #[106, 106])) 106 "search.go:206" #[(.mk 4 .data), (.mk 8 .data)] none), (.mk (some 127) (.nilCheck (.tmp 117)) 0 "search.go:206" #[(.mk 0 .data), (.mk 0 .phase), (.mk 1 .phase), (.mk 2 .phase), (.mk 3 .phase), (.mk 4 .phase), (.mk 5 .phase), (.mk 6 .phase), (.mk 7 .phase), (.mk 8 .phase), (.mk 9 .phase)] none), (.mk (some 128) (.fieldAddr 108 (.tmp 127) 1) 0 "search.go:206" #[(.mk 10 .data), (.mk 0 .phase), (.mk 1 .phase), (.mk 2 .phase), (.mk 3 .phase), (.mk 4 .phase), (.mk 5 .phase), (.mk 6 .phase), (.mk 7 .phase), (.mk 8 .phase), (.mk 9 .phase)] none), (.mk none (.store 106 (.tmp 128) (.tmp 126)) 0 "search.go:206" #[(.mk 11 .data), (.mk 9 .data), (.mk 9 .chain), (.mk 0 .phase), (.mk 1 .phase), (.mk 2 .phase), (.mk 3 .phase), (.mk 4 .phase), (.mk 5 .phase), (.mk 6 .phase), (.mk 7 .phase), (.mk 8 .phase), (.mk 9 .phase)] none)] true))))))))))))) (.ops 0 [oo 129 (.bin .add) [.t 52, kk 1], oo 52 .mv [.t 129]]))))))) (.seq (.seq (.ops 0 [oo 130 .ld1 [.t 10], oo 131 .len [.t 130], oo 132 (.bin .eql) [.t 131, kk 0]]) (.cond (.t 132) (.seq (.ops 0 [oo 133 .ld1 [.t 6], ⟨none, none, (.st 1), [.t 4, .t 133], none⟩, ⟨none, none, (.st 1), [.t 5, kk 102], none⟩]) .ret) .skip)) (.seq (.seq (.ops 0 [oo 134 .mv [.t 7], oo 135 (.fldA 2) [.t 2], oo 136 .ld1 [.t 135], oo 137 .len [.t 136], oo 138 (.bin .sub) [.t 137, kk 1], oo 139 (.bin .lss) [.t 134, .t 138], oo 140 .mv [.t 139], og 141 140 true .ld1 [.t 10], og 142 140 true .len [.t 141], og 143 140 true (.bin .gtr) [.t 142, kk 1000], oo 144 .pick [.t 140, .t 143, (.c (.lit (.bool false)))]]) (.cond (.t 144) (.seq (.ops 0 [oo 145 .ld1 [.t 6], ⟨none, none, (.st 1), [.t 4, .t 145], none⟩, ⟨none, none, (.st 1), [.t 5, kk 2], none⟩]) .ret) .skip)) (.ops 11 [od 146 .ld1 [.t 6] [], od 147 .ld1 [.t 6] [], oo 148 .nilck [.t 147], oo 149 (.fldA 15) [.t 148], od 150 .ld1 [.t 149] [1, 2, 3], od 151 .ld1 [.t 10] [], ⟨(some 152), none, (.mkslB 95 1 1 [(.sl 0 [] .exact)] [(0, 1)]), [.t 151], (some [5])⟩, oo 153 (.appL 95 1 24) [.t 150, .t 152, .t 6], oo 154 .nilck [.t 146], oo 155 (.fldA 15) [.t 154], ⟨none, none, (.st 1), [.t 155, .t 153], none⟩])))))))))) (.ops 0 [oo 156 (.bin .add) [.t 30, kk 1], oo 30 .mv [.t 156]]))))))) (.seq (.ops 0 [oo 157 .ld1 [.t 6], oo 158 (.call 155) [.t 157]]) (.seq (.ops 0 [oo 159 .ld1 [.t 6], ⟨none, none, (.st 1), [.t 4, .t 159], none⟩, ⟨none, none, (.st 1), [.t 5, kk 0], none⟩]) .ret))))), [(.c 4 1 false), (.c 5 1 false)]⟩
theorem dk_83 : callable Tryz.prog 83 = true ∧ ∃ bx, Comp Tryz.prog bx gtab 83 d_83.nt d_83.c d_83.rs := ⟨kr, (fun n => !([1000022, 1000026].contains n)), ⟨⟨Tryz.f83, _, Tryz.func83, rfl, rfl, kr, kr⟩⟩⟩
def d_286 : Fd := ⟨94, (.seq (.ops 3 [oo 3 (.box 31) [.t 0], oo 4 (.box 102) [.t 1], oo 6 .mv [(.c (.lit (.bool false)))]]) (.seq (.seq (.ops 0 [oo 7 .mv [kk 1]]) (.block 0 (.loop (.seq (.seq (.ops 0 [oo 15 .mv [.t 7], oo 16 (.fldA 0) [.t 3], oo 17 .ld1 [.t 16], oo 18 .len [.t 17], oo 19 (.bin .leq) [.t 15, .t 18]]) (.cond (.t 19) .skip (.exit 0))) (.seq (.block 1 (.seq (.ops 0 [oo 22 .mv [.t 2], oo 23 .mv [.t 7], oo 24 (.call 218) [.t 22, .t 23], oo 8 .mv [.t 24]]) (.seq (.seq (.ops 0 [oo 25 .mv [.t 8], oo 26 (.bin .lss) [.t 25, kk 0]]) (.cond (.t 26) (.exit 1) .skip)) (.seq (.ops 0 [oo 27 .mv [.t 8], oo 9 .mv [.t 27]]) (.seq (.seq (.ops 0 [oo 28 .mv [.t 2], oo 29 .len [.t 28], oo 30 .mv [kk 0]]) (.block 2 (.loop (.seq (.ops 0 [oo 31 (.bin .lss) [.t 30, .t 29]]) (.seq (.cond (.t 31) .skip (.exit 2)) (.seq (.block 3 (.seq (.ops 0 [oo 32 .mv [.t 30], oo 33 (.ixA 1) [.t 28, .t 30], oo 34 .ld1 [.t 33], oo 10 .mv [.t 32], oo 11 .mv [.t 34]]) (.seq (.ops 0 [oo 35 .mv [.t 11], oo 36 .mv [.t 7], oo 37 (.bin .eql) [.t 35, .t 36]]) (.cond (.t 37) (.ops 0 [oo 38 .mv [.t 10], oo 9 .mv [.t 38]]) .skip)))) (.ops 0 [oo 39 (.bin .add) [.t 30, kk 1], oo 30 .mv [.t 39]]))))))) (.seq (.seq (.ops 0 [oo 40 .mv [.t 8], oo 41 .mv [.t 9], oo 42 (.bin .eql) [.t 40, .t 41]]) (.cond (.t 42) (.exit 1) .skip)) (.seq (.seq (.ops 0 [oo 43 (.fldA 2) [.t 3], oo 44 .ld1 [.t 43], oo 45 .mv [.t 7], oo 46 (.bin .sub) [.t 45, kk 1], oo 47 (.ixA 1) [.t 44, .t 46], oo 48 .ld1 [.t 47], oo 49 (.un .not) [.t 48], oo 50 .mv [.t 49], og 51 50 false (.fldA 0) [.t 4], ⟨(some 52), (some (50, false)), .ld1, [.t 51], (some [0, 1, 2, 3, 4, 5, 6, 7, 8])⟩, og 53 50 false .mv [.t 8], og 54 50 false (.ixA 2) [.t 52, .t 53], og 55 50 false (.fldA 1) [.t 54], ⟨(some 56), (some (50, false)), .ld1, [.t 55], (some [0, 1, 2, 3, 4, 5, 6, 7, 8, 9, 10, 11, 12])⟩, og 57 50 false (.fldA 0) [.t 4], ⟨(some 58), (some (50, false)), .ld1, [.t 57], (some [0, 1, 2, 3, 4, 5, 6, 7, 14])⟩, og 59 50 false .mv [.t 9], og 60 50 false (.ixA 2) [.t 58, .t 59], og 61 50 false (.fldA 1) [.t 60], ⟨(some 62), (some (50, false)), .ld1, [.t 61], (some [0, 1, 2, 3, 4, 5, 6, 7, 14, 15, 16, 17, 18])⟩, og 63 50 false (.bin .neq) [.t 56, .t 62], oo 64 .pick [.t 50, (.c (.lit (.bool true))), .t 63]]) (.cond (.t 64) (.seq (.ops 0 [oo 6 .mv [(.c (.lit (.bool false)))]]) .ret) .skip)) (.seq (.ops 24 [oo 65 (.fldA 0) [.t 4], od 66 .ld1 [.t 65] [0], oo 67 .mv [.t 8], oo 68 (.ixA 2) [.t 66, .t 67], oo 69 (.fldA 0) [.t 68], od 70 .ld1 [.t 69] [0, 1, 2, 3, 4], oo 71 (.fldA 0) [.t 4], od 72 .ld1 [.t 71] [6], oo 73 .mv [.t 9], oo 74 (.ixA 2) [.t 72, .t 73], oo 75 (.fldA 0) [.t 74], od 76 .ld1 [.t 75] [6, 7, 8, 9, 10], oo 77 (.fldA 0) [.t 4], od 78 .ld1 [.t 77] [12], oo 79 .mv [.t 8], oo 80 (.ixA 2) [.t 78, .t 79], oo 81 (.fldA 1) [.t 80], od 82 .ld1 [.t 81] [12, 13, 14, 15, 16], od 12 (.alloc 3 [li 0]) [] [], od 13 (.alloc 3 [li 0]) [] [], od 14 (.alloc 3 [li 0]) [] [], ⟨none, none, (.st 1), [.t 12, .t 70], (some [18])⟩, ⟨none, none, (.st 1), [.t 13, .t 76], (some [19])⟩, ⟨none, none, (.st 1), [.t 14, .t 82], none⟩]) (.seq (.seq (.ops 0 [oo 83 (.fldA 2) [.t 4], oo 84 .ld1 [.t 83], oo 85 (.mkfn 335) [.t 12, .t 13], oo 86 (.call 215) [.t 84, .t 85]]) (.cond (.t 86) (.seq (.ops 0 [oo 6 .mv [(.c (.lit (.bool false)))]]) .ret) .skip)) (.seq (.ops 0 [oo 87 (.fldA 0) [.t 4], oo 88 .ld1 [.t 87], oo 89 .mv [.t 8], oo 90 .mv [.t 9], oo 91 (.slc 2 true true) [.t 88, .t 89, .t 90], oo 92 (.mkfn 337) [.t 14], oo 93 (.call 336) [.t 91, .t 92]]) (.cond (.t 93) (.seq (.ops 0 [oo 6 .mv [(.c (.lit (.bool false)))]]) .ret) .skip))))))))))) (.ops 0 [oo 20 .mv [.t 7], oo 21 (.bin .add) [.t 20, kk 1], oo 7 .mv [.t 21]])))))) (.seq (.ops 0 [oo 6 .mv [(.c (.lit (.bool true)))]]) .ret))), [.t 6]⟩
theorem dk_286 : callable Tryz.prog 286 = true ∧ ∃ bx, Comp Tryz.prog bx gtab 286 d_286.nt d_286.c d_286.rs := ⟨kr, (fun n => !([1000003, 1000004].contains n)), ⟨⟨Tryz.f286, _, Tryz.func286, rfl, rfl, kr, kr⟩⟩⟩
def d_19 : Fd := ⟨73, (.seq (.ops 0 [oo 0 .mv [(.c (.lit (.bool false)))]]) (.seq (.ops 4 [oo 8 (.call 59) [], ⟨(some 9), none, (.build [(.sl 0 [] .exact), (.sl 0 [] .exact), (.sl 0 [] .exact), li 0, li 0, li 0, li 0, li 0, li 0, li 0, li 0, (.lit (.bool false))] [(0, 10)]), [.t 8], none⟩, ⟨(some 1), none, (.alloc 33 [(.sl 0 [] .exact), (.sl 0 [] .exact), (.sl 0 [] .exact), li 0, li 0, li 0, li 0, li 0, li 0, li 0, li 0, (.lit (.bool false))]), [], none⟩, ⟨none, none, (.st 12), [.t 1, .t 9], none⟩]) (.seq (.ops 0 [od 11 (.call 60) [] [], od 12 (.ldA 12) [.t 1] [], oo 13 (.call 23) [.t 11, .t 12], oo 10 .mv [.t 13], oo 14 (.ext 0) [.t 10], oo 15 (.ext 1) [.t 10], oo 2 .mv [.t 14], oo 3 .mv [.t 15]]) (.seq (.ops 0 [oo 16 (.fldA 11) [.t 1], ⟨none, none, (.st 1), [.t 16, (.c (.lit (.bool true)))], none⟩]) (.seq (.ops 0 [od 18 (.call 60) [] [], od 19 (.ldA 12) [.t 1] [], oo 20 (.call 23) [.t 18, .t 19], oo 17 .mv [.t 20], oo 21 (.ext 0) [.t 17], oo 22 (.ext 1) [.t 17], oo 4 .mv [.t 21], oo 5 .mv [.t 22]]) (.seq (.ops 9 [od 24 (.call 60) [] [], od 25 (.ldA 12) [.t 1] [], oo 26 (.callL 20 [6]) [.t 24, .t 25], oo 23 .mv [.t 26], oo 27 (.ext 0) [.t 23], oo 28 (.ext 1) [.t 23], ⟨(some 6), none, (.alloc 28 [(.sl 0 [] .exact), (.sl 0 [] .exact), (.sl 0 [] .exact)]), [], (some [])⟩, ⟨none, none, (.st 3), [.t 6, .t 27], none⟩, oo 7 .mv [.t 28]]) (.seq (.ops 0 [oo 29 .mv [.t 2], oo 30 (.bin .eql) [.t 29, kk 4], oo 31 .mv [.t 30], og 32 31 true .mv [.t 4], og 33 31 true (.bin .eql) [.t 32, kk 2], oo 34 .pick [.t 31, .t 33, (.c (.lit (.bool false)))], oo 35 .mv [.t 34], og 36 35 true .mv [.t 3], og 37 35 true (.bin .eql) [.t 36, kk 0], oo 38 .pick [.t 35, .t 37, (.c (.lit (.bool false)))], oo 39 .mv [.t 38], og 40 39 true .mv [.t 5], og 41 39 true (.bin .eql) [.t 40, kk 0], oo 42 .pick [.t 39, .t 41, (.c (.lit (.bool false)))], oo 43 .mv [.t 42], og 44 43 true .mv [.t 7], og 45 43 true (.bin .eql) [.t 44, kk 0], oo 46 .pick [.t 43, .t 45, (.c (.lit (.bool false)))], oo 47 .mv [.t 46], og 48 47 true (.fldA 2) [.t 6], og 49 47 true .ld1 [.t 48], og 50 47 true .len [.t 49], og 51 47 true (.bin .eql) [.t 50, kk 2], oo 52 .pick [.t 47, .t 51, (.c (.lit (.bool false)))], oo 53 .mv [.t 52], og 54 53 true (.fldA 2) [.t 6], og 55 53 true .ld1 [.t 54], og 56 53 true (.ixA 4) [.t 55, kk 0], og 57 53 true (.fldA 3) [.t 56], og 58 53 true .ld1 [.t 57], og 59 53 true .len [.t 58], og 60 53 true (.bin .eql) [.t 59, kk 2], oo 61 .pick [.t 53, .t 60, (.c (.lit (.bool false)))], oo 62 .mv [.t 61], og 63 62 true (.fldA 2) [.t 6], og 64 62 true .ld1 [.t 63], og 65 62 true (.ixA 4) [.t 64, kk 0], og 66 62 true (.fldA 3) [.t 65], og 67 62 true .ld1 [.t 66], og 68 62 true (.ixA 1) [.t 67, kk 1], og 69 62 true .ld1 [.t 68], og 70 62 true (.mksl 1 1 [li 0] [(0, 1)]) [kk (-1)], og 71 62 true (.call 61) [.t 69, .t 70], oo 72 .pick [.t 62, .t 71, (.c (.lit (.bool false)))], oo 0 .mv [.t 72]]) .ret))))))), [.t 0]⟩
theorem dk_19 : callable Tryz.prog 19 = true ∧ ∃ bx, Comp Tryz.prog bx gtab 19 d_19.nt d_19.c d_19.rs := ⟨kr, nobx, ⟨⟨Tryz.f19, _, Tryz.func19, rfl, rfl, kr, kr⟩⟩⟩
def d_72 : Fd := ⟨71, (.seq (.ops 0 [oo 2 .boxE [.t 0], oo 3 .boxE [.t 1], oo 4 .mv [(.c (.lit (.bool false)))]]) (.seq (.seq (.ops 0 [oo 7 (.fldA 3) [.t 3], oo 8 .ld1 [.t 7], oo 9 .len [.t 8], oo 10 (.fldA 0) [.t 2], oo 11 .ld1 [.t 10], oo 12 .len [.t 11], oo 13 (.bin .neq) [.t 9, .t 12], oo 14 .mv [.t 13], og 15 14 false (.fldA 2) [.t 3], og 16 14 false .ld1 [.t 15], og 17 14 false (.call 143) [.t 16, (.c (.fn 118 []))], og 18 14 false (.un .not) [.t 17], oo 19 .pick [.t 14, (.c (.lit (.bool true))), .t 18], oo 20 .mv [.t 19], og 21 20 false (.fldA 2) [.t 3], og 22 20 false .ld1 [.t 21], og 23 20 false (.call 144) [.t 22, (.c (.fn 145 []))], oo 24 .pick [.t 20, (.c (.lit (.bool true))), .t 23]]) (.cond (.t 24) (.seq (.ops 0 [oo 4 .mv [(.c (.lit (.bool false)))]]) .ret) .skip)) (.seq (.seq (.ops 0 [oo 25 (.fldA 3) [.t 3], oo 26 .ld1 [.t 25], oo 27 .len [.t 26], oo 28 .mv [kk 0]]) (.block 0 (.loop (.seq (.ops 0 [oo 29 (.bin .lss) [.t 28, .t 27]]) (.seq (.cond (.t 29) .skip (.exit 0)) (.seq (.block 1 (.seq (.ops 0 [oo 30 .mv [.t 28], oo 31 (.ixA 1) [.t 26, .t 28], oo 32 .ld1 [.t 31], oo 5 .mv [.t 30], oo 6 .mv [.t 32]]) (.seq (.ops 0 [oo 33 .mv [.t 6], oo 34 (.call 147) [.t 33, (.c (.fn 121 []))], oo 35 (.un .not) [.t 34], oo 36 .mv [.t 35], og 37 36 false .mv [.t 6], og 38 36 false (.ixA 1) [.t 37, kk 0], og 39 36 false .ld1 [.t 38], og 40 36 false (.bin .lss) [.t 39, kk (-1)], oo 41 .pick [.t 36, (.c (.lit (.bool true))), .t 40], oo 42 .mv [.t 41], og 43 42 false .mv [.t 6], og 44 42 false .mv [.t 6], og 45 42 false .len [.t 44], og 46 42 false (.bin .sub) [.t 45, kk 1], og 47 42 false (.ixA 1) [.t 43, .t 46], ⟨(some 48), (some (42, false)), .ld1, [.t 47], (some [0, 1, 2, 3, 4, 5, 6, 7, 8, 9, 10, 11, 12, 13, 14])⟩, og 49 42 false (.fldA 0) [.t 2], ⟨(some 50), (some (42, false)), .ld1, [.t 49], (some [0, 1, 2, 3, 4, 5, 6, 7, 8, 9, 16])⟩, og 51 42 false .mv [.t 5], og 52 42 false (.ixA 3) [.t 50, .t 51], og 53 42 false (.fldA 1) [.t 52], ⟨(some 54), (some (42, false)), .ld1, [.t 53], (some [0, 1, 2, 3, 4, 5, 6, 7, 8, 9, 16, 17, 18, 19, 20])⟩, og 55 42 false (.bin .gtr) [.t 48, .t 54], oo 56 .pick [.t 42, (.c (.lit (.bool true))), .t 55], oo 57 .mv [.t 56], og 58 57 false (.fldA 1) [.t 3], og 59 57 false .ld1 [.t 58], og 60 57 false .mv [.t 59], og 61 60 true .mv [.t 6], og 62 60 true .mv [.t 6], og 63 60 true .len [.t 62], og 64 60 true (.bin .sub) [.t 63, kk 1], og 65 60 true (.ixA 1) [.t 61, .t 64], og 66 60 true .ld1 [.t 65], og 67 60 true (.bin .gtr) [.t 66, kk (-1)], og 68 57 false .pick [.t 60, .t 67, (.c (.lit (.bool false)))], oo 69 .pick [.t 57, (.c (.lit (.bool true))), .t 68]]) (.cond (.t 69) (.seq (.ops 0 [oo 4 .mv [(.c (.lit (.bool false)))]]) .ret) .skip)))) (.ops 0 [oo 70 (.bin .add) [.t 28, kk 1], oo 28 .mv [.t 70]]))))))) (.seq (.ops 0 [oo 4 .mv [(.c (.lit (.bool true)))]]) .ret)))), [.t 4]⟩
theorem dk_72 : callable Tryz.prog 72 = true ∧ ∃ bx, Comp Tryz.prog bx gtab 72 d_72.nt d_72.c d_72.rs := ⟨kr, allbx, ⟨⟨Tryz.f72, _, Tryz.func72, rfl, rfl, kr, kr⟩⟩⟩
def d_186 : Fd := ⟨52, (.seq (.ops 0 [oo 2 .mv [(.c (.lit (.bool false)))]]) (.seq (.ops 4 [oo 9 .mv [.t 0], oo 10 .len [.t 9], oo 11 (.mk 3 1 8 [li 0]) [.t 10, .t 10], oo 3 .mv [.t 11]]) (.seq (.ops 0 [oo 12 .mv [.t 3], oo 13 .mv [.t 0], oo 14 .cpy [.t 12, .t 13]]) (.seq (.ops 0 [oo 15 .mv [.t 3], oo 16 (.call 229) [.t 15]]) (.seq (.seq (.ops 0 [oo 17 .mv [.t 3], oo 18 .len [.t 17], oo 19 .mv [kk 0]]) (.block 0 (.loop (.seq (.ops 0 [oo 20 (.bin .lss) [.t 19, .t 18]]) (.seq (.cond (.t 20) .skip (.exit 0)) (.seq (.block 1 (.seq (.ops 0 [oo 21 .mv [.t 19], oo 22 (.ixA 1) [.t 17, .t 19], oo 23 .ld1 [.t 22], oo 4 .mv [.t 21], oo 5 .mv [.t 23]]) (.seq (.ops 0 [oo 24 .mv [.t 3], oo 25 .mv [.t 4], oo 26 (.bin .add) [.t 25, kk 1], oo 27 (.slc 1 true false) [.t 24, .t 26], oo 28 .len [.t 27], oo 29 .mv [kk 0]]) (.block 2 (.loop (.seq (.ops 0 [oo 30 (.bin .lss) [.t 29, .t 28]]) (.seq (.cond (.t 30) .skip (.exit 2)) (.seq (.block 3 (.seq (.ops 0 [oo 31 (.ixA 1) [.t 27, .t 29], oo 32 .ld1 [.t 31], oo 7 .mv [.t 32]]) (.seq (.ops 0 [oo 33 .mv [.t 7], oo 34 (.cvt .u64) [.t 33], oo 35 .mv [.t 5], oo 36 (.cvt .u64) [.t 35], oo 37 (.bin .sub) [.t 34, .t 36], oo 8 .mv [.t 37]]) (.seq (.ops 0 [oo 38 .mv [.t 8], oo 39 (.bin .rem) [.t 38, (.c (.lit (.int .u64 12)))]]) (.block 4 (.seq (.seq (.ops 0 [oo 41 (.bin .eql) [.t 39, (.c (.lit (.int .u64 1)))], oo 40 .mv [.t 41]]) (.cond (.t 40) .skip (.seq (.ops 0 [oo 42 (.bin .eql) [.t 39, (.c (.lit (.int .u64 2)))], oo 40 .mv [.t 42]]) (.cond (.t 40) .skip (.seq (.ops 0 [oo 43 (.bin .eql) [.t 39, (.c (.lit (.int .u64 10)))], oo 40 .mv [.t 43]]) (.cond (.t 40) .skip (.ops 0 [oo 44 (.bin .eql) [.t 39, (.c (.lit (.int .u64 11)))], oo 40 .mv [.t 44]]))))))) (.cond (.t 40) (.seq (.ops 0 [oo 2 .mv [(.c (.lit (.bool false)))]]) .ret) (.seq (.seq (.ops 0 [oo 46 (.bin .eql) [.t 39, (.c (.lit (.int .u64 5)))], oo 45 .mv [.t 46]]) (.cond (.t 45) .skip (.ops 0 [oo 47 (.bin .eql) [.t 39, (.c (.lit (.int .u64 6)))], oo 45 .mv [.t 47]]))) (.cond (.t 45) (.seq (.ops 0 [oo 48 .mv [.t 4], oo 49 (.bin .eql) [.t 48, kk 0]]) (.cond (.t 49) (.seq (.ops 0 [oo 2 .mv [(.c (.lit (.bool false)))]]) .ret) .skip)) .skip))))))))) (.ops 0 [oo 50 (.bin .add) [.t 29, kk 1], oo 29 .mv [.t 50]]))))))))) (.ops 0 [oo 51 (.bin .add) [.t 19, kk 1], oo 19 .mv [.t 51]]))))))) (.seq (.ops 0 [oo 2 .mv [(.c (.lit (.bool true)))]]) .ret)))))), [.t 2]⟩
theorem dk_186 : callable Tryz.prog 186 = true ∧ ∃ bx, Comp Tryz.prog bx gtab 186 d_186.nt d_186.c d_186.rs := ⟨kr, allbx, ⟨⟨Tryz.f186, _, Tryz.func186, rfl, rfl, kr, kr⟩⟩⟩
def d_60 : Fd := ⟨22, (.seq (.ops 1 [⟨(some 0), none, (.alloc 28 [(.sl 0 [] .exact), (.sl 0 [] .exact), (.sl 0 [] .exact)]), [], none⟩]) (.seq (.ops 7 [oo 2 (.build [li 0, li 0, (.lit (.bool false))] [(0, 1), (1, 1)]) [kk 67, kk 5], oo 3 (.build [li 0, li 0, (.lit (.bool false))] [(0, 1), (1, 1)]) [kk 62, kk 5], oo 4 (.mkslB 188 2 3 [li 0, li 0, (.lit (.bool false)), li 0, li 0, (.lit (.bool false))] [(0, 3), (3, 3)]) [.t 2, .t 3], oo 5 (.mkslB 3 5 1 [li 0, li 0, li 0, li 0, li 0] [(0, 1), (1, 1), (2, 1), (3, 1), (4, 1)]) [kk 1, kk 2, kk 3, kk 4, kk 5], ⟨(some 6), none, (.build [(.sl 0 [] .exact), (.sl 0 [] .exact)] [(0, 1), (1, 1)]), [.t 4, .t 5], none⟩, ⟨(some 1), none, (.alloc 25 [(.sl 0 [] .exact), (.sl 0 [] .exact)]), [], none⟩, ⟨none, none, (.st 2), [.t 1, .t 6], none⟩]) (.seq (.ops 16 [oo 7 (.ldA 2) [.t 1], oo 8 (.build [li 0, (.lit (.bool false)), (.lit (.bool false))] [(0, 1)]) [kk 3], oo 9 (.mkslB 110 1 3 [li 0, (.lit (.bool false)), (.lit (.bool false))] [(0, 3)]) [.t 8], oo 10 (.mkslB 3 1 1 [li 0] [(0, 1)]) [kk 0], oo 11 (.mkslB 3 2 1 [li 0, li 0] [(0, 1), (1, 1)]) [kk (-1), kk 3], ⟨(some 12), none, (.mkslB 23 2 1 [(.sl 0 [] .exact), (.sl 0 [] .exact)] [(0, 1), (1, 1)]), [.t 10, .t 11], none⟩, ⟨(some 13), none, (.build [(.lit (.bool false)), (.lit (.bool false)), (.sl 0 [] .exact), (.sl 0 [] .exact)] [(2, 1), (3, 1)]), [.t 9, .t 12], none⟩, oo 14 (.build [li 0, (.lit (.bool false)), (.lit (.bool false))] [(0, 1)]) [kk 4], oo 15 (.mkslB 110 1 3 [li 0, (.lit (.bool false)), (.lit (.bool false))] [(0, 3)]) [.t 14], oo 16 (.mkslB 3 2 1 [li 0, li 0] [(0, 1), (1, 1)]) [kk 1, kk 2], oo 17 (.mkslB 3 1 1 [li 0] [(0, 1)]) [kk (-1)], ⟨(some 18), none, (.mkslB 23 2 1 [(.sl 0 [] .exact), (.sl 0 [] .exact)] [(0, 1), (1, 1)]), [.t 16, .t 17], none⟩, ⟨(some 19), none, (.build [(.lit (.bool false)), (.lit (.bool false)), (.sl 0 [] .exact), (.sl 0 [] .exact)] [(0, 1), (2, 1), (3, 1)]), [(.c (.lit (.bool true))), .t 15, .t 18], none⟩, ⟨(some 20), none, (.mkslB 84 2 4 [(.lit (.bool false)), (.lit (.bool false)), (.sl 0 [] .exact), (.sl 0 [] .exact), (.lit (.bool false)), (.lit (.bool false)), (.sl 0 [] .exact), (.sl 0 [] .exact)] [(0, 4), (4, 4)]), [.t 13, .t 19], none⟩, ⟨(some 21), none, (.build [(.sl 0 [] .exact), (.sl 0 [] .exact), (.sl 0 [] .exact)] [(0, 2), (2, 1)]), [.t 7, .t 20], none⟩, ⟨none, none, (.st 3), [.t 0, .t 21], none⟩]) .ret))), [(.c 0 3 true)]⟩
theorem dk_60 : callable Tryz.prog 60 = true ∧ ∃ bx, Comp Tryz.prog bx gtab 60 d_60.nt d_60.c d_60.rs := ⟨kr, allbx, ⟨⟨Tryz.f60, _, Tryz.func60, rfl, rfl, kr, kr⟩⟩⟩
def d_210 : Fd := ⟨48, (.seq (.ops 5 [oo 3 (.box 88) [.t 0], oo 4 (.box 105) [.t 1], oo 5 (.box 102) [.t 2], oo 6 .mv [(.c (.sl 0 [] .exact))], oo 7 .mv [kk 0]]) (.seq (.ops 0 [od 12 .ld1 [.t 3] [], oo 13 .nilck [.t 12], oo 14 (.fldA 3) [.t 13], oo 15 (.fldA 0) [.t 14], od 16 (.ldA 10) [.t 15] [0, 1, 2, 3], od 17 (.ldA 3) [.t 5] [], oo 18 (.call 254) [.t 16, .t 17], oo 11 .mv [.t 18], oo 19 (.ext 0) [.t 11], oo 20 (.ext 1) [.t 11], oo 8 .mv [.t 19], oo 7 .mv [.t 20]]) (.seq (.seq (.ops 0 [oo 21 .mv [.t 7], oo 22 (.bin .neq) [.t 21, kk 0], oo 23 .mv [.t 22], og 24 23 false .ld1 [.t 3], og 25 23 false .nilck [.t 24], og 26 23 false (.fldA 16) [.t 25], og 27 23 false .ld1 [.t 26], og 28 23 false (.bin .eql) [.t 27, kk 0], oo 29 .pick [.t 23, (.c (.lit (.bool true))), .t 28]]) (.cond (.t 29) (.seq (.ops 0 [oo 30 .mv [.t 8], oo 31 .mv [.t 7], oo 6 .mv [.t 30], oo 7 .mv [.t 31]]) .ret) .skip)) (.seq (.seq (.ops 0 [oo 32 .mv [.t 8], oo 33 .len [.t 32], oo 34 .mv [kk 0]]) (.block 0 (.loop (.seq (.ops 0 [oo 35 (.bin .lss) [.t 34, .t 33]]) (.seq (.cond (.t 35) .skip (.exit 0)) (.seq (.block 1 (.seq (.ops 4 [oo 36 (.ixA 2) [.t 32, .t 34], oo 37 (.ldA 2) [.t 36], ⟨(some 10), none, (.alloc 262 [li 0, (.sl 0 [] .exact)]), [], none⟩, ⟨none, none, (.st 2), [.t 10, .t 37], none⟩]) (.seq (.ops 0 [oo 38 (.fldA 4) [.t 4], oo 39 .ld1 [.t 38], oo 40 (.mkfn 256) [.t 3, .t 4, .t 5, .t 10], oo 41 (.call 255) [.t 39, .t 40]]) (.cond (.t 41) (.ops 5 [oo 42 .mv [.t 6], oo 43 (.ldA 2) [.t 10], ⟨(some 44), none, (.mkslB 262 1 2 [li 0, (.sl 0 [] .exact)] [(0, 2)]), [.t 43], none⟩, oo 45 (.appM 262 2 32) [.t 42, .t 44], oo 6 .mv [.t 45]]) .skip)))) (.ops 0 [oo 46 (.bin .add) [.t 34, kk 1], oo 34 .mv [.t 46]]))))))) (.seq (.ops 0 [oo 47 .mv [.t 6], oo 6 .mv [.t 47], oo 7 .mv [kk 0]]) .ret))))), [.t 6, .t 7]⟩
theorem dk_210 : callable Tryz.prog 210 = true ∧ ∃ bx, Comp Tryz.prog bx gtab 210 d_210.nt d_210.c d_210.rs := ⟨kr, (fun n => !([1000003, 1000004, 1000005].contains n)), ⟨⟨Tryz.f210, _, Tryz.func210, rfl, rfl, kr, kr⟩⟩⟩
def d_27 : Fd := ⟨38, (.seq (.ops 0 [oo 1 .boxE [.t 0], oo 2 .mv [kk 0]]) (.seq (.seq (.ops 0 [oo 6 (.fldA 0) [.t 1], oo 7 (.ldA 2) [.t 6], oo 8 (.call 71) [.t 7], oo 3 .mv [.t 8]]) (.seq (.ops 0 [oo 9 .mv [.t 3], oo 10 (.bin .neq) [.t 9, kk 0]]) (.cond (.t 10) (.seq (.ops 0 [oo 11 .mv [.t 3], oo 2 .mv [.t 11]]) .ret) .skip))) (.seq (.seq (.ops 0 [oo 12 (.fldA 2) [.t 1], oo 13 .ld1 [.t 12], oo 14 .len [.t 13], oo 15 (.bin .gtr) [.t 14, kk 400]]) (.cond (.t 15) (.seq (.ops 0 [oo 2 .mv [kk 2]]) .ret) .skip)) (.seq (.seq (.ops 0 [oo 16 (.fldA 2) [.t 1], oo 17 .ld1 [.t 16], oo 18 .len [.t 17], oo 19 .mv [kk 0]]) (.block 0 (.loop (.seq (.ops 0 [oo 20 (.bin .lss) [.t 19, .t 18]]) (.seq (.cond (.t 20) .skip (.exit 0)) (.seq (.block 1 (.seq (.ops 6 [oo 21 .mv [.t 19], oo 22 (.ixA 4) [.t 17, .t 19], oo 23 (.ldA 4) [.t 22], ⟨(some 5), none, (.alloc 84 [(.lit (.bool false)), (.lit (.bool false)), (.sl 0 [] .exact), (.sl 0 [] .exact)]), [], none⟩, oo 4 .mv [.t 21], ⟨none, none, (.st 4), [.t 5, .t 23], none⟩]) (.seq (.ops 0 [oo 24 (.fldA 0) [.t 1], oo 25 (.ldA 2) [.t 24], oo 26 (.ldA 4) [.t 5], oo 27 (.call 72) [.t 25, .t 26], oo 28 (.un .not) [.t 27], oo 29 .mv [.t 28], og 30 29 false .mv [.t 4], og 31 29 false (.bin .eql) [.t 30, kk 0], og 32 29 false .mv [.t 31], og 33 32 true (.fldA 1) [.t 5], og 34 32 true .ld1 [.t 33], og 35 29 false .pick [.t 32, .t 34, (.c (.lit (.bool false)))], oo 36 .pick [.t 29, (.c (.lit (.bool true))), .t 35]]) (.cond (.t 36) (.seq (.ops 0 [oo 2 .mv [kk 100]]) .ret) .skip)))) (.ops 0 [oo 37 (.bin .add) [.t 19, kk 1], oo 19 .mv [.t 37]]))))))) (.seq (.ops 0 [oo 2 .mv [kk 0]]) .ret))))), [.t 2]⟩
theorem dk_27 : callable Tryz.prog 27 = true ∧ ∃ bx, Comp Tryz.prog bx gtab 27 d_27.nt d_27.c d_27.rs := ⟨kr, allbx, ⟨⟨Tryz.f27, _, Tryz.func27, rfl, rfl, kr, kr⟩⟩⟩
def d_146 : Fd := ⟨37, (.seq (.ops 0 [oo 1 .boxE [.t 0], oo 2 .mv [kk 0]]) (.seq (.seq (.ops 0 [oo 4 (.fldA 0) [.t 1], oo 5 .ld1 [.t 4], oo 6 (.bin .lss) [.t 5, kk 1], oo 7 .mv [.t 6], og 8 7 false (.fldA 0) [.t 1], og 9 7 false .ld1 [.t 8], og 10 7 false (.bin .gtr) [.t 9, kk 7], oo 11 .pick [.t 7, (.c (.lit (.bool true))), .t 10], oo 12 .mv [.t 11], og 13 12 false (.fldA 1) [.t 1], og 14 12 false .ld1 [.t 13], og 15 12 false .mv [.t 14], og 16 15 true (.fldA 2) [.t 1], og 17 15 true .ld1 [.t 16], og 18 12 false .pick [.t 15, .t 17, (.c (.lit (.bool false)))], oo 19 .pick [.t 12, (.c (.lit (.bool true))), .t 18]]) (.cond (.t 19) (.seq (.ops 0 [oo 2 .mv [kk 0]]) .ret) .skip)) (.seq (.ops 0 [oo 20 (.fldA 0) [.t 1], oo 21 .ld1 [.t 20], oo 22 (.bin .sub) [.t 21, kk 1], oo 23 (.bin .shr) [kk 384, .t 22], oo 3 .mv [.t 23]]) (.seq (.block 0 (.seq (.ops 0 [oo 25 (.fldA 1) [.t 1], oo 26 .ld1 [.t 25], oo 24 .mv [.t 26]]) (.cond (.t 24) (.seq (.ops 0 [oo 27 .mv [.t 3], oo 28 (.bin .quo) [.t 27, kk 2], oo 29 (.bin .mul) [.t 28, kk 3], oo 2 .mv [.t 29]]) .ret) (.seq (.ops 0 [oo 31 (.fldA 2) [.t 1], oo 32 .ld1 [.t 31], oo 30 .mv [.t 32]]) (.cond (.t 30) (.seq (.ops 0 [oo 33 .mv [.t 3], oo 34 (.bin .quo) [.t 33, kk 3], oo 35 (.bin .mul) [.t 34, kk 2], oo 2 .mv [.t 35]]) .ret) .skip))))) (.seq (.ops 0 [oo 36 .mv [.t 3], oo 2 .mv [.t 36]]) .ret))))), [.t 2]⟩
theorem dk_146 : callable Tryz.prog 146 = true ∧ ∃ bx, Comp Tryz.prog bx gtab 146 d_146.nt d_146.c d_146.rs := ⟨kr, allbx, ⟨⟨Tryz.f146, _, Tryz.func146, rfl, rfl, kr, kr⟩⟩⟩
def d_334 : Fd := ⟨36, (.seq (.ops 3 [oo 2 (.box 102) [.t 0], oo 3 (.box 102) [.t 1], oo 4 .mv [(.c (.lit (.bool false)))]]) (.seq (.seq (.ops 0 [oo 8 (.fldA 1) [.t 3], oo 9 .ld1 [.t 8], oo 10 .len [.t 9], oo 11 .mv [kk 0]]) (.block 0 (.loop (.seq (.ops 0 [oo 12 (.bin .lss) [.t 11, .t 10]]) (.seq (.cond (.t 12) .skip (.exit 0)) (.seq (.block 1 (.seq (.ops 0 [oo 13 (.ixA 1) [.t 9, .t 11], oo 14 .ld1 [.t 13], oo 6 .mv [.t 14]]) (.seq (.ops 0 [oo 15 (.ldA 3) [.t 2], oo 16 .mv [.t 6], oo 17 (.call 343) [.t 15, .t 16], oo 7 .mv [.t 17]]) (.seq (.ops 0 [oo 18 .mv [.t 7], oo 19 (.bin .lss) [.t 18, kk 0], oo 20 .mv [.t 19], og 21 20 false (.fldA 0) [.t 2], ⟨(some 22), (some (20, false)), .ld1, [.t 21], (some [0, 1, 2, 3])⟩, og 23 20 false .mv [.t 7], og 24 20 false (.ixA 2) [.t 22, .t 23], ⟨(some 25), (some (20, false)), (.ldA 2), [.t 24], (some [0, 1, 2, 3, 4, 5, 6])⟩, og 26 20 false (.fldA 0) [.t 3], ⟨(some 27), (some (20, false)), .ld1, [.t 26], (some [0, 1, 2, 8])⟩, ⟨(some 28), (some (20, false)), (.ldA 3), [.t 3], (some [0, 1, 2])⟩, og 29 20 false .mv [.t 6], ⟨(some 30), (some (20, false)), (.call 343), [.t 28, .t 29], (some [0, 1, 2, 10, 11])⟩, og 31 20 false (.ixA 2) [.t 27, .t 30], ⟨(some 32), (some (20, false)), (.ldA 2), [.t 31], (some [0, 1, 2, 8, 9, 10, 11, 12, 13])⟩, og 33 20 false (.eqP [(0, 0), (1, 0)] true) [.t 25, .t 32], oo 34 .pick [.t 20, (.c (.lit (.bool true))), .t 33]]) (.cond (.t 34) (.seq (.ops 0 [oo 4 .mv [(.c (.lit (.bool false)))]]) .ret) .skip))))) (.ops 0 [oo 35 (.bin .add) [.t 11, kk 1], oo 11 .mv [.t 35]]))))))) (.seq (.ops 0 [oo 4 .mv [(.c (.lit (.bool true)))]]) .ret))), [.t 4]⟩
theorem dk_334 : callable Tryz.prog 334 = true ∧ ∃ bx, Comp Tryz.prog bx gtab 334 d_334.nt d_334.c d_334.rs := ⟨kr, (fun n => !([1000002, 1000003].contains n)), ⟨⟨Tryz.f334, _, Tryz.func334, rfl, rfl, kr, kr⟩⟩⟩
def d_254 : Fd := ⟨23, (.seq (.ops 4 [oo 2 .boxE [.t 0], oo 3 (.box 102) [.t 1], oo 4 .mv [(.c (.sl 0 [] .exact))], oo 5 .mv [kk 0]]) (.seq (.seq (.ops 0 [oo 8 (.ldA 10) [.t 2], oo 9 (.call 75) [.t 8], oo 6 .mv [.t 9]]) (.seq (.ops 0 [oo 10 .mv [.t 6], oo 11 (.bin .neq) [.t 10, kk 0]]) (.cond (.t 11) (.seq (.ops 0 [oo 12 .mv [.t 6], oo 4 .mv [(.c (.sl 0 [] .exact))], oo 5 .mv [.t 12]]) .ret) .skip))) (.seq (.seq (.ops 0 [oo 13 (.ldA 3) [.t 3], oo 14 (.call 310) [.t 13], oo 15 (.un .not) [.t 14]]) (.cond (.t 15) (.seq (.ops 0 [oo 4 .mv [(.c (.sl 0 [] .exact))], oo 5 .mv [kk 1]]) .ret) .skip)) (.seq (.ops 0 [oo 16 (.ldA 10) [.t 2], oo 17 (.ldA 3) [.t 3], oo 18 (.call 234) [.t 16, .t 17], oo 7 .mv [.t 18]]) (.seq (.seq (.ops 0 [oo 19 .mv [.t 7], oo 20 .len [.t 19], oo 21 (.bin .gtr) [.t 20, kk 200]]) (.cond (.t 21) (.seq (.ops 0 [oo 4 .mv [(.c (.sl 0 [] .exact))], oo 5 .mv [kk 2]]) .ret) .skip)) (.seq (.ops 0 [oo 22 .mv [.t 7], oo 4 .mv [.t 22], oo 5 .mv [kk 0]]) .ret)))))), [.t 4, .t 5]⟩
theorem dk_254 : callable Tryz.prog 254 = true ∧ ∃ bx, Comp Tryz.prog bx gtab 254 d_254.nt d_254.c d_254.rs := ⟨kr, (fun n => !([1000003].contains n)), ⟨⟨Tryz.f254, _, Tryz.func254, rfl, rfl, kr, kr⟩⟩⟩
def d_206 : Fd := ⟨24, (.seq (.ops 1 [oo 2 (.box 266) [.t 0]]) (.seq (.ops 6 [oo 7 (.fldA 3) [.t 1], oo 8 .ld1 [.t 7], oo 9 .len [.t 8], oo 10 (.mk 3 1 8 [li 0]) [.t 9, .t 9], ⟨(some 3), none, (.alloc 23 [(.sl 0 [] .exact)]), [], none⟩, ⟨none, none, (.st 1), [.t 3, .t 10], none⟩]) (.seq (.ops 1 [oo 4 (.alloc 267 [(.lit .nilFunc)]) []]) (.seq (.ops 0 [oo 11 (.mkfn 207) [.t 3, .t 2, .t 1, .t 4], ⟨none, none, (.st 1), [.t 4, .t 11], none⟩]) (.seq (.ops 0 [oo 12 (.fldA 2) [.t 1], oo 13 .ld1 [.t 12], oo 14 .len [.t 13], oo 15 .mv [kk 0]]) (.block 0 (.loop (.seq (.ops 0 [oo 16 (.bin .lss) [.t 15, .t 14]]) (.seq (.cond (.t 16) .skip (.exit 0)) (.seq (.block 1 (.seq (.ops 4 [oo 17 (.ixA 3) [.t 13, .t 15], oo 18 (.ldA 3) [.t 17], oo 6 (.alloc 110 [li 0, (.lit (.bool false)), (.lit (.bool false))]) [], ⟨none, none, (.st 3), [.t 6, .t 18], none⟩]) (.seq (.ops 0 [oo 19 .ld1 [.t 4], oo 20 (.ldA 3) [.t 6], oo 21 .callv [.t 19, .t 20, kk 0], oo 22 (.un .not) [.t 21]]) (.cond (.t 22) .ret .skip)))) (.ops 0 [oo 23 (.bin .add) [.t 15, kk 1], oo 15 .mv [.t 23]]))))))))))), []⟩
theorem dk_206 : callable Tryz.prog 206 = true ∧ ∃ bx, Comp Tryz.prog bx gtab 206 d_206.nt d_206.c d_206.rs := ⟨kr, (fun n => !([1000002].contains n)), ⟨⟨Tryz.f206, _, Tryz.func206, rfl, rfl, kr, kr⟩⟩⟩
def d_143 : Fd := ⟨27, (.seq (.ops 0 [oo 4 .mv [(.c (.lit (.bool false)))]]) (.seq (.seq (.ops 0 [oo 5 .mv [kk 1]]) (.block 0 (.loop (.seq (.seq (.ops 0 [oo 6 .mv [.t 5], oo 7 .mv [.t 0], oo 8 .len [.t 7], oo 9 (.bin .lss) [.t 6, .t 8]]) (.cond (.t 9) .skip (.exit 0))) (.seq (.block 1 (.seq (.ops 0 [oo 12 .mv [.t 1], oo 13 .mv [.t 0], oo 14 .mv [.t 5], oo 15 (.bin .sub) [.t 14, kk 1], oo 16 (.ixA 3) [.t 13, .t 15], od 17 (.ldA 3) [.t 16] [1, 2, 3, 4], oo 18 .mv [.t 0], oo 19 .mv [.t 5], oo 20 (.ixA 3) [.t 18, .t 19], od 21 (.ldA 3) [.t 20] [6, 7, 8], oo 22 .callv [.t 12, .t 17, .t 21], oo 23 (.bin .geq) [.t 22, kk 0]]) (.cond (.t 23) (.seq (.ops 0 [oo 4 .mv [(.c (.lit (.bool false)))]]) .ret) .skip))) (.ops 0 [oo 10 .mv [.t 5], oo 11 (.bin .add) [.t 10, kk 1], oo 5 .mv [.t 11]])))))) (.seq (.ops 0 [oo 24 .mv [.t 0], oo 25 .len [.t 24], oo 26 (.bin .gtr) [.t 25, kk 0], oo 4 .mv [.t 26]]) .ret))), [.t 4]⟩
theorem dk_143 : callable Tryz.prog 143 = true ∧ ∃ bx, Comp Tryz.prog bx gtab 143 d_143.nt d_143.c d_143.rs := ⟨kr, allbx, ⟨⟨Tryz.f143, _, Tryz.func143, rfl, rfl, kr, kr⟩⟩⟩
def d_121 : Fd := ⟨20, (.seq (.ops 0 [oo 4 .mv [kk 0]]) (.seq (.ops 0 [oo 7 .mv [.t 0], oo 8 (.call 182) [.t 7], oo 5 .mv [.t 8]]) (.seq (.ops 0 [oo 9 .mv [.t 1], oo 10 (.call 182) [.t 9], oo 6 .mv [.t 10]]) (.seq (.seq (.ops 0 [oo 11 .mv [.t 5]]) (.cond (.t 11) (.seq (.seq (.ops 0 [oo 12 .mv [.t 6]]) (.cond (.t 12) (.seq (.ops 0 [oo 4 .mv [kk 0]]) .ret) .skip)) (.seq (.ops 0 [oo 4 .mv [kk (-1)]]) .ret)) .skip)) (.seq (.seq (.ops 0 [oo 13 .mv [.t 6]]) (.cond (.t 13) (.seq (.ops 0 [oo 4 .mv [kk 1]]) .ret) .skip)) (.seq (.seq (.ops 0 [oo 14 .mv [.t 0], oo 15 .mv [.t 1], oo 16 (.bin .lss) [.t 14, .t 15]]) (.cond (.t 16) (.seq (.ops 0 [oo 4 .mv [kk (-1)]]) .ret) .skip)) (.seq (.seq (.ops 0 [oo 17 .mv [.t 0], oo 18 .mv [.t 1], oo 19 (.bin .gtr) [.t 17, .t 18]]) (.cond (.t 19) (.seq (.ops 0 [oo 4 .mv [kk 1]]) .ret) .skip)) (.seq (.ops 0 [oo 4 .mv [kk 0]]) .ret)))))))), [.t 4]⟩
theorem dk_121 : callable Tryz.prog 121 = true ∧ ∃ bx, Comp Tryz.prog bx gtab 121 d_121.nt d_121.c d_121.rs := ⟨kr, allbx, ⟨⟨Tryz.f121, _, Tryz.func121, rfl, rfl, kr, kr⟩⟩⟩
def d_342 : Fd := ⟨20, (.seq (.ops 0 [oo 2 .mv [(.c (.lit (.bool false)))]]) (.seq (.seq (.ops 0 [oo 3 .mv [kk 1]]) (.block 0 (.loop (.seq (.seq (.ops 0 [oo 4 .mv [.t 3], oo 5 .mv [.t 0], oo 6 .len [.t 5], oo 7 (.bin .lss) [.t 4, .t 6]]) (.cond (.t 7) .skip (.exit 0))) (.seq (.block 1 (.seq (.ops 0 [oo 10 .mv [.t 0], oo 11 .mv [.t 3], oo 12 (.ixA 1) [.t 10, .t 11], od 13 .ld1 [.t 12] [0, 1, 2], oo 14 .mv [.t 0], oo 15 .mv [.t 3], oo 16 (.bin .sub) [.t 15, kk 1], oo 17 (.ixA 1) [.t 14, .t 16], od 18 .ld1 [.t 17] [4, 5, 6, 7], oo 19 (.bin .leq) [.t 13, .t 18]]) (.cond (.t 19) (.seq (.ops 0 [oo 2 .mv [(.c (.lit (.bool false)))]]) .ret) .skip))) (.ops 0 [oo 8 .mv [.t 3], oo 9 (.bin .add) [.t 8, kk 1], oo 3 .mv [.t 9]])))))) (.seq (.ops 0 [oo 2 .mv [(.c (.lit (.bool true)))]]) .ret))), [.t 2]⟩
theorem dk_342 : callable Tryz.prog 342 = true ∧ ∃ bx, Comp Tryz.prog bx gtab 342 d_342.nt d_342.c d_342.rs := ⟨kr, allbx, ⟨⟨Tryz.f342, _, Tryz.func342, rfl, rfl, kr, kr⟩⟩⟩
def d_287 : Fd := ⟨27, (.seq (.ops 2 [oo 4 (.box 31) [.t 0], oo 8 .mv [(.c (.lit (.bool false)))]]) (.seq (.ops 0 [oo 9 .mv [.t 3], oo 10 .mv [.t 1], oo 11 (.fldA 0) [.t 4], od 12 .ld1 [.t 11] [2], oo 13 .mv [.t 2], oo 14 (.bin .sub) [.t 13, kk 1], oo 15 (.ixA 1) [.t 12, .t 14], od 16 .ld1 [.t 15] [2, 3, 4, 5, 6], oo 17 (.bin .add) [.t 10, .t 16], oo 18 .mv [.t 1], oo 19 (.fldA 1) [.t 4], od 20 .ld1 [.t 19] [10], oo 21 .mv [.t 2], oo 22 (.bin .sub) [.t 21, kk 1], oo 23 (.ixA 1) [.t 20, .t 22], od 24 .ld1 [.t 23] [10, 11, 12, 13, 14], oo 25 (.bin .add) [.t 18, .t 24], oo 26 (.call 149) [.t 9, .t 17, .t 25], oo 8 .mv [.t 26]]) .ret)), [.t 8]⟩
theorem dk_287 : callable Tryz.prog 287 = true ∧ ∃ bx, Comp Tryz.prog bx gtab 287 d_287.nt d_287.c d_287.rs := ⟨kr, (fun n => !([1000004].contains n)), ⟨⟨Tryz.f287, _, Tryz.func287, rfl, rfl, kr, kr⟩⟩⟩
def d_203 : Fd := ⟨19, (.seq (.ops 0 [oo 4 .mv [kk 0]]) (.seq (.seq (.ops 0 [oo 6 .mv [.t 0], oo 7 .len [.t 6], oo 8 .mv [kk 0]]) (.block 0 (.loop (.seq (.ops 0 [oo 9 (.bin .lss) [.t 8, .t 7]]) (.seq (.cond (.t 9) .skip (.exit 0)) (.seq (.block 1 (.seq (.ops 0 [oo 10 .mv [.t 8], oo 5 .mv [.t 10]]) (.seq (.ops 0 [oo 11 .mv [.t 1], oo 12 .mv [.t 0], oo 13 .mv [.t 5], oo 14 (.ixA 3) [.t 12, .t 13], oo 15 (.ldA 3) [.t 14], oo 16 .callv [.t 11, .t 15]]) (.cond (.t 16) (.seq (.ops 0 [oo 17 .mv [.t 5], oo 4 .mv [.t 17]]) .ret) .skip)))) (.ops 0 [oo 18 (.bin .add) [.t 8, kk 1], oo 8 .mv [.t 18]]))))))) (.seq (.ops 0 [oo 4 .mv [kk (-1)]]) .ret))), [.t 4]⟩
theorem dk_203 : callable Tryz.prog 203 = true ∧ ∃ bx, Comp Tryz.prog bx gtab 203 d_203.nt d_203.c d_203.rs := ⟨kr, allbx, ⟨⟨Tryz.f203, _, Tryz.func203, rfl, rfl, kr, kr⟩⟩⟩
def d_311 : Fd := ⟨19, (.seq (.ops 0 [oo 4 .mv [kk 0]]) (.seq (.seq (.ops 0 [oo 6 .mv [.t 0], oo 7 .len [.t 6], oo 8 .mv [kk 0]]) (.block 0 (.loop (.seq (.ops 0 [oo 9 (.bin .lss) [.t 8, .t 7]]) (.seq (.cond (.t 9) .skip (.exit 0)) (.seq (.block 1 (.seq (.ops 0 [oo 10 .mv [.t 8], oo 5 .mv [.t 10]]) (.seq (.ops 0 [oo 11 .mv [.t 1], oo 12 .mv [.t 0], oo 13 .mv [.t 5], oo 14 (.ixA 2) [.t 12, .t 13], oo 15 (.ldA 2) [.t 14], oo 16 .callv [.t 11, .t 15]]) (.cond (.t 16) (.seq (.ops 0 [oo 17 .mv [.t 5], oo 4 .mv [.t 17]]) .ret) .skip)))) (.ops 0 [oo 18 (.bin .add) [.t 8, kk 1], oo 8 .mv [.t 18]]))))))) (.seq (.ops 0 [oo 4 .mv [kk (-1)]]) .ret))), [.t 4]⟩
theorem dk_311 : callable Tryz.prog 311 = true ∧ ∃ bx, Comp Tryz.prog bx gtab 311 d_311.nt d_311.c d_311.rs := ⟨kr, allbx, ⟨⟨Tryz.f311, _, Tryz.func311, rfl, rfl, kr, kr⟩⟩⟩
def d_228 : Fd := ⟨20, (.seq (.ops 0 [oo 3 .boxE [.t 0], oo 4 .boxE [.t 1], oo 6 .mv [kk 0]]) (.seq (.seq (.ops 0 [oo 7 .mv [.t 2], oo 8 (.bin .eql) [.t 7, kk 0]]) (.cond (.t 8) (.seq (.ops 0 [oo 9 (.fldA 0) [.t 4], oo 10 .ld1 [.t 9], oo 6 .mv [.t 10]]) .ret) .skip)) (.seq (.ops 0 [oo 11 (.fldA 0) [.t 4], od 12 .ld1 [.t 11] [0], oo 13 (.fldA 1) [.t 3], od 14 .ld1 [.t 13] [2], oo 15 .mv [.t 2], oo 16 (.bin .sub) [.t 15, kk 1], oo 17 (.ixA 1) [.t 14, .t 16], od 18 .ld1 [.t 17] [2, 3, 4, 5, 6], oo 19 (.bin .add) [.t 12, .t 18], oo 6 .mv [.t 19]]) .ret))), [.t 6]⟩
theorem dk_228 : callable Tryz.prog 228 = true ∧ ∃ bx, Comp Tryz.prog bx gtab 228 d_228.nt d_228.c d_228.rs := ⟨kr, allbx, ⟨⟨Tryz.f228, _, Tryz.func228, rfl, rfl, kr, kr⟩⟩⟩
def d_205 : Fd := ⟨17, (.seq (.ops 0 [oo 4 .mv [(.c (.lit (.bool false)))]]) (.seq (.ops 0 [oo 5 .mv [.t 0], oo 6 (.call 182) [.t 5], oo 7 .mv [.t 6], og 8 7 true .mv [.t 1], og 9 7 true (.call 182) [.t 8], og 10 7 true (.un .not) [.t 9], oo 11 .pick [.t 7, .t 10, (.c (.lit (.bool false)))], oo 12 .mv [.t 11], og 13 12 false .mv [.t 0], og 14 12 false .mv [.t 1], og 15 12 false (.bin .lss) [.t 13, .t 14], oo 16 .pick [.t 12, (.c (.lit (.bool true))), .t 15], oo 4 .mv [.t 16]]) .ret)), [.t 4]⟩
theorem dk_205 : callable Tryz.prog 205 = true ∧ ∃ bx, Comp Tryz.prog bx gtab 205 d_205.nt d_205.c d_205.rs := ⟨kr, allbx, ⟨⟨Tryz.f205, _, Tryz.func205, rfl, rfl, kr, kr⟩⟩⟩
def d_134 : Fd := ⟨8, (.seq (.ops 0 [oo 2 .mv [(.c (.sl 0 [] .exact))]]) (.seq (.seq (.ops 0 [oo 3 .mv [.t 0], oo 4 (.eqN false) [.t 3]]) (.cond (.t 4) (.seq (.ops 0 [oo 2 .mv [(.c (.sl 0 [] .exact))]]) .ret) .skip)) (.seq (.ops 4 [oo 5 (.mkslB 188 0 3 [] []) [], oo 6 .mv [.t 0], oo 7 (.appM 188 3 24) [.t 5, .t 6], oo 2 .mv [.t 7]]) .ret))), [.t 2]⟩
theorem dk_134 : callable Tryz.prog 134 = true ∧ ∃ bx, Comp Tryz.prog bx gtab 134 d_134.nt d_134.c d_134.rs := ⟨kr, allbx, ⟨⟨Tryz.f134, _, Tryz.func134, rfl, rfl, kr, kr⟩⟩⟩
def d_290 : Fd := ⟨12, (.seq (.ops 0 [oo 4 .mv [kk 0]]) (.seq (.ops 0 [oo 5 .mv [.t 0], oo 6 .mv [.t 1], oo 7 (.bin .sub) [.t 5, .t 6], oo 8 .mv [.t 1], oo 9 .mv [.t 0], oo 10 (.bin .sub) [.t 8, .t 9], oo 11 .mx [.t 7, .t 10], oo 4 .mv [.t 11]]) .ret)), [.t 4]⟩
theorem dk_290 : callable Tryz.prog 290 = true ∧ ∃ bx, Comp Tryz.prog bx gtab 290 d_290.nt d_290.c d_290.rs := ⟨kr, allbx, ⟨⟨Tryz.f290, _, Tryz.func290, rfl, rfl, kr, kr⟩⟩⟩
def d_345 : Fd := ⟨9, (.seq (.ops 2 [oo 3 (.box 242) [.t 1], oo 4 .mv [(.c (.lit (.bool false)))]]) (.seq (.ops 0 [oo 5 .mv [.t 0], oo 6 (.ldA 2) [.t 3], oo 7 (.call 355) [.t 5, .t 6], oo 8 (.bin .geq) [.t 7, kk 0], oo 4 .mv [.t 8]]) .ret)), [.t 4]⟩
theorem dk_345 : callable Tryz.prog 345 = true ∧ ∃ bx, Comp Tryz.prog bx gtab 345 d_345.nt d_345.c d_345.rs := ⟨kr, (fun n => !([1000003].contains n)), ⟨⟨Tryz.f345, _, Tryz.func345, rfl, rfl, kr, kr⟩⟩⟩
def d_354 : Fd := ⟨8, (.seq (.ops 2 [oo 2 (.box 242) [.t 0], oo 3 .mv [(.c (.lit (.bool false)))]]) (.seq (.ops 0 [oo 4 (.fldA 0) [.t 2], oo 5 .ld1 [.t 4], oo 6 .ld1 [.t 1], oo 7 (.bin .eql) [.t 5, .t 6], oo 3 .mv [.t 7]]) .ret)), [.t 3]⟩
theorem dk_354 : callable Tryz.prog 354 = true ∧ ∃ bx, Comp Tryz.prog bx gtab 354 d_354.nt d_354.c d_354.rs := ⟨kr, (fun n => !([1000002].contains n)), ⟨⟨Tryz.f354, _, Tryz.func354, rfl, rfl, kr, kr⟩⟩⟩
def d_336 : Fd := ⟨9, (.seq (.ops 0 [oo 4 .mv [(.c (.lit (.bool false)))]]) (.seq (.ops 0 [oo 5 .mv [.t 0], oo 6 .mv [.t 1], oo 7 (.call 352) [.t 5, .t 6], oo 8 (.bin .geq) [.t 7, kk 0], oo 4 .mv [.t 8]]) .ret)), [.t 4]⟩
theorem dk_336 : callable Tryz.prog 336 = true ∧ ∃ bx, Comp Tryz.prog bx gtab 336 d_336.nt d_336.c d_336.rs := ⟨kr, allbx, ⟨⟨Tryz.f336, _, Tryz.func336, rfl, rfl, kr, kr⟩⟩⟩
def d_182 : Fd := ⟨6, (.seq (.ops 0 [oo 2 .mv [(.c (.lit (.bool false)))]]) (.seq (.ops 0 [oo 3 .mv [.t 0], oo 4 .mv [.t 0], oo 5 (.bin .neq) [.t 3, .t 4], oo 2 .mv [.t 5]]) .ret)), [.t 2]⟩
theorem dk_182 : callable Tryz.prog 182 = true ∧ ∃ bx, Comp Tryz.prog bx gtab 182 d_182.nt d_182.c d_182.rs := ⟨kr, allbx, ⟨⟨Tryz.f182, _, Tryz.func182, rfl, rfl, kr, kr⟩⟩⟩
end Go.Proofs.YtdefefeifcdogaaGreat
namespace Go.Proofs.YtdefefeifcdogaaGreat
open Go.RowKit
set_option maxRecDepth 100000
def d_20 : Fd := ⟨171, (.seq (.ops 4 [oo 2 .boxE [.t 0], oo 3 .boxE [.t 1], ⟨(some 4), none, (.alloc 28 [(.sl 0 [] .exact), (.sl 0 [] .exact), (.sl 0 [] .exact)]), [], none⟩, oo 5 .mv [kk 0]]) (.seq (.ops 0 [oo 29 (.ldA 3) [.t 2], oo 30 (.ldA 12) [.t 3], oo 31 (.call 62) [.t 29, .t 30], oo 28 .mv [.t 31], oo 32 (.ext 0) [.t 28], oo 33 (.ext 1) [.t 28], oo 6 .mv [.t 32], oo 7 .mv [.t 33]]) (.seq (.seq (.ops 0 [oo 34 .mv [.t 7], oo 35 (.bin .neq) [.t 34, kk 0]]) (.cond (.t 35) (.seq (.ops 0 [⟨(some 36), none, (.build [(.sl 0 [] .exact), (.sl 0 [] .exact), (.sl 0 [] .exact)] []), [], none⟩, oo 37 .mv [.t 7], ⟨none, none, (.st 3), [.t 4, .t 36], none⟩, oo 5 .mv [.t 37]]) .ret) .skip)) (.seq (.ops 6 [oo 38 (.fldA 0) [.t 2], oo 39 (.ldA 2) [.t 38], oo 40 (.call 63) [.t 39], ⟨(some 41), none, (.build [(.sl 0 [] .exact), (.sl 0 [] .exact), (.sl 0 [] .exact)] [(0, 2)]), [.t 40], none⟩, ⟨(some 8), none, (.alloc 28 [(.sl 0 [] .exact), (.sl 0 [] .exact), (.sl 0 [] .exact)]), [], none⟩, ⟨none, none, (.st 3), [.t 8, .t 41], none⟩]) (.seq (.seq (.ops 0 [oo 42 (.fldA 2) [.t 2], oo 43 .ld1 [.t 42], oo 44 .len [.t 43], oo 45 .mv [kk 0]]) (.block 0 (.loop (.seq (.ops 0 [oo 46 (.bin .lss) [.t 45, .t 44]]) (.seq (.cond (.t 46) .skip (.exit 0)) (.seq (.block 1 (.seq (.ops 6 [oo 47 .mv [.t 45], oo 48 (.ixA 4) [.t 43, .t 45], oo 49 (.ldA 4) [.t 48], ⟨(some 10), none, (.alloc 84 [(.lit (.bool false)), (.lit (.bool false)), (.sl 0 [] .exact), (.sl 0 [] .exact)]), [], none⟩, oo 9 .mv [.t 47], ⟨none, none, (.st 4), [.t 10, .t 49], none⟩]) (.seq (.ops 2 [oo 50 (.mkmap [0, 1, 1]) [], oo 11 .mv [.t 50]]) (.seq (.ops 5 [oo 51 (.fldA 3) [.t 10], oo 52 .ld1 [.t 51], oo 53 .len [.t 52], oo 54 (.mk 94 1 8 [(.lit (.map none))]) [.t 53, .t 53], oo 12 .mv [.t 54]]) (.seq (.seq (.ops 0 [oo 55 .mv [.t 12], oo 56 .len [.t 55], oo 57 .mv [kk 0]]) (.block 2 (.loop (.seq (.ops 0 [oo 58 (.bin .lss) [.t 57, .t 56]]) (.seq (.cond (.t 58) .skip (.exit 2)) (.seq (.block 3 (.seq (.ops 0 [oo 59 .mv [.t 57], oo 13 .mv [.t 59]]) (.ops 5 [oo 60 .mv [.t 12], oo 61 .mv [.t 13], oo 62 (.mkmap [0]) [], oo 63 (.ixA 1) [.t 60, .t 61], ⟨none, none, (.st 1), [.t 63, .t 62], none⟩]))) (.ops 0 [oo 64 (.bin .add) [.t 57, kk 1], oo 57 .mv [.t 64]]))))))) (.seq (.seq (.ops 0 [oo 65 .mv [.t 6], oo 66 .nilck [.t 65], oo 67 (.fldA 15) [.t 66], oo 68 .ld1 [.t 67], oo 69 .mv [.t 9], oo 70 (.ixA 1) [.t 68, .t 69], oo 71 .ld1 [.t 70], oo 72 .len [.t 71], oo 73 .mv [kk 0]]) (.block 4 (.loop (.seq (.ops 0 [oo 74 (.bin .lss) [.t 73, .t 72]]) (.seq (.cond (.t 74) .skip (.exit 4)) (.seq (.block 5 (.seq (.ops 0 [oo 75 (.ixA 1) [.t 71, .t 73], oo 76 .ld1 [.t 75], oo 15 .mv [.t 76]]) (.seq (.ops 0 [oo 77 .mv [.t 15], oo 78 .nilck [.t 77], oo 79 (.fldA 5) [.t 78], oo 80 .ld1 [.t 79], oo 81 .len [.t 80], oo 82 .mv [kk 0]]) (.block 6 (.loop (.seq (.ops 0 [oo 83 (.bin .lss) [.t 82, .t 81]]) (.seq (.cond (.t 83) .skip (.exit 6)) (.seq (.block 7 (.seq (.ops 4 [oo 84 (.ixA 5) [.t 80, .t 82], oo 85 (.ldA 5) [.t 84], ⟨(some 17), none, (.alloc 114 [li 0, (.lit (.bool false)), (.lit (.bool false)), (.sl 0 [] .exact), li 0]), [], none⟩, ⟨none, none, (.st 5), [.t 17, .t 85], none⟩]) (.seq (.ops 0 [oo 86 .mv [.t 11], oo 87 (.fldA 0) [.t 17], oo 88 (.fldA 0) [.t 87], oo 89 (.ldA 3) [.t 88], ⟨none, none, (.mput [0, 1, 1]), [.t 86, .t 89, kk 1], none⟩]) (.seq (.ops 0 [oo 90 (.fldA 0) [.t 17], oo 91 (.fldA 3) [.t 90], oo 92 .ld1 [.t 91], oo 93 .len [.t 92], oo 94 .mv [kk 0]]) (.block 8 (.loop (.seq (.ops 0 [oo 95 (.bin .lss) [.t 94, .t 93]]) (.seq (.cond (.t 95) .skip (.exit 8)) (.seq (.block 9 (.seq (.ops 0 [oo 96 .mv [.t 94], oo 97 (.ixA 1) [.t 92, .t 94], oo 98 .ld1 [.t 97], oo 18 .mv [.t 96], oo 19 .mv [.t 98]]) (.ops 0 [oo 99 .mv [.t 12], oo 100 .mv [.t 18], oo 101 (.ixA 1) [.t 99, .t 100], oo 102 .ld1 [.t 101], oo 103 .mv [.t 19], ⟨none, none, (.mput [0]), [.t 102, .t 103, kk 1], none⟩]))) (.ops 0 [oo 104 (.bin .add) [.t 94, kk 1], oo 94 .mv [.t 104]])))))))))) (.ops 0 [oo 105 (.bin .add) [.t 82, kk 1], oo 82 .mv [.t 105]]))))))))) (.ops 0 [oo 106 (.bin .add) [.t 73, kk 1], oo 73 .mv [.t 106]]))))))) (.seq (.ops 7 [oo 107 (.fldA 0) [.t 10], oo 108 .ld1 [.t 107], oo 109 (.fldA 1) [.t 10], oo 110 .ld1 [.t 109], ⟨(some 111), none, (.build [(.lit (.bool false)), (.lit (.bool false)), (.sl 0 [] .exact), (.sl 0 [] .exact)] [(0, 1), (1, 1)]), [.t 108, .t 110], none⟩, ⟨(some 20), none, (.alloc 84 [(.lit (.bool false)), (.lit (.bool false)), (.sl 0 [] .exact), (.sl 0 [] .exact)]), [], none⟩, ⟨none, none, (.st 4), [.t 20, .t 111], none⟩]) (.seq (.seq (.ops 0 [oo 112 (.fldA 2) [.t 10], oo 113 .ld1 [.t 112], oo 114 .len [.t 113], oo 115 .mv [kk 0]]) (.block 10 (.loop (.seq (.ops 0 [oo 116 (.bin .lss) [.t 115, .t 114]]) (.seq (.cond (.t 116) .skip (.exit 10)) (.seq (.block 11 (.seq (.ops 4 [oo 117 (.ixA 3) [.t 113, .t 115], oo 118 (.ldA 3) [.t 117], oo 22 (.alloc 110 [li 0, (.lit (.bool false)), (.lit (.bool false))]) [], ⟨none, none, (.st 3), [.t 22, .t 118], none⟩]) (.seq (.ops 0 [oo 119 .mv [.t 11], oo 120 (.ldA 3) [.t 22], oo 121 (.mlk [0, 1, 1] false) [.t 119, .t 120], oo 122 (.bin .eql) [.t 121, kk 1]]) (.cond (.t 122) (.ops 7 [oo 123 (.fldA 2) [.t 20], oo 124 .ld1 [.t 123], oo 125 (.ldA 3) [.t 22], oo 126 (.mkslB 110 1 3 [li 0, (.lit (.bool false)), (.lit (.bool false))] [(0, 3)]) [.t 125], oo 127 (.appM 110 3 16) [.t 124, .t 126], oo 128 (.fldA 2) [.t 20], ⟨none, none, (.st 1), [.t 128, .t 127], none⟩]) .skip)))) (.ops 0 [oo 129 (.bin .add) [.t 115, kk 1], oo 115 .mv [.t 129]]))))))) (.seq (.seq (.ops 0 [oo 130 (.fldA 3) [.t 10], oo 131 .ld1 [.t 130], oo 132 .len [.t 131], oo 133 .mv [kk 0]]) (.block 12 (.loop (.seq (.ops 0 [oo 134 (.bin .lss) [.t 133, .t 132]]) (.seq (.cond (.t 134) .skip (.exit 12)) (.seq (.block 13 (.seq (.ops 0 [oo 135 .mv [.t 133], oo 136 (.ixA 1) [.t 131, .t 133], oo 137 .ld1 [.t 136], oo 23 .mv [.t 135], oo 24 .mv [.t 137]]) (.seq (.ops 0 [oo 25 .mv [(.c (.sl 0 [] .exact))]]) (.seq (.seq (.ops 0 [oo 138 .mv [.t 24], oo 139 .len [.t 138], oo 140 .mv [kk 0]]) (.block 14 (.loop (.seq (.ops 0 [oo 141 (.bin .lss) [.t 140, .t 139]]) (.seq (.cond (.t 141) .skip (.exit 14)) (.seq (.block 15 (.seq (.ops 0 [oo 142 (.ixA 1) [.t 138, .t 140], oo 143 .ld1 [.t 142], oo 27 .mv [.t 143]]) (.seq (.ops 0 [oo 144 .mv [.t 12], oo 145 .mv [.t 23], oo 146 (.ixA 1) [.t 144, .t 145], oo 147 .ld1 [.t 146], oo 148 .mv [.t 27], oo 149 (.mlk [0] false) [.t 147, .t 148], oo 150 (.bin .eql) [.t 149, kk 1]]) (.cond (.t 150) (.ops 5 [oo 151 .mv [.t 25], oo 152 .mv [.t 27], oo 153 (.mkslB 3 1 1 [li 0] [(0, 1)]) [.t 152], oo 154 (.appM 3 1 8) [.t 151, .t 153], oo 25 .mv [.t 154]]) .skip)))) (.ops 0 [oo 155 (.bin .add) [.t 140, kk 1], oo 140 .mv [.t 155]]))))))) (.ops 7 [oo 156 (.fldA 3) [.t 20], oo 157 .ld1 [.t 156], oo 158 .mv [.t 25], ⟨(some 159), none, (.mkslB 23 1 1 [(.sl 0 [] .exact)] [(0, 1)]), [.t 158], none⟩, oo 160 (.appM 23 1 24) [.t 157, .t 159], oo 161 (.fldA 3) [.t 20], ⟨none, none, (.st 1), [.t 161, .t 160], none⟩]))))) (.ops 0 [oo 162 (.bin .add) [.t 133, kk 1], oo 133 .mv [.t 162]]))))))) (.ops 7 [oo 163 (.fldA 2) [.t 8], oo 164 .ld1 [.t 163], oo 165 (.ldA 4) [.t 20], ⟨(some 166), none, (.mkslB 84 1 4 [(.lit (.bool false)), (.lit (.bool false)), (.sl 0 [] .exact), (.sl 0 [] .exact)] [(0, 4)]), [.t 165], none⟩, oo 167 (.appM 84 4 56) [.t 164, .t 166], oo 168 (.fldA 2) [.t 8], ⟨none, none, (.st 1), [.t 168, .t 167], none⟩])))))))))) (.ops 0 [oo 169 (.bin .add) [.t 45, kk 1], oo 45 .mv [.t 169]]))))))) (.seq (.ops 0 [oo 170 (.ldA 3) [.t 8], ⟨none, none, (.st 3), [.t 4, .t 170], none⟩, oo 5 .mv [kk 0]]) .ret)))))), [(.c 4 3 true), .t 5]⟩
theorem dk_20 : callable Tryz.prog 20 = true ∧ ∃ bx, Comp Tryz.prog bx gtab 20 d_20.nt d_20.c d_20.rs := ⟨kr, allbx, ⟨⟨Tryz.f20, _, Tryz.func20, rfl, rfl, kr, kr⟩⟩⟩
def d_75 : Fd := ⟨101, (.seq (.ops 2 [oo 1 (.box 31) [.t 0], oo 2 .mv [kk 0]]) (.seq (.ops 0 [oo 7 (.fldA 0) [.t 1], oo 8 .ld1 [.t 7], oo 9 .len [.t 8], oo 3 .mv [.t 9]]) (.seq (.seq (.ops 0 [oo 10 .mv [.t 3], oo 11 (.call 149) [.t 10, kk 1, kk 4], oo 12 (.un .not) [.t 11], oo 13 .mv [.t 12], og 14 13 false (.fldA 1) [.t 1], og 15 13 false .ld1 [.t 14], og 16 13 false .len [.t 15], og 17 13 false .mv [.t 3], og 18 13 false (.bin .neq) [.t 16, .t 17], oo 19 .pick [.t 13, (.c (.lit (.bool true))), .t 18], oo 20 .mv [.t 19], og 21 20 false (.fldA 2) [.t 1], og 22 20 false .ld1 [.t 21], og 23 20 false .len [.t 22], og 24 20 false .mv [.t 3], og 25 20 false (.bin .neq) [.t 23, .t 24], oo 26 .pick [.t 20, (.c (.lit (.bool true))), .t 25]]) (.cond (.t 26) (.seq (.ops 0 [oo 2 .mv [kk 60]]) .ret) .skip)) (.seq (.seq (.ops 0 [oo 27 .mv [.t 3], oo 28 .mv [kk 0]]) (.block 0 (.loop (.seq (.ops 0 [oo 29 (.bin .lss) [.t 28, .t 27]]) (.seq (.cond (.t 29) .skip (.exit 0)) (.seq (.block 1 (.seq (.ops 0 [oo 30 .mv [.t 28], oo 4 .mv [.t 30]]) (.seq (.ops 0 [oo 31 (.fldA 0) [.t 1], oo 32 .ld1 [.t 31], oo 33 .mv [.t 4], oo 34 (.ixA 1) [.t 32, .t 33], oo 35 .ld1 [.t 34], oo 36 (.bin .lss) [.t 35, kk 0], oo 37 .mv [.t 36], og 38 37 false (.fldA 0) [.t 1], ⟨(some 39), (some (37, false)), .ld1, [.t 38], (some [0, 1, 2, 3, 4, 5, 6, 7])⟩, og 40 37 false .mv [.t 4], og 41 37 false (.ixA 1) [.t 39, .t 40], ⟨(some 42), (some (37, false)), .ld1, [.t 41], (some [0, 1, 2, 3, 4, 5, 6, 7, 8, 9, 10])⟩, og 43 37 false (.fldA 1) [.t 1], ⟨(some 44), (some (37, false)), .ld1, [.t 43], (some [0, 1, 2, 3, 4, 5, 6, 12])⟩, og 45 37 false .mv [.t 4], og 46 37 false (.ixA 1) [.t 44, .t 45], ⟨(some 47), (some (37, false)), .ld1, [.t 46], (some [0, 1, 2, 3, 4, 5, 6, 12, 13, 14, 15])⟩, og 48 37 false (.bin .gtr) [.t 42, .t 47], oo 49 .pick [.t 37, (.c (.lit (.bool true))), .t 48], oo 50 .mv [.t 49], og 51 50 false (.fldA 1) [.t 1], og 52 50 false .ld1 [.t 51], og 53 50 false .mv [.t 4], og 54 50 false (.ixA 1) [.t 52, .t 53], og 55 50 false .ld1 [.t 54], og 56 50 false (.bin .gtr) [.t 55, kk 8], oo 57 .pick [.t 50, (.c (.lit (.bool true))), .t 56]]) (.cond (.t 57) (.seq (.ops 0 [oo 2 .mv [kk 60]]) .ret) .skip)))) (.ops 0 [oo 58 (.bin .add) [.t 28, kk 1], oo 28 .mv [.t 58]]))))))) (.seq (.seq (.ops 0 [oo 59 (.fldA 0) [.t 1], oo 60 .ld1 [.t 59], oo 61 (.call 150) [.t 60], oo 62 (.un .not) [.t 61], oo 63 .mv [.t 62], og 64 63 false (.fldA 1) [.t 1], og 65 63 false .ld1 [.t 64], og 66 63 false (.call 150) [.t 65], og 67 63 false (.un .not) [.t 66], oo 68 .pick [.t 63, (.c (.lit (.bool true))), .t 67], oo 69 .mv [.t 68], og 70 69 false (.fldA 3) [.t 1], og 71 69 false .ld1 [.t 70], og 72 69 false (.call 149) [.t 71, kk 1, kk 18], og 73 69 false (.un .not) [.t 72], oo 74 .pick [.t 69, (.c (.lit (.bool true))), .t 73], oo 75 .mv [.t 74], og 76 75 false (.fldA 4) [.t 1], og 77 75 false .ld1 [.t 76], og 78 75 false (.call 149) [.t 77, kk 0, kk 18], og 79 75 false (.un .not) [.t 78], oo 80 .pick [.t 75, (.c (.lit (.bool true))), .t 79]]) (.cond (.t 80) (.seq (.ops 0 [oo 2 .mv [kk 60]]) .ret) .skip)) (.seq (.seq (.ops 13 [oo 81 (.fldA 5) [.t 1], oo 82 .ld1 [.t 81], oo 83 (.fldA 6) [.t 1], oo 84 .ld1 [.t 83], oo 85 (.fldA 7) [.t 1], oo 86 .ld1 [.t 85], oo 87 (.fldA 8) [.t 1], oo 88 .ld1 [.t 87], oo 89 (.fldA 9) [.t 1], oo 90 .ld1 [.t 89], oo 91 (.mkslB 3 5 1 [li 0, li 0, li 0, li 0, li 0] [(0, 1), (1, 1), (2, 1), (3, 1), (4, 1)]) [.t 82, .t 84, .t 86, .t 88, .t 90], oo 92 .len [.t 91], oo 93 .mv [kk 0]]) (.block 2 (.loop (.seq (.ops 0 [oo 94 (.bin .lss) [.t 93, .t 92]]) (.seq (.cond (.t 94) .skip (.exit 2)) (.seq (.block 3 (.seq (.ops 0 [oo 95 (.ixA 1) [.t 91, .t 93], oo 96 .ld1 [.t 95], oo 6 .mv [.t 96]]) (.seq (.ops 0 [oo 97 .mv [.t 6], oo 98 (.call 149) [.t 97, kk 0, kk 1000], oo 99 (.un .not) [.t 98]]) (.cond (.t 99) (.seq (.ops 0 [oo 2 .mv [kk 60]]) .ret) .skip)))) (.ops 0 [oo 100 (.bin .add) [.t 93, kk 1], oo 93 .mv [.t 100]]))))))) (.seq (.ops 0 [oo 2 .mv [kk 0]]) .ret))))))), [.t 2]⟩
theorem dk_75 : callable Tryz.prog 75 = true ∧ ∃ bx, Comp Tryz.prog bx gtab 75 d_75.nt d_75.c d_75.rs := ⟨kr, (fun n => !([1000001].contains n)), ⟨⟨Tryz.f75, _, Tryz.func75, rfl, rfl, kr, kr⟩⟩⟩
def d_310 : Fd := ⟨74, (.seq (.ops 2 [oo 1 (.box 102) [.t 0], oo 2 .mv [(.c (.lit (.bool false)))]]) (.seq (.ops 0 [oo 3 .mv [kk 0]]) (.seq (.seq (.ops 0 [oo 10 (.fldA 0) [.t 1], oo 11 .ld1 [.t 10], oo 12 .len [.t 11], oo 13 .mv [kk 0]]) (.block 0 (.loop (.seq (.ops 0 [oo 14 (.bin .lss) [.t 13, .t 12]]) (.seq (.cond (.t 14) .skip (.exit 0)) (.seq (.block 1 (.seq (.ops 4 [oo 15 (.ixA 2) [.t 11, .t 13], oo 16 (.ldA 2) [.t 15], oo 5 (.alloc 242 [li 0, li 0]) [], ⟨none, none, (.st 2), [.t 5, .t 16], none⟩]) (.seq (.seq (.ops 0 [oo 17 (.fldA 0) [.t 5], oo 18 .ld1 [.t 17], oo 19 .mv [.t 3], oo 20 (.bin .leq) [.t 18, .t 19], oo 21 .mv [.t 20], og 22 21 false (.fldA 0) [.t 5], og 23 21 false .ld1 [.t 22], og 24 21 false (.bin .gtr) [.t 23, kk 14], oo 25 .pick [.t 21, (.c (.lit (.bool true))), .t 24], oo 26 .mv [.t 25], og 27 26 false (.fldA 1) [.t 5], og 28 26 false .ld1 [.t 27], og 29 26 false (.call 149) [.t 28, kk 1, kk 18], og 30 26 false (.un .not) [.t 29], oo 31 .pick [.t 26, (.c (.lit (.bool true))), .t 30]]) (.cond (.t 31) (.seq (.ops 0 [oo 2 .mv [(.c (.lit (.bool false)))]]) .ret) .skip)) (.ops 0 [oo 32 (.fldA 0) [.t 5], oo 33 .ld1 [.t 32], oo 3 .mv [.t 33]])))) (.ops 0 [oo 34 (.bin .add) [.t 13, kk 1], oo 13 .mv [.t 34]]))))))) (.seq (.seq (.ops 0 [oo 35 (.fldA 1) [.t 1], oo 36 .ld1 [.t 35], oo 37 (.call 342) [.t 36], oo 38 (.un .not) [.t 37], oo 39 .mv [.t 38], og 40 39 false (.fldA 2) [.t 1], og 41 39 false .ld1 [.t 40], og 42 39 false (.call 342) [.t 41], og 43 39 false (.un .not) [.t 42], oo 44 .pick [.t 39, (.c (.lit (.bool true))), .t 43]]) (.cond (.t 44) (.seq (.ops 0 [oo 2 .mv [(.c (.lit (.bool false)))]]) .ret) .skip)) (.seq (.seq (.ops 0 [oo 45 (.fldA 1) [.t 1], oo 46 .ld1 [.t 45], oo 47 .len [.t 46], oo 48 .mv [kk 0]]) (.block 2 (.loop (.seq (.ops 0 [oo 49 (.bin .lss) [.t 48, .t 47]]) (.seq (.cond (.t 49) .skip (.exit 2)) (.seq (.block 3 (.seq (.ops 0 [oo 50 (.ixA 1) [.t 46, .t 48], oo 51 .ld1 [.t 50], oo 7 .mv [.t 51]]) (.seq (.ops 0 [oo 52 (.ldA 3) [.t 1], oo 53 .mv [.t 7], oo 54 (.call 343) [.t 52, .t 53], oo 55 (.bin .lss) [.t 54, kk 0]]) (.cond (.t 55) (.seq (.ops 0 [oo 2 .mv [(.c (.lit (.bool false)))]]) .ret) .skip)))) (.ops 0 [oo 56 (.bin .add) [.t 48, kk 1], oo 48 .mv [.t 56]]))))))) (.seq (.seq (.ops 0 [oo 57 (.fldA 2) [.t 1], oo 58 .ld1 [.t 57], oo 59 .len [.t 58], oo 60 .mv [kk 0]]) (.block 4 (.loop (.seq (.ops 0 [oo 61 (.bin .lss) [.t 60, .t 59]]) (.seq (.cond (.t 61) .skip (.exit 4)) (.seq (.block 5 (.seq (.ops 0 [oo 62 (.ixA 1) [.t 58, .t 60], oo 63 .ld1 [.t 62], oo 9 .mv [.t 63]]) (.seq (.ops 0 [oo 64 .mv [.t 9], oo 65 (.call 149) [.t 64, kk 1, kk 14], oo 66 (.un .not) [.t 65], oo 67 .mv [.t 66], og 68 67 false (.ldA 3) [.t 1], og 69 67 false .mv [.t 9], og 70 67 false (.call 343) [.t 68, .t 69], og 71 67 false (.bin .geq) [.t 70, kk 0], oo 72 .pick [.t 67, (.c (.lit (.bool true))), .t 71]]) (.cond (.t 72) (.seq (.ops 0 [oo 2 .mv [(.c (.lit (.bool false)))]]) .ret) .skip)))) (.ops 0 [oo 73 (.bin .add) [.t 60, kk 1], oo 60 .mv [.t 73]]))))))) (.seq (.ops 0 [oo 2 .mv [(.c (.lit (.bool true)))]]) .ret))))))), [.t 2]⟩
theorem dk_310 : callable Tryz.prog 310 = true ∧ ∃ bx, Comp Tryz.prog bx gtab 310 d_310.nt d_310.c d_310.rs := ⟨kr, (fun n => !([1000001].contains n)), ⟨⟨Tryz.f310, _, Tryz.func310, rfl, rfl, kr, kr⟩⟩⟩
def d_71 : Fd := ⟨71, (.seq (.ops 0 [oo 1 .boxE [.t 0], oo 2 .mv [kk 0]]) (.seq (.seq (.ops 0 [oo 8 (.fldA 0) [.t 1], oo 9 .ld1 [.t 8], oo 10 .len [.t 9], oo 11 (.bin .gtr) [.t 10, kk 14], oo 12 .mv [.t 11], og 13 12 false (.fldA 1) [.t 1], og 14 12 false .ld1 [.t 13], og 15 12 false .len [.t 14], og 16 12 false (.bin .gtr) [.t 15, kk 18], oo 17 .pick [.t 12, (.c (.lit (.bool true))), .t 16]]) (.cond (.t 17) (.seq (.ops 0 [oo 2 .mv [kk 2]]) .ret) .skip)) (.seq (.seq (.ops 0 [oo 18 (.fldA 0) [.t 1], oo 19 .ld1 [.t 18], oo 20 .len [.t 19], oo 21 (.bin .eql) [.t 20, kk 0]]) (.cond (.t 21) (.seq (.ops 0 [oo 2 .mv [kk 11]]) .ret) .skip)) (.seq (.ops 0 [oo 3 .mv [kk 0]]) (.seq (.seq (.ops 0 [oo 22 (.fldA 1) [.t 1], oo 23 .ld1 [.t 22], oo 24 .len [.t 23], oo 25 .mv [kk 0]]) (.block 0 (.loop (.seq (.ops 0 [oo 26 (.bin .lss) [.t 25, .t 24]]) (.seq (.cond (.t 26) .skip (.exit 0)) (.seq (.block 1 (.seq (.ops 0 [oo 27 (.ixA 1) [.t 23, .t 25], oo 28 .ld1 [.t 27], oo 5 .mv [.t 28]]) (.seq (.seq (.ops 0 [oo 29 .mv [.t 5], oo 30 .mv [.t 3], oo 31 (.bin .leq) [.t 29, .t 30], oo 32 .mv [.t 31], og 33 32 false .mv [.t 5], og 34 32 false (.bin .gtr) [.t 33, kk 127], oo 35 .pick [.t 32, (.c (.lit (.bool true))), .t 34]]) (.cond (.t 35) (.seq (.ops 0 [oo 2 .mv [kk 11]]) .ret) .skip)) (.ops 0 [oo 36 .mv [.t 5], oo 3 .mv [.t 36]])))) (.ops 0 [oo 37 (.bin .add) [.t 25, kk 1], oo 25 .mv [.t 37]]))))))) (.seq (.seq (.ops 0 [oo 38 (.fldA 0) [.t 1], oo 39 .ld1 [.t 38], oo 40 .len [.t 39], oo 41 .mv [kk 0]]) (.block 2 (.loop (.seq (.ops 0 [oo 42 (.bin .lss) [.t 41, .t 40]]) (.seq (.cond (.t 42) .skip (.exit 2)) (.seq (.block 3 (.seq (.ops 4 [oo 43 (.ixA 3) [.t 39, .t 41], oo 44 (.ldA 3) [.t 43], oo 7 (.alloc 188 [li 0, li 0, (.lit (.bool false))]) [], ⟨none, none, (.st 3), [.t 7, .t 44], none⟩]) (.seq (.seq (.ops 0 [oo 45 (.fldA 1) [.t 7], oo 46 .ld1 [.t 45], oo 47 (.bin .lss) [.t 46, kk 0], oo 48 .mv [.t 47], og 49 48 false (.fldA 1) [.t 7], og 50 48 false .ld1 [.t 49], og 51 48 false (.fldA 1) [.t 1], og 52 48 false .ld1 [.t 51], og 53 48 false .len [.t 52], og 54 48 false (.bin .gtr) [.t 50, .t 53], oo 55 .pick [.t 48, (.c (.lit (.bool true))), .t 54]]) (.cond (.t 55) (.seq (.ops 0 [oo 2 .mv [kk 13]]) .ret) .skip)) (.seq (.ops 0 [oo 56 (.fldA 0) [.t 7], oo 57 .ld1 [.t 56], oo 58 (.bin .lss) [.t 57, kk 0], oo 59 .mv [.t 58], og 60 59 false (.fldA 0) [.t 7], og 61 59 false .ld1 [.t 60], og 62 59 false (.bin .gtr) [.t 61, kk 127], oo 63 .pick [.t 59, (.c (.lit (.bool true))), .t 62], oo 64 .mv [.t 63], og 65 64 false (.ldA 2) [.t 1], og 66 64 false (.ldA 3) [.t 7], og 67 64 false (.call 142) [.t 65, .t 66], og 68 64 false (.bin .gtr) [.t 67, kk 127], oo 69 .pick [.t 64, (.c (.lit (.bool true))), .t 68]]) (.cond (.t 69) (.seq (.ops 0 [oo 2 .mv [kk 10]]) .ret) .skip))))) (.ops 0 [oo 70 (.bin .add) [.t 41, kk 1], oo 41 .mv [.t 70]]))))))) (.seq (.ops 0 [oo 2 .mv [kk 0]]) .ret))))))), [.t 2]⟩
theorem dk_71 : callable Tryz.prog 71 = true ∧ ∃ bx, Comp Tryz.prog bx gtab 71 d_71.nt d_71.c d_71.rs := ⟨kr, allbx, ⟨⟨Tryz.f71, _, Tryz.func71, rfl, rfl, kr, kr⟩⟩⟩
def d_153 : Fd := ⟨70, (.seq (.ops 6 [oo 5 (.box 105) [.t 1], oo 6 (.box 84) [.t 2], oo 7 (.box 112) [.t 3], ⟨(some 8), none, (.alloc 105 [li 0, (.sl 0 [] .exact), (.sl 0 [] .exact), (.sl 0 [] .exact), (.sl 0 [] .exact)]), [], none⟩, oo 9 .mv [(.c (.lit (.bool false)))], oo 10 .mv [kk 0]]) (.seq (.ops 0 [oo 14 .mv [.t 0], oo 15 (.fldA 0) [.t 5], oo 16 .ld1 [.t 15], oo 17 (.ldA 4) [.t 6], oo 18 (.ldA 4) [.t 7], oo 19 (.call 208) [.t 14, .t 16, .t 17, .t 18], oo 13 .mv [.t 19], oo 20 (.ext 0) [.t 13], oo 21 (.ext 1) [.t 13], oo 11 .mv [.t 20], oo 9 .mv [.t 21]]) (.seq (.ops 8 [oo 22 (.ldA 4) [.t 6], oo 23 (.fldA 0) [.t 7], oo 24 (.ldA 3) [.t 23], oo 25 (.fldA 3) [.t 7], oo 26 .ld1 [.t 25], oo 27 (.call 78) [.t 22, .t 24, .t 26], ⟨(some 12), none, (.alloc 136 [(.lit (.bool false)), li 0, (.lit (.bool false)), (.lit (.bool false)), (.lit (.bool false)), (.sl 0 [] .exact)]), [], none⟩, ⟨none, none, (.st 6), [.t 12, .t 27], none⟩]) (.seq (.seq (.ops 0 [oo 28 .mv [.t 9], oo 29 (.un .not) [.t 28], oo 30 .mv [.t 29], og 31 30 false .mv [.t 0], og 32 30 false .nilck [.t 31], og 33 30 false (.fldA 3) [.t 32], og 34 30 false (.fldA 11) [.t 33], og 35 30 false .ld1 [.t 34], og 36 30 false .mv [.t 35], og 37 36 true .mv [.t 0], og 38 36 true .nilck [.t 37], og 39 36 true (.fldA 0) [.t 38], og 40 36 true (.fldA 0) [.t 39], ⟨(some 41), (some (36, true)), (.ldA 2), [.t 40], (some [0, 1, 2, 3, 4, 5, 6, 7, 8, 9, 10, 11, 12])⟩, ⟨(some 42), (some (36, true)), (.ldA 6), [.t 12], (some [0, 1, 2, 3, 4, 5, 6, 7, 8])⟩, og 43 36 true (.call 125) [.t 41, .t 42], og 44 36 true (.un .not) [.t 43], og 45 30 false .pick [.t 36, .t 44, (.c (.lit (.bool false)))], oo 46 .pick [.t 30, (.c (.lit (.bool true))), .t 45]]) (.cond (.t 46) (.seq (.ops 0 [oo 47 (.ldA 5) [.t 8], ⟨none, none, (.st 5), [.t 8, .t 47], none⟩, oo 9 .mv [(.c (.lit (.bool false)))], oo 10 .mv [kk 0]]) .ret) .skip)) (.seq (.ops 0 [oo 48 .mv [.t 11], oo 49 (.fldA 0) [.t 8], ⟨none, none, (.st 1), [.t 49, .t 48], none⟩]) (.seq (.ops 0 [oo 50 (.fldA 1) [.t 5], oo 51 (.ldA 3) [.t 50], oo 52 (.ldA 6) [.t 12], oo 53 (.call 209) [.t 51, .t 52], oo 54 (.fldA 1) [.t 8], ⟨none, none, (.st 3), [.t 54, .t 53], none⟩]) (.seq (.ops 0 [oo 56 .mv [.t 0], oo 57 (.ldA 5) [.t 5], oo 58 (.fldA 1) [.t 8], oo 59 (.ldA 3) [.t 58], oo 60 (.call 210) [.t 56, .t 57, .t 59], oo 55 .mv [.t 60], oo 61 (.ext 0) [.t 55], oo 62 (.ext 1) [.t 55], oo 63 (.fldA 4) [.t 8], ⟨none, none, (.st 1), [.t 63, .t 61], none⟩, oo 10 .mv [.t 62]]) (.seq (.ops 0 [oo 64 (.ldA 5) [.t 8], oo 65 (.fldA 4) [.t 8], oo 66 .ld1 [.t 65], oo 67 .len [.t 66], oo 68 (.bin .gtr) [.t 67, kk 0], oo 69 .mv [.t 10], ⟨none, none, (.st 5), [.t 8, .t 64], none⟩, oo 9 .mv [.t 68], oo 10 .mv [.t 69]]) .ret)))))))), [(.c 8 5 true), .t 9, .t 10]⟩
theorem dk_153 : callable Tryz.prog 153 = true ∧ ∃ bx, Comp Tryz.prog bx gtab 153 d_153.nt d_153.c d_153.rs := ⟨kr, (fun n => !([1000005, 1000006, 1000007].contains n)), ⟨⟨Tryz.f153, _, Tryz.func153, rfl, rfl, kr, kr⟩⟩⟩
def d_208 : Fd := ⟨62, (.seq (.ops 4 [oo 6 (.box 84) [.t 2], oo 7 (.box 112) [.t 3], oo 8 .mv [kk 0], oo 9 .mv [(.c (.lit (.bool false)))]]) (.seq (.seq (.ops 0 [oo 11 .mv [.t 0], oo 12 .nilck [.t 11], oo 13 (.fldA 3) [.t 12], oo 14 (.fldA 10) [.t 13], oo 15 .ld1 [.t 14], oo 16 (.bin .eql) [.t 15, kk 0]]) (.cond (.t 16) (.seq (.ops 0 [oo 8 .mv [kk 0], oo 9 .mv [(.c (.lit (.bool true)))]]) .ret) .skip)) (.seq (.seq (.ops 0 [oo 17 (.fldA 0) [.t 6], oo 18 .ld1 [.t 17], oo 19 .mv [.t 18], og 20 19 true .mv [.t 0], og 21 19 true .nilck [.t 20], og 22 19 true (.fldA 16) [.t 21], og 23 19 true .ld1 [.t 22], og 24 19 true (.bin .gtr) [.t 23, kk 0], oo 25 .pick [.t 19, .t 24, (.c (.lit (.bool false)))]]) (.cond (.t 25) (.seq (.ops 0 [oo 26 .mv [.t 0], oo 27 .nilck [.t 26], oo 28 (.fldA 0) [.t 27], oo 29 (.fldA 2) [.t 28], od 30 .ld1 [.t 29] [0, 1, 2, 3], oo 31 .mv [.t 0], oo 32 .nilck [.t 31], oo 33 (.fldA 16) [.t 32], od 34 .ld1 [.t 33] [5, 6, 7], oo 35 (.slc 4 true true) [.t 30, kk 1, .t 34], oo 36 (.call 251) [.t 35, (.c (.fn 252 []))], oo 37 (.un .not) [.t 36], oo 10 .mv [.t 37]]) (.seq (.seq (.ops 0 [oo 38 .mv [.t 10], oo 39 (.un .not) [.t 38], oo 40 .mv [.t 39], og 41 40 true .mv [.t 1], og 42 40 true .mv [.t 0], og 43 40 true .nilck [.t 42], og 44 40 true (.fldA 3) [.t 43], og 45 40 true (.fldA 10) [.t 44], og 46 40 true .ld1 [.t 45], og 47 40 true (.bin .lss) [.t 41, .t 46], oo 48 .pick [.t 40, .t 47, (.c (.lit (.bool false)))]]) (.cond (.t 48) (.seq (.ops 0 [oo 8 .mv [kk 0], oo 9 .mv [(.c (.lit (.bool false)))]]) .ret) .skip)) (.ops 0 [oo 1 .mv [kk 0]]))) .skip)) (.seq (.ops 0 [oo 49 .mv [.t 1], oo 50 (.fldA 0) [.t 7], oo 51 (.ldA 3) [.t 50], oo 52 (.call 146) [.t 51], oo 53 (.bin .add) [.t 49, .t 52], oo 1 .mv [.t 53]]) (.seq (.ops 0 [oo 54 .mv [.t 1], oo 55 .mv [.t 1], oo 56 .mv [.t 0], oo 57 .nilck [.t 56], oo 58 (.fldA 3) [.t 57], oo 59 (.fldA 10) [.t 58], oo 60 .ld1 [.t 59], oo 61 (.bin .leq) [.t 55, .t 60], oo 8 .mv [.t 54], oo 9 .mv [.t 61]]) .ret))))), [.t 8, .t 9]⟩
theorem dk_208 : callable Tryz.prog 208 = true ∧ ∃ bx, Comp Tryz.prog bx gtab 208 d_208.nt d_208.c d_208.rs := ⟨kr, (fun n => !([1000006, 1000007].contains n)), ⟨⟨Tryz.f208, _, Tryz.func208, rfl, rfl, kr, kr⟩⟩⟩
def d_155 : Fd := ⟨54, (.seq (.ops 1 [oo 1 (.box 88) [.t 0]]) (.seq (.ops 0 [oo 6 .ld1 [.t 1], oo 7 .nilck [.t 6], oo 8 (.fldA 15) [.t 7], oo 9 .ld1 [.t 8], oo 10 .len [.t 9], oo 11 (.bin .sub) [.t 10, kk 1], oo 2 .mv [.t 11]]) (.seq (.ops 3 [oo 12 .mv [.t 2], oo 3 (.alloc 3 [li 0]) [], ⟨none, none, (.st 1), [.t 3, .t 12], none⟩]) (.block 0 (.loop (.seq (.seq (.ops 0 [oo 13 .ld1 [.t 3], oo 14 (.bin .geq) [.t 13, kk 0]]) (.cond (.t 14) .skip (.exit 0))) (.seq (.block 1 (.seq (.ops 0 [od 17 .ld1 [.t 1] [], oo 18 .nilck [.t 17], oo 19 (.fldA 15) [.t 18], od 20 .ld1 [.t 19] [0, 1, 2], od 21 .ld1 [.t 3] [], oo 22 (.ixA 1) [.t 20, .t 21], oo 23 .ld1 [.t 22], oo 24 .len [.t 23], oo 25 .mv [kk 0]]) (.block 2 (.loop (.seq (.ops 0 [oo 26 (.bin .lss) [.t 25, .t 24]]) (.seq (.cond (.t 26) .skip (.exit 2)) (.seq (.block 3 (.seq (.ops 0 [oo 27 (.ixA 1) [.t 23, .t 25], oo 28 .ld1 [.t 27], oo 5 .mv [.t 28]]) (.seq (.ops 0 [oo 29 .mv [.t 5], oo 30 .mv [.t 5], oo 31 .nilck [.t 30], oo 32 (.fldA 5) [.t 31], oo 33 .ld1 [.t 32], oo 34 (.mkfn 213) [.t 1, .t 3], oo 35 (.call 212) [.t 33, .t 34], oo 36 .nilck [.t 29], oo 37 (.fldA 5) [.t 36], ⟨none, none, (.st 1), [.t 37, .t 35], none⟩]) (.ops 0 [oo 38 .mv [.t 5], oo 39 .ld1 [.t 3], oo 40 .mv [.t 2], oo 41 (.bin .eql) [.t 39, .t 40], oo 42 .mv [.t 41], og 43 42 false .mv [.t 5], og 44 42 false .nilck [.t 43], og 45 42 false (.fldA 5) [.t 44], og 46 42 false .ld1 [.t 45], og 47 42 false .len [.t 46], og 48 42 false (.bin .gtr) [.t 47, kk 0], oo 49 .pick [.t 42, (.c (.lit (.bool true))), .t 48], oo 50 .nilck [.t 38], oo 51 (.fldA 7) [.t 50], ⟨none, none, (.st 1), [.t 51, .t 49], none⟩])))) (.ops 0 [oo 52 (.bin .add) [.t 25, kk 1], oo 25 .mv [.t 52]])))))))) (.seq (.seq (.ops 0 [oo 53 .ld1 [.t 3]]) (.ops 2 [oo 3 (.alloc 3 [li 0]) [], ⟨none, none, (.st 1), [.t 3, .t 53], none⟩])) (.ops 0 [oo 15 .ld1 [.t 3], oo 16 (.bin .sub) [.t 15, kk 1], ⟨none, none, (.st 1), [.t 3, .t 16], none⟩]))))))))), []⟩
theorem dk_155 : callable Tryz.prog 155 = true ∧ ∃ bx, Comp Tryz.prog bx gtab 155 d_155.nt d_155.c d_155.rs := ⟨kr, (fun n => !([1000001].contains n)), ⟨⟨Tryz.f155, _, Tryz.func155, rfl, rfl, kr, kr⟩⟩⟩
def d_23 : Fd := ⟨48, (.seq (.ops 0 [oo 2 .boxE [.t 0], oo 3 .boxE [.t 1], oo 4 .mv [kk 0], oo 5 .mv [kk 0]]) (.seq (.ops 0 [oo 10 (.ldA 3) [.t 2], oo 11 (.ldA 12) [.t 3], oo 12 (.call 62) [.t 10, .t 11], oo 9 .mv [.t 12], oo 13 (.ext 0) [.t 9], oo 14 (.ext 1) [.t 9], oo 6 .mv [.t 13], oo 5 .mv [.t 14]]) (.seq (.block 0 (.seq (.ops 0 [oo 16 .mv [.t 5], oo 17 (.bin .eql) [.t 16, kk 102], oo 15 .mv [.t 17]]) (.cond (.t 15) (.seq (.ops 0 [oo 4 .mv [kk 0], oo 5 .mv [kk 0]]) .ret) (.seq (.ops 0 [oo 19 .mv [.t 5], oo 20 (.bin .neq) [.t 19, kk 0], oo 18 .mv [.t 20]]) (.cond (.t 18) (.seq (.ops 0 [oo 21 .mv [.t 5], oo 4 .mv [kk 0], oo 5 .mv [.t 21]]) .ret) .skip))))) (.seq (.seq (.ops 0 [oo 22 .mv [.t 6], oo 23 .nilck [.t 22], oo 24 (.fldA 15) [.t 23], od 25 .ld1 [.t 24] [0, 1, 2], oo 26 .mv [.t 6], oo 27 .nilck [.t 26], oo 28 (.fldA 15) [.t 27], od 29 .ld1 [.t 28] [4, 5, 6], oo 30 .len [.t 29], oo 31 (.bin .sub) [.t 30, kk 1], oo 32 (.ixA 1) [.t 25, .t 31], oo 33 .ld1 [.t 32], oo 34 .len [.t 33], oo 35 .mv [kk 0]]) (.block 1 (.loop (.seq (.ops 0 [oo 36 (.bin .lss) [.t 35, .t 34]]) (.seq (.cond (.t 36) .skip (.exit 1)) (.seq (.block 2 (.seq (.ops 0 [oo 37 (.ixA 1) [.t 33, .t 35], oo 38 .ld1 [.t 37], oo 8 .mv [.t 38]]) (.ops 0 [oo 39 .mv [.t 4], oo 40 .mv [.t 8], oo 41 .nilck [.t 40], oo 42 (.fldA 6) [.t 41], oo 43 .ld1 [.t 42], oo 44 (.bin .add) [.t 39, .t 43], oo 45 .mn [.t 44, kk 1099511627776], oo 4 .mv [.t 45]]))) (.ops 0 [oo 46 (.bin .add) [.t 35, kk 1], oo 35 .mv [.t 46]]))))))) (.seq (.ops 0 [oo 47 .mv [.t 4], oo 4 .mv [.t 47], oo 5 .mv [kk 0]]) .ret))))), [.t 4, .t 5]⟩
theorem dk_23 : callable Tryz.prog 23 = true ∧ ∃ bx, Comp Tryz.prog bx gtab 23 d_23.nt d_23.c d_23.rs := ⟨kr, allbx, ⟨⟨Tryz.f23, _, Tryz.func23, rfl, rfl, kr, kr⟩⟩⟩
def d_78 : Fd := ⟨36, (.seq (.ops 3 [oo 3 (.box 84) [.t 0], oo 4 (.box 110) [.t 1], ⟨(some 6), none, (.alloc 136 [(.lit (.bool false)), li 0, (.lit (.bool false)), (.lit (.bool false)), (.lit (.bool false)), (.sl 0 [] .exact)]), [], none⟩]) (.seq (.ops 8 [oo 10 (.fldA 0) [.t 3], oo 11 .ld1 [.t 10], oo 12 (.fldA 1) [.t 3], oo 13 .ld1 [.t 12], oo 14 (.ldA 3) [.t 4], ⟨(some 15), none, (.build [(.lit (.bool false)), li 0, (.lit (.bool false)), (.lit (.bool false)), (.lit (.bool false)), (.sl 0 [] .exact)] [(0, 1), (4, 1), (1, 3)]), [.t 11, .t 13, .t 14], none⟩, ⟨(some 7), none, (.alloc 136 [(.lit (.bool false)), li 0, (.lit (.bool false)), (.lit (.bool false)), (.lit (.bool false)), (.sl 0 [] .exact)]), [], none⟩, ⟨none, none, (.st 6), [.t 7, .t 15], none⟩]) (.seq (.seq (.ops 0 [oo 16 .mv [.t 2], oo 17 .len [.t 16], oo 18 .mv [kk 0]]) (.block 0 (.loop (.seq (.ops 0 [oo 19 (.bin .lss) [.t 18, .t 17]]) (.seq (.cond (.t 19) .skip (.exit 0)) (.seq (.block 1 (.seq (.ops 0 [oo 20 .mv [.t 18], oo 21 (.ixA 1) [.t 16, .t 18], oo 22 .ld1 [.t 21], oo 8 .mv [.t 20], oo 9 .mv [.t 22]]) (.seq (.ops 0 [oo 23 .mv [.t 9], oo 24 (.bin .geq) [.t 23, kk 0]]) (.cond (.t 24) (.ops 10 [oo 25 (.fldA 5) [.t 7], oo 26 .ld1 [.t 25], oo 27 .mv [.t 8], oo 28 (.bin .add) [.t 27, kk 1], oo 29 .mv [.t 9], oo 30 (.build [li 0, li 0, li 0, li 0, li 0] [(0, 1), (1, 1)]) [.t 28, .t 29], oo 31 (.mkslB 152 1 5 [li 0, li 0, li 0, li 0, li 0] [(0, 5)]) [.t 30], oo 32 (.appM 152 5 40) [.t 26, .t 31], oo 33 (.fldA 5) [.t 7], ⟨none, none, (.st 1), [.t 33, .t 32], none⟩]) .skip)))) (.ops 0 [oo 34 (.bin .add) [.t 18, kk 1], oo 18 .mv [.t 34]]))))))) (.seq (.ops 0 [oo 35 (.ldA 6) [.t 7], ⟨none, none, (.st 6), [.t 6, .t 35], none⟩]) .ret)))), [(.c 6 6 true)]⟩
theorem dk_78 : callable Tryz.prog 78 = true ∧ ∃ bx, Comp Tryz.prog bx gtab 78 d_78.nt d_78.c d_78.rs := ⟨kr, (fun n => !([1000003, 1000004].contains n)), ⟨⟨Tryz.f78, _, Tryz.func78, rfl, rfl, kr, kr⟩⟩⟩
def d_284 : Fd := ⟨33, (.seq (.ops 0 [oo 2 .mv [kk 0]]) (.seq (.seq (.ops 0 [oo 5 .mv [.t 0], oo 6 .len [.t 5], oo 7 (.bin .gtr) [.t 6, kk 400]]) (.cond (.t 7) (.seq (.ops 0 [oo 2 .mv [kk 2]]) .ret) .skip)) (.seq (.seq (.ops 0 [oo 8 .mv [.t 0], oo 9 .len [.t 8], oo 10 .mv [kk 0]]) (.block 0 (.loop (.seq (.ops 0 [oo 11 (.bin .lss) [.t 10, .t 9]]) (.seq (.cond (.t 11) .skip (.exit 0)) (.seq (.block 1 (.seq (.ops 6 [oo 12 .mv [.t 10], oo 13 (.ixA 3) [.t 8, .t 10], oo 14 (.ldA 3) [.t 13], ⟨(some 4), none, (.alloc 102 [(.sl 0 [] .exact), (.sl 0 [] .exact), (.sl 0 [] .exact)]), [], none⟩, oo 3 .mv [.t 12], ⟨none, none, (.st 3), [.t 4, .t 14], none⟩]) (.seq (.ops 0 [oo 15 (.ldA 3) [.t 4], oo 16 (.call 310) [.t 15], oo 17 (.un .not) [.t 16], oo 18 .mv [.t 17], og 19 18 false .mv [.t 3], og 20 18 false (.bin .gtr) [.t 19, kk 0], og 21 18 false .mv [.t 20], og 22 21 true .mv [.t 0], og 23 21 true .mv [.t 3], og 24 21 true (.bin .sub) [.t 23, kk 1], og 25 21 true (.ixA 3) [.t 22, .t 24], ⟨(some 26), (some (21, true)), (.ldA 3), [.t 25], (some [0, 1, 2, 3, 4, 5, 6, 7, 8, 9, 10])⟩, ⟨(some 27), (some (21, true)), (.ldA 3), [.t 4], (some [0, 1, 2, 3, 4, 5, 6])⟩, og 28 21 true (.call 334) [.t 26, .t 27], og 29 21 true (.un .not) [.t 28], og 30 18 false .pick [.t 21, .t 29, (.c (.lit (.bool false)))], oo 31 .pick [.t 18, (.c (.lit (.bool true))), .t 30]]) (.cond (.t 31) (.seq (.ops 0 [oo 2 .mv [kk 1]]) .ret) .skip)))) (.ops 0 [oo 32 (.bin .add) [.t 10, kk 1], oo 10 .mv [.t 32]]))))))) (.seq (.ops 0 [oo 2 .mv [kk 0]]) .ret)))), [.t 2]⟩
theorem dk_284 : callable Tryz.prog 284 = true ∧ ∃ bx, Comp Tryz.prog bx gtab 284 d_284.nt d_284.c d_284.rs := ⟨kr, allbx, ⟨⟨Tryz.f284, _, Tryz.func284, rfl, rfl, kr, kr⟩⟩⟩
def d_207 : Fd := ⟨42, (.seq (.ops 0 [oo 6 .boxE [.t 0], oo 8 .mv [(.c (.lit (.bool false)))]]) (.seq (.seq (.ops 0 [oo 11 .mv [.t 1], oo 12 .ld1 [.t 2], oo 13 .len [.t 12], oo 14 (.bin .eql) [.t 11, .t 13]]) (.cond (.t 14) (.seq (.ops 7 [od 15 .ld1 [.t 3] [], od 16 (.ldA 3) [.t 6] [], od 17 .ld1 [.t 2] [], od 18 (.callB 135) [.t 17] [2], ⟨(some 19), none, (.build [li 0, (.lit (.bool false)), (.lit (.bool false)), (.sl 0 [] .exact)] [(0, 3), (3, 1)]), [.t 16, .t 18], none⟩, oo 20 .callv [.t 15, .t 19], oo 8 .mv [.t 20]]) .ret) .skip)) (.seq (.seq (.ops 0 [oo 21 (.fldA 3) [.t 4], oo 22 .ld1 [.t 21], oo 23 .mv [.t 1], oo 24 (.ixA 1) [.t 22, .t 23], oo 25 .ld1 [.t 24], oo 26 .len [.t 25], oo 27 .mv [kk 0]]) (.block 0 (.loop (.seq (.ops 0 [oo 28 (.bin .lss) [.t 27, .t 26]]) (.seq (.cond (.t 28) .skip (.exit 0)) (.seq (.block 1 (.seq (.ops 0 [oo 29 (.ixA 1) [.t 25, .t 27], oo 30 .ld1 [.t 29], oo 10 .mv [.t 30]]) (.seq (.ops 0 [oo 31 .ld1 [.t 2], oo 32 .mv [.t 1], oo 33 .mv [.t 10], oo 34 (.ixA 1) [.t 31, .t 32], ⟨none, none, (.st 1), [.t 34, .t 33], none⟩]) (.seq (.ops 0 [oo 35 .ld1 [.t 5], oo 36 (.ldA 3) [.t 6], oo 37 .mv [.t 1], oo 38 (.bin .add) [.t 37, kk 1], oo 39 .callv [.t 35, .t 36, .t 38], oo 40 (.un .not) [.t 39]]) (.cond (.t 40) (.seq (.ops 0 [oo 8 .mv [(.c (.lit (.bool false)))]]) .ret) .skip))))) (.ops 0 [oo 41 (.bin .add) [.t 27, kk 1], oo 27 .mv [.t 41]]))))))) (.seq (.ops 0 [oo 8 .mv [(.c (.lit (.bool true)))]]) .ret)))), [.t 8]⟩
theorem dk_207 : callable Tryz.prog 207 = true ∧ ∃ bx, Comp Tryz.prog bx gtab 207 d_207.nt d_207.c d_207.rs := ⟨kr, (fun n => !([1000018].contains n)), ⟨⟨Tryz.f207, _, Tryz.func207, rfl, rfl, kr, kr⟩⟩⟩
def d_59 : Fd := ⟨5, (.seq (.ops 1 [⟨(some 0), none, (.alloc 31 [(.sl 0 [] .exact), (.sl 0 [] .exact), (.sl 0 [] .exact), li 0, li 0, li 0, li 0, li 0, li 0, li 0]), [], none⟩]) (.seq (.ops 0 [oo 1 (.mksl 4 1 [li 0, li 0, li 0, li 0] [(0, 1), (1, 1), (2, 1), (3, 1)]) [kk 0, kk 1, kk 2, kk 3], oo 2 (.mksl 4 1 [li 0, li 0, li 0, li 0] [(0, 1), (1, 1), (2, 1), (3, 1)]) [kk 0, kk 2, kk 3, kk 4], oo 3 (.mksl 4 1 [(.lit (.bool false)), (.lit (.bool false)), (.lit (.bool false)), (.lit (.bool false))] [(0, 1), (1, 1), (2, 1), (3, 1)]) [(.c (.lit (.bool true))), (.c (.lit (.bool false))), (.c (.lit (.bool false))), (.c (.lit (.bool false)))], ⟨(some 4), none, (.build [(.sl 0 [] .exact), (.sl 0 [] .exact), (.sl 0 [] .exact), li 0, li 0, li 0, li 0, li 0, li 0, li 0] [(0, 1), (1, 1), (2, 1), (3, 1), (4, 1), (5, 1), (6, 1), (7, 1), (8, 1), (9, 1)]), [.t 1, .t 2, .t 3, kk 12, kk 7, kk 2, kk 3, kk 4, kk 2, kk 1], none⟩, ⟨none, none, (.st 10), [.t 0, .t 4], none⟩]) .ret)), [(.c 0 10 true)]⟩
theorem dk_59 : callable Tryz.prog 59 = true ∧ ∃ bx, Comp Tryz.prog bx gtab 59 d_59.nt d_59.c d_59.rs := ⟨kr, nobx, ⟨⟨Tryz.f59, _, Tryz.func59, rfl, rfl, kr, kr⟩⟩⟩
def d_151 : Fd := ⟨25, (.seq (.ops 0 [oo 1 .boxE [.t 0], oo 2 .mv [(.c (.lit (.bool false)))]]) (.seq (.ops 0 [oo 6 (.fldA 2) [.t 1], oo 7 .ld1 [.t 6], oo 8 .len [.t 7], oo 3 .mv [.t 8]]) (.seq (.seq (.ops 0 [oo 9 (.fldA 3) [.t 1], oo 10 .ld1 [.t 9], oo 11 .len [.t 10], oo 12 .mv [kk 0]]) (.block 0 (.loop (.seq (.ops 0 [oo 13 (.bin .lss) [.t 12, .t 11]]) (.seq (.cond (.t 13) .skip (.exit 0)) (.seq (.block 1 (.seq (.ops 0 [oo 14 (.ixA 1) [.t 10, .t 12], oo 15 .ld1 [.t 14], oo 5 .mv [.t 15]]) (.seq (.seq (.ops 0 [oo 16 .mv [.t 3], oo 17 (.bin .gtr) [.t 16, kk 1000]]) (.cond (.t 17) (.seq (.ops 0 [oo 2 .mv [(.c (.lit (.bool false)))]]) .ret) .skip)) (.ops 0 [oo 18 .mv [.t 3], oo 19 .mv [.t 5], oo 20 .len [.t 19], oo 21 (.bin .mul) [.t 18, .t 20], oo 3 .mv [.t 21]])))) (.ops 0 [oo 22 (.bin .add) [.t 12, kk 1], oo 12 .mv [.t 22]]))))))) (.seq (.ops 0 [oo 23 .mv [.t 3], oo 24 (.bin .leq) [.t 23, kk 1000], oo 2 .mv [.t 24]]) .ret)))), [.t 2]⟩
theorem dk_151 : callable Tryz.prog 151 = true ∧ ∃ bx, Comp Tryz.prog bx gtab 151 d_151.nt d_151.c d_151.rs := ⟨kr, allbx, ⟨⟨Tryz.f151, _, Tryz.func151, rfl, rfl, kr, kr⟩⟩⟩
def d_147 : Fd := ⟨27, (.seq (.ops 0 [oo 4 .mv [(.c (.lit (.bool false)))]]) (.seq (.seq (.ops 0 [oo 5 .mv [kk 1]]) (.block 0 (.loop (.seq (.seq (.ops 0 [oo 6 .mv [.t 5], oo 7 .mv [.t 0], oo 8 .len [.t 7], oo 9 (.bin .lss) [.t 6, .t 8]]) (.cond (.t 9) .skip (.exit 0))) (.seq (.block 1 (.seq (.ops 0 [oo 12 .mv [.t 1], oo 13 .mv [.t 0], oo 14 .mv [.t 5], oo 15 (.bin .sub) [.t 14, kk 1], oo 16 (.ixA 1) [.t 13, .t 15], od 17 .ld1 [.t 16] [1, 2, 3, 4], oo 18 .mv [.t 0], oo 19 .mv [.t 5], oo 20 (.ixA 1) [.t 18, .t 19], od 21 .ld1 [.t 20] [6, 7, 8], oo 22 .callv [.t 12, .t 17, .t 21], oo 23 (.bin .geq) [.t 22, kk 0]]) (.cond (.t 23) (.seq (.ops 0 [oo 4 .mv [(.c (.lit (.bool false)))]]) .ret) .skip))) (.ops 0 [oo 10 .mv [.t 5], oo 11 (.bin .add) [.t 10, kk 1], oo 5 .mv [.t 11]])))))) (.seq (.ops 0 [oo 24 .mv [.t 0], oo 25 .len [.t 24], oo 26 (.bin .gtr) [.t 25, kk 0], oo 4 .mv [.t 26]]) .ret))), [.t 4]⟩
theorem dk_147 : callable Tryz.prog 147 = true ∧ ∃ bx, Comp Tryz.prog bx gtab 147 d_147.nt d_147.c d_147.rs := ⟨kr, allbx, ⟨⟨Tryz.f147, _, Tryz.func147, rfl, rfl, kr, kr⟩⟩⟩
def d_142 : Fd := ⟨25, (.seq (.ops 0 [oo 2 .boxE [.t 0], oo 3 .boxE [.t 1], oo 4 .mv [kk 0]]) (.seq (.ops 0 [oo 6 (.fldA 0) [.t 3], oo 7 .ld1 [.t 6], oo 5 .mv [.t 7]]) (.seq (.seq (.ops 0 [oo 8 (.fldA 1) [.t 3], oo 9 .ld1 [.t 8], oo 10 (.bin .gtr) [.t 9, kk 0]]) (.cond (.t 10) (.ops 0 [oo 11 .mv [.t 5], oo 12 (.fldA 1) [.t 2], oo 13 .ld1 [.t 12], oo 14 (.fldA 1) [.t 3], oo 15 .ld1 [.t 14], oo 16 (.bin .sub) [.t 15, kk 1], oo 17 (.ixA 1) [.t 13, .t 16], oo 18 .ld1 [.t 17], oo 19 (.bin .add) [.t 11, .t 18], oo 5 .mv [.t 19]]) .skip)) (.seq (.seq (.ops 0 [oo 20 (.fldA 2) [.t 3], oo 21 .ld1 [.t 20]]) (.cond (.t 21) (.ops 0 [oo 22 .mv [.t 5], oo 23 (.bin .add) [.t 22, kk 12], oo 5 .mv [.t 23]]) .skip)) (.seq (.ops 0 [oo 24 .mv [.t 5], oo 4 .mv [.t 24]]) .ret))))), [.t 4]⟩
theorem dk_142 : callable Tryz.prog 142 = true ∧ ∃ bx, Comp Tryz.prog bx gtab 142 d_142.nt d_142.c d_142.rs := ⟨kr, allbx, ⟨⟨Tryz.f142, _, Tryz.func142, rfl, rfl, kr, kr⟩⟩⟩
def d_234 : Fd := ⟨19, (.seq (.ops 3 [oo 2 (.box 31) [.t 0], oo 3 (.box 102) [.t 1], ⟨(some 4), none, (.alloc 103 [(.sl 0 [] .exact)]), [], none⟩]) (.seq (.ops 1 [⟨(some 5), none, (.alloc 23 [(.sl 0 [] .exact)]), [], none⟩]) (.seq (.ops 1 [oo 6 (.alloc 351 [(.lit .nilFunc)]) []]) (.seq (.ops 0 [oo 8 (.mkfn 285) [.t 5, .t 3, .t 2, .t 4, .t 6], ⟨none, none, (.st 1), [.t 6, .t 8], none⟩]) (.seq (.seq (.ops 0 [oo 7 .mv [kk 1]]) (.block 0 (.loop (.seq (.seq (.ops 0 [oo 9 .mv [.t 7], oo 10 (.fldA 3) [.t 2], oo 11 .ld1 [.t 10], oo 12 (.bin .leq) [.t 9, .t 11]]) (.cond (.t 12) .skip (.exit 0))) (.seq (.block 1 (.ops 0 [oo 15 .ld1 [.t 6], oo 16 .mv [.t 7], oo 17 .callv [.t 15, .t 16]])) (.ops 0 [oo 13 .mv [.t 7], oo 14 (.bin .add) [.t 13, kk 1], oo 7 .mv [.t 14]])))))) (.seq (.ops 0 [oo 18 .ld1 [.t 4], ⟨none, none, (.st 1), [.t 4, .t 18], none⟩]) .ret)))))), [(.c 4 1 false)]⟩
theorem dk_234 : callable Tryz.prog 234 = true ∧ ∃ bx, Comp Tryz.prog bx gtab 234 d_234.nt d_234.c d_234.rs := ⟨kr, (fun n => !([1000002, 1000003].contains n)), ⟨⟨Tryz.f234, _, Tryz.func234, rfl, rfl, kr, kr⟩⟩⟩
def d_256 : Fd := ⟨25, (.seq (.ops 2 [oo 5 (.box 262) [.t 0], oo 6 .mv [(.c (.lit (.bool false)))]]) (.seq (.ops 0 [od 10 .ld1 [.t 1] [], oo 11 .nilck [.t 10], oo 12 (.fldA 3) [.t 11], oo 13 (.fldA 0) [.t 12], od 14 (.ldA 10) [.t 13] [0, 1, 2, 3], oo 15 (.fldA 1) [.t 2], od 16 (.ldA 3) [.t 15] [5], od 17 (.ldA 2) [.t 5] [], od 18 (.ldA 3) [.t 3] [], od 19 (.ldA 2) [.t 4] [], oo 20 (.call 257) [.t 14, .t 16, .t 17, .t 18, .t 19], oo 9 .mv [.t 20], oo 21 (.ext 0) [.t 9], oo 22 (.ext 1) [.t 9], oo 7 .mv [.t 21], oo 8 .mv [.t 22]]) (.seq (.ops 0 [oo 23 .mv [.t 8], oo 24 (.bin .eql) [.t 23, kk 0], oo 6 .mv [.t 24]]) .ret))), [.t 6]⟩
theorem dk_256 : callable Tryz.prog 256 = true ∧ ∃ bx, Comp Tryz.prog bx gtab 256 d_256.nt d_256.c d_256.rs := ⟨kr, (fun n => !([1000002, 1000005].contains n)), ⟨⟨Tryz.f256, _, Tryz.func256, rfl, rfl, kr, kr⟩⟩⟩
def d_232 : Fd := ⟨19, (.seq (.ops 0 [oo 4 .mv [kk 0]]) (.seq (.seq (.ops 0 [oo 6 .mv [.t 0], oo 7 .len [.t 6], oo 8 .mv [kk 0]]) (.block 0 (.loop (.seq (.ops 0 [oo 9 (.bin .lss) [.t 8, .t 7]]) (.seq (.cond (.t 9) .skip (.exit 0)) (.seq (.block 1 (.seq (.ops 0 [oo 10 .mv [.t 8], oo 5 .mv [.t 10]]) (.seq (.ops 0 [oo 11 .mv [.t 1], oo 12 .mv [.t 0], oo 13 .mv [.t 5], oo 14 (.ixA 5) [.t 12, .t 13], oo 15 (.ldA 5) [.t 14], oo 16 .callv [.t 11, .t 15]]) (.cond (.t 16) (.seq (.ops 0 [oo 17 .mv [.t 5], oo 4 .mv [.t 17]]) .ret) .skip)))) (.ops 0 [oo 18 (.bin .add) [.t 8, kk 1], oo 8 .mv [.t 18]]))))))) (.seq (.ops 0 [oo 4 .mv [kk (-1)]]) .ret))), [.t 4]⟩
theorem dk_232 : callable Tryz.prog 232 = true ∧ ∃ bx, Comp Tryz.prog bx gtab 232 d_232.nt d_232.c d_232.rs := ⟨kr, allbx, ⟨⟨Tryz.f232, _, Tryz.func232, rfl, rfl, kr, kr⟩⟩⟩
def d_352 : Fd := ⟨19, (.seq (.ops 0 [oo 4 .mv [kk 0]]) (.seq (.seq (.ops 0 [oo 6 .mv [.t 0], oo 7 .len [.t 6], oo 8 .mv [kk 0]]) (.block 0 (.loop (.seq (.ops 0 [oo 9 (.bin .lss) [.t 8, .t 7]]) (.seq (.cond (.t 9) .skip (.exit 0)) (.seq (.block 1 (.seq (.ops 0 [oo 10 .mv [.t 8], oo 5 .mv [.t 10]]) (.seq (.ops 0 [oo 11 .mv [.t 1], oo 12 .mv [.t 0], oo 13 .mv [.t 5], oo 14 (.ixA 2) [.t 12, .t 13], oo 15 (.ldA 2) [.t 14], oo 16 .callv [.t 11, .t 15]]) (.cond (.t 16) (.seq (.ops 0 [oo 17 .mv [.t 5], oo 4 .mv [.t 17]]) .ret) .skip)))) (.ops 0 [oo 18 (.bin .add) [.t 8, kk 1], oo 8 .mv [.t 18]]))))))) (.seq (.ops 0 [oo 4 .mv [kk (-1)]]) .ret))), [.t 4]⟩
theorem dk_352 : callable Tryz.prog 352 = true ∧ ∃ bx, Comp Tryz.prog bx gtab 352 d_352.nt d_352.c d_352.rs := ⟨kr, allbx, ⟨⟨Tryz.f352, _, Tryz.func352, rfl, rfl, kr, kr⟩⟩⟩
def d_211 : Fd := ⟨18, (.seq (.ops 0 [oo 5 .mv [.t 0], oo 6 .len [.t 5], oo 7 .mv [kk 0]]) (.block 0 (.loop (.seq (.ops 0 [oo 8 (.bin .lss) [.t 7, .t 6]]) (.seq (.cond (.t 8) .skip (.exit 0)) (.seq (.block 1 (.seq (.ops 0 [oo 9 (.ixA 1) [.t 5, .t 7], oo 10 .ld1 [.t 9], oo 4 .mv [.t 10]]) (.ops 7 [oo 11 .ld1 [.t 1], oo 12 .mv [.t 4], oo 13 (.bin .add) [.t 12, kk 1], oo 14 (.cvt .i32) [.t 13], oo 15 (.mksl 1 1 [(.lit (.int .i32 0))] [(0, 1)]) [.t 14], oo 16 (.app 21 1 4) [.t 11, .t 15], ⟨none, none, (.st 1), [.t 1, .t 16], none⟩]))) (.ops 0 [oo 17 (.bin .add) [.t 7, kk 1], oo 7 .mv [.t 17]]))))))), []⟩
theorem dk_211 : callable Tryz.prog 211 = true ∧ ∃ bx, Comp Tryz.prog bx gtab 211 d_211.nt d_211.c d_211.rs := ⟨kr, nobx, ⟨⟨Tryz.f211, _, Tryz.func211, rfl, rfl, kr, kr⟩⟩⟩
def d_63 : Fd := ⟨10, (.seq (.ops 2 [oo 1 .boxE [.t 0], ⟨(some 2), none, (.alloc 25 [(.sl 0 [] .exact), (.sl 0 [] .exact)]), [], none⟩]) (.seq (.ops 0 [oo 3 (.fldA 0) [.t 1], od 4 .ld1 [.t 3] [0], od 5 (.call 134) [.t 4] [0, 1], oo 6 (.fldA 1) [.t 1], od 7 .ld1 [.t 6] [3], oo 8 (.call 135) [.t 7], ⟨(some 9), none, (.build [(.sl 0 [] .exact), (.sl 0 [] .exact)] [(0, 1), (1, 1)]), [.t 5, .t 8], none⟩, ⟨none, none, (.st 2), [.t 2, .t 9], none⟩]) .ret)), [(.c 2 2 true)]⟩
theorem dk_63 : callable Tryz.prog 63 = true ∧ ∃ bx, Comp Tryz.prog bx gtab 63 d_63.nt d_63.c d_63.rs := ⟨kr, allbx, ⟨⟨Tryz.f63, _, Tryz.func63, rfl, rfl, kr, kr⟩⟩⟩
def d_149 : Fd := ⟨15, (.seq (.ops 0 [oo 6 .mv [(.c (.lit (.bool false)))]]) (.seq (.ops 0 [oo 7 .mv [.t 0], oo 8 .mv [.t 1], oo 9 (.bin .geq) [.t 7, .t 8], oo 10 .mv [.t 9], og 11 10 true .mv [.t 0], og 12 10 true .mv [.t 2], og 13 10 true (.bin .leq) [.t 11, .t 12], oo 14 .pick [.t 10, .t 13, (.c (.lit (.bool false)))], oo 6 .mv [.t 14]]) .ret)), [.t 6]⟩
theorem dk_149 : callable Tryz.prog 149 = true ∧ ∃ bx, Comp Tryz.prog bx gtab 149 d_149.nt d_149.c d_149.rs := ⟨kr, allbx, ⟨⟨Tryz.f149, _, Tryz.func149, rfl, rfl, kr, kr⟩⟩⟩
def d_225 : Fd := ⟨8, (.seq (.ops 0 [oo 2 .mv [kk 0]]) (.seq (.cond (.c (.lit (.bool false))) (.seq (.ops 0 [oo 3 .mv [.t 0], oo 4 (.cvt .u32) [.t 3], oo 5 (.call 270) [.t 4], oo 2 .mv [.t 5]]) .ret) .skip) (.seq (.ops 0 [oo 6 .mv [.t 0], oo 7 (.call 271) [.t 6], oo 2 .mv [.t 7]]) .ret))), [.t 2]⟩
theorem dk_225 : callable Tryz.prog 225 = true ∧ ∃ bx, Comp Tryz.prog bx gtab 225 d_225.nt d_225.c d_225.rs := ⟨kr, allbx, ⟨⟨Tryz.f225, _, Tryz.func225, rfl, rfl, kr, kr⟩⟩⟩
def d_343 : Fd := ⟨9, (.seq (.ops 3 [oo 2 (.box 102) [.t 0], oo 3 (.box 3) [.t 1], oo 4 .mv [kk 0]]) (.seq (.ops 0 [oo 5 (.fldA 0) [.t 2], oo 6 .ld1 [.t 5], oo 7 (.mkfn 354) [.t 3], oo 8 (.call 352) [.t 6, .t 7], oo 4 .mv [.t 8]]) .ret)), [.t 4]⟩
theorem dk_343 : callable Tryz.prog 343 = true ∧ ∃ bx, Comp Tryz.prog bx gtab 343 d_343.nt d_343.c d_343.rs := ⟨kr, (fun n => !([1000002, 1000003].contains n)), ⟨⟨Tryz.f343, _, Tryz.func343, rfl, rfl, kr, kr⟩⟩⟩
def d_144 : Fd := ⟨9, (.seq (.ops 0 [oo 4 .mv [(.c (.lit (.bool false)))]]) (.seq (.ops 0 [oo 5 .mv [.t 0], oo 6 .mv [.t 1], oo 7 (.call 203) [.t 5, .t 6], oo 8 (.bin .geq) [.t 7, kk 0], oo 4 .mv [.t 8]]) .ret)), [.t 4]⟩
theorem dk_144 : callable Tryz.prog 144 = true ∧ ∃ bx, Comp Tryz.prog bx gtab 144 d_144.nt d_144.c d_144.rs := ⟨kr, allbx, ⟨⟨Tryz.f144, _, Tryz.func144, rfl, rfl, kr, kr⟩⟩⟩
def d_255 : Fd := ⟨9, (.seq (.ops 0 [oo 4 .mv [(.c (.lit (.bool false)))]]) (.seq (.ops 0 [oo 5 .mv [.t 0], oo 6 .mv [.t 1], oo 7 (.call 311) [.t 5, .t 6], oo 8 (.bin .geq) [.t 7, kk 0], oo 4 .mv [.t 8]]) .ret)), [.t 4]⟩
theorem dk_255 : callable Tryz.prog 255 = true ∧ ∃ bx, Comp Tryz.prog bx gtab 255 d_255.nt d_255.c d_255.rs := ⟨kr, allbx, ⟨⟨Tryz.f255, _, Tryz.func255, rfl, rfl, kr, kr⟩⟩⟩
def d_344 : Fd := ⟨7, (.seq (.ops 2 [oo 2 (.box 242) [.t 0], oo 3 .mv [(.c (.lit (.bool false)))]]) (.seq (.ops 0 [oo 4 .ld1 [.t 1], oo 5 (.ldA 2) [.t 2], oo 6 (.call 345) [.t 4, .t 5], oo 3 .mv [.t 6]]) .ret)), [.t 3]⟩
theorem dk_344 : callable Tryz.prog 344 = true ∧ ∃ bx, Comp Tryz.prog bx gtab 344 d_344.nt d_344.c d_344.rs := ⟨kr, (fun n => !([1000002].contains n)), ⟨⟨Tryz.f344, _, Tryz.func344, rfl, rfl, kr, kr⟩⟩⟩
end Go.Proofs.YtdefefeifcdogaaGreat
