/- Of of the program. The stops of an event, by the reference. Check of pieces: of the reference. Functions of the program, as code on values by numbers: printed by a program from the program that was given, and held against it here. Copy, Forces and Plain of the reference. Forces and Plain of the reference. Of of the reference. A leaf is the same as itself; the law LeafOf, if the look at the example says true. Shapes of leaves: of the program. One leaf inside another one, and Reads: of the program. Shapes of leaves, and one leaf inside another one: of the reference. One leaf inside another one: of the reference. Reads of both, and the law LeafReads, if the look at the example says true. Functions of the program, as code on values by numbers, for the evaluator: printed by a program from the program that was given, and held against it here. -/
import Derived.Test.YtdefefeifcdogaaGreatG0
import Derived.Test.YtdefefeifcdogaaGreatWk
import Derived.Test.YtdefefeifcdogaaGreatY03
import Derived.Test.YtdefefeifcdogaaGreatY04
import Derived.Test.YtdefefeifcdogaaGreatVe
set_option linter.unusedSimpArgs false
set_option linter.unusedVariables false
namespace Go.Proofs.YtdefefeifcdogaaGreat
open Go.RowKit
set_option linter.unusedSimpArgs false
set_option linter.unusedVariables false

theorem numC_succ (l : List Stp) (c : Int) (j : Nat) : numC l c (j + 1) = if (l.getD j default).co = c then (l.getD j default).fr else numC l c j := rfl
/-- The cells of a column, first k courses. -/
def celO (ss : List Stp) (k : Nat) : List (List Int) := (List.range k).map fun j => [numC ss ((j + 1 : Nat) : Int) ss.length]
theorem celO_succ (ss : List Stp) (k : Nat) : (celO ss (k + 1)).map tIs = (celO ss k).map tIs ++ [.sl 1 [vint (numC ss ((k + 1 : Nat) : Int) ss.length)] .no] := by
  rw [celO, List.range_succ, List.map_append, List.map_append]; rfl
theorem celO_len (ss : List Stp) (k : Nat) : (celO ss k).length = k := by rw [celO, List.length_map, List.length_range]
theorem clmO_ce (n : Nat) (x : Evt) : clmO n x = ⟨x.bar, x.tie, [x.sg], celO x.ss n⟩ := rfl
theorem colsO_len (p : Pce) : (lfO p).cols.length = p.es.length := by rw [lfO, List.length_map, plnP, plnE_len]
theorem colsO_succ (p : Pce) {k : Nat} (h : k < p.es.length) : ((lfO p).cols.take (k + 1)).flatMap Clm.cells = ((lfO p).cols.take k).flatMap Clm.cells ++ (clmO p.ins.cs.length ((plnP p).es.getD k default)).cells := by
  have h1 : k < (lfO p).cols.length := by rw [colsO_len]; exact h
  have h2 : k < (plnP p).es.length := by rw [plnP, plnE_len]; exact h
  rw [List.take_add_one, List.getElem?_eq_getElem h1, List.flatMap_append]
  congr 1
  rw [List.getD_eq_getElem?_getD, List.getElem?_eq_getElem h2]
  show List.flatMap Clm.cells [((plnP p).es.map (clmO p.ins.cs.length))[k]'(by rw [List.length_map]; exact h2)] = _
  rw [List.getElem_map]; simp
set_option maxHeartbeats 4000000 in
theorem of_fn (p : Pce) (hs : PcSm p) : Fn Tryz.prog Gd 39 [p.val] (.tup [(ofR p).1.val, vint (ofR p).2]) := by
  refine Fn.of_vx0 k_leaf_Of (by simp) (by rw [V.pures, pure_pce]; rfl) ?_
  have PL := pplain_fn p hs
  unfold c_leaf_Of
  by_cases h0 : chkP p = 0
  case neg =>
    have hp : plnR p = (noP, chkP p) := by rw [plnR, if_pos h0]
    have hq : ofR p = (noL, chkP p) := by rw [ofR, if_pos h0]
    have c1 : (chkP p == 0) = false := by rw [beq_eq_false_iff_ne]; exact h0
    rw [hp] at PL
    rw [hq]
    clear hp hq h0 hs
    repeat' (with_reducible first | refine x_ops ?_ | refine wk ?_ | (with_reducible refine xc (PL) ?_) | ((first | refine gd1 ?_ ?_ | refine gd2 ?_ ?_ | refine gd3 ?_ ?_) <;> (first | exact @False.elim _ | intro hc)))
    refine finV_ret vv ?_
    exact .tup (.cons (.agg (.cons (.sl _ _ _) (.cons (.sl _ _ _) (.cons (.sl _ _ _) .nil)))) (.cons (.lit _) .nil))
  have ok := PcOk.of h0
  have hp : plnR p = (plnP p, 0) := by rw [plnR, if_neg (by omega)]
  have hq : ofR p = (lfO p, 0) := by rw [ofR, if_neg (by omega)]
  have C := copied_fn p.ins (by have := ok.c; omega) (by have := ok.s; omega)
  have hl := plnE_len p.es p.es.length
  have hcl := colsO_len p
  have hcs := fun k => colsO_succ p (k := k)
  have hls : ∀ i, i < p.es.length → ((plnP p).es.getD i default).ss.length ≤ 14 := fun i hi => by
    rw [show (plnP p).es = plnE p.es p.es.length from rfl, plnE_at hi]; exact ok.l i hi
  have hn := ok.n
  have hc14 := ok.c
  rw [hp, show (plnP p).val = .agg [tL Crs.cells p.ins.cs, tIs p.ins.st, .sl p.es.length ((plnP p).es.flatMap Evt.cells) .no] from by rw [Pce.val, tL, tL, show (plnP p).es = plnE p.es p.es.length from rfl, hl]; rfl] at PL
  rw [hq, show (lfO p).val = .agg [tL Crs.cells p.ins.cs, tIs p.ins.st, .sl p.es.length ((lfO p).cols.flatMap Clm.cells) .no] from by rw [Lf.val, tL, tL, hcl]; rfl]
  have hpl : (plnP p).es.length = p.es.length := hl
  generalize (plnP p).es = E at *
  generalize (lfO p).cols = CL at *
  replace hcs := Hid.mk hcs
  replace hls := Hid.mk hls
  have hcl0 := Hid.mk hcl
  have hpl0 := Hid.mk hpl
  have hn0 := Hid.mk hn
  have hc140 := Hid.mk hc14
  clear hp hq h0 hs ok hl hcl hpl hn hc14
  repeat' (with_reducible first | refine x_ops ?_ | refine wk ?_ | (with_reducible refine xc (PL) ?_) | (with_reducible refine xc (C) ?_) | ((first | refine gd1 ?_ ?_ | refine gd2 ?_ ?_ | refine gd3 ?_ ?_) <;> (first | exact @False.elim _ | intro hc)))
  clear PL C
  refine x_loopW w_leaf_Of_p20 kr p.es.length (fun k t m => t 30 = vint k ∧ (m.obj 0 = some (.box [.sl p.ins.cs.length (p.ins.cs.flatMap Crs.cells) .no, .sl p.ins.st.length (p.ins.st.map vint) .no, .sl p.es.length (p.es.flatMap Evt.cells) .no] 49) ∧ m.obj 1 = some (.box [.sl 0 [] .exact, .sl 0 [] .exact, .sl 0 [] .exact] 28) ∧ 15 < m.next) ∧ ∃ tok, m.obj 15 = some (.box [.sl p.ins.cs.length (p.ins.cs.flatMap Crs.cells) .no, .sl p.ins.st.length (p.ins.st.map vint) .no, .sl k ((CL.take k).flatMap Clm.cells) tok] 28) ∧ Apb m tok k 84 4) ?_ ?_
  · exact ⟨vv, ⟨vv, vv, by show 15 < 17; omega⟩, .exact, vv, .inl rfl⟩
  rintro k t m hk ⟨h30, ⟨hm0, hm1, hmn⟩, tok, hm15, hap⟩
  replace hap := Hid.mk hap
  by_cases hlt : k < p.es.length
  case neg =>
    have c1 : ¬ (k : Int) < (p.es.length : Int) := by omega
    have hkl : k = p.es.length := by omega
    rw [hkl, List.take_of_length_le (by have := hcl0.out; omega)] at hm15
    subst hkl
    clear hlt hk
    repeat' (with_reducible first | refine x_ops ?_ | refine wk ?_ | ((first | refine gd1 ?_ ?_ | refine gd2 ?_ ?_ | refine gd3 ?_ ?_) <;> (first | exact @False.elim _ | intro hc)))
    refine finV_ret vv ?_
    exact .tup (.cons (.agg (.cons (.sl _ _ _) (.cons (.sl _ _ _) (.cons (.sl _ _ _) .nil)))) (.cons (.lit _) .nil))
  have g1 := evt_take (l := E) (k := k) (by have := hpl0.out; omega)
  have g2 := evts_len E
  rw [hpl0.out] at g2
  have c1 : (k : Int) < (p.es.length : Int) := by omega
  have c3 : k * 6 + 6 ≤ p.es.length * 6 := by omega
  have w1 := w_add1 (k := k) (by have := hn0.out; omega)
  have hsl : ((CL.take k).flatMap Clm.cells).length = k * 4 := by
    rw [clms_len, List.length_take, Nat.min_eq_left (by have := hcl0.out; omega)]
  have hcs1 := hcs.out k hlt
  have hls1 := hls.out k hlt
  have hlt0 := Hid.mk hlt
  have hmn0 := Hid.mk hmn
  generalize E.getD k default = x at *
  generalize hL9 : (CL.take (k + 1)).flatMap Clm.cells = L9 at *
  generalize (CL.take k).flatMap Clm.cells = L8 at *
  rw [clmO_ce] at hcs1
  obtain ⟨bb, ⟨v, d, tt⟩, ti, ss⟩ := x
  have hcs2 : (Clm.mk bb ti [⟨v, d, tt⟩] (celO ss p.ins.cs.length)).cells = [vbool bb, vbool ti, .sl 1 [vint v, vbool d, vbool tt] .no, .sl p.ins.cs.length ((celO ss p.ins.cs.length).map tIs) .no] := by
    show [vbool bb, vbool ti, V.sl 1 [vint v, vbool d, vbool tt] .no, V.sl (celO ss p.ins.cs.length).length ((celO ss p.ins.cs.length).map tIs) .no] = _
    rw [celO_len]
  dsimp only at hcs1
  rw [hcs2] at hcs1
  clear hcs2
  replace hL9 := Hid.mk hL9
  replace hcs1 := Hid.mk hcs1
  replace hsl := Hid.mk hsl
  replace hls1 := Hid.mk hls1
  replace hm15 := Hid.mk hm15
  replace hm1 := Hid.mk hm1
  have n0 : 0 < m.next := by omega
  clear hlt hk hmn
  repeat' (with_reducible first | refine x_ops ?_ | refine wk ?_ | ((first | refine gd1 ?_ ?_ | refine gd2 ?_ ?_ | refine gd3 ?_ ?_) <;> (first | exact @False.elim _ | intro hc)))
  refine x_loopW w_leaf_Of_p13 kr p.ins.cs.length (fun j t' m' => t' 46 = vint j ∧ (m'.obj 0 = some (.box [.sl p.ins.cs.length (p.ins.cs.flatMap Crs.cells) .no, .sl p.ins.st.length (p.ins.st.map vint) .no, .sl p.es.length (p.es.flatMap Evt.cells) .no] 49) ∧ m'.obj 1 = some (.box [.sl 0 [] .exact, .sl 0 [] .exact, .sl 0 [] .exact] 28) ∧ m'.obj 15 = some (.box [.sl p.ins.cs.length (p.ins.cs.flatMap Crs.cells) .no, .sl p.ins.st.length (p.ins.st.map vint) .no, .sl k L8 tok] 28) ∧ m'.obj (m.next + 2) = some (.box [vbool bb, vint v, vbool d, vbool tt, vbool ti, .sl ss.length (ss.flatMap Stp.cells) .no] 136) ∧ m.next + 14 ≤ m'.next) ∧ Apb m' tok k 84 4 ∧ ∃ tok2, m'.obj (m.next + 12) = some (.box [vbool bb, vbool ti, .sl 1 [vint v, vbool d, vbool tt] .exact, .sl j ((celO ss j).map tIs) tok2] 84) ∧ Apb m' tok2 j 23 1) ?_ ?_
  · have := hmn0.out
    refine ⟨vv, ⟨?_, ?_, ?_, ?_, Nat.le_refl _⟩, ?_, .exact, vv, .inl rfl⟩
    · (simp only [put_obj]; repeat rw [if_neg (by omega)]); exact hm0
    · (simp only [put_obj]; repeat rw [if_neg (by omega)]); exact hm1.out
    · (simp only [put_obj]; repeat rw [if_neg (by omega)]); exact hm15.out
    · simp only [put_obj]
      repeat rw [if_neg (by omega)]
      first
        | (rw [if_pos rfl]; done)
        | (rw [if_pos trivial]; done)
        | (rw [if_pos rfl]; rfl)
        | (rw [if_pos trivial]; rfl)
    · refine hap.out.mono (fun q hq _ => ?_) (by show m.next ≤ m.next + 14; omega)
      (simp only [put_obj]; repeat rw [if_neg (by omega)])
  clear hm0 hm1 hm15 hap g1 g2 c3
  rintro j t1 m1 hj ⟨h46, ⟨hm0, hm1, hm15, hm2, hn1⟩, hap, tok2, hm12, hap2⟩
  replace hap := Hid.mk hap
  replace hap2 := Hid.mk hap2
  have hmnn := hmn0.out
  have n1 : m.next + 2 < m1.next := by omega
  have n2 : m.next + 12 < m1.next := by omega
  have n3 : 15 < m1.next := by omega
  have n4 : 0 < m1.next := by omega
  have hn10 := Hid.mk hn1
  by_cases hlt2 : j < p.ins.cs.length
  case neg =>
    have d1 : ¬ ((j : Int) < (p.ins.cs.length : Int)) := by omega
    have hjl : j = p.ins.cs.length := by omega
    subst hjl
    clear hlt2 hj hn1 hmnn
    repeat' (with_reducible first | refine x_ops ?_ | refine wk ?_ | ((first | refine gd1 ?_ ?_ | refine gd2 ?_ ?_ | refine gd3 ?_ ?_) <;> (first | exact @False.elim _ | intro hc)))
    refine x_appc (n := k) (xs := L8) (j := 1) (ys := [vbool bb, vbool ti, .sl 1 [vint v, vbool d, vbool tt] .no, .sl p.ins.cs.length ((celO ss p.ins.cs.length).map tIs) .no]) (k := tok) (k2 := .exact) vw vw (hap.out.mono (fun _ _ _ => rfl) (Nat.le_add_right _ _)) hsl.out rfl (by have := hlt0.out; have := hn0.out; omega) (by have := hlt0.out; have := hn0.out; unfold Go.maxLen; omega) (by show m1.next + 4 < m1.next + 7; omega) ?_
    intro tok3 m3 hap3 hn3 hf3 hq3
    have hnn : m3.next = m1.next + 7 := hn3
    have old : ∀ q cs t, q < m1.next → m1.obj q = some (.box cs t) → m3.obj q = some (.box cs t) := fun q cs t hq h => (hf3 q (by show ¬ q = m1.next + 4; omega) (hap.out.box h)).trans h
    have a0 := old _ _ _ n4 hm0
    have a1 := old _ _ _ (by omega) hm1
    have a15 := old _ _ _ n3 hm15
    replace hap3 := Hid.mk hap3
    clear hm0 hm1 hm15 hm2 hm12 hf3 hq3 old hn3
    repeat' (with_reducible first | refine x_ops ?_ | refine wk ?_ | ((first | refine gd1 ?_ ?_ | refine gd2 ?_ ?_ | refine gd3 ?_ ?_) <;> (first | exact @False.elim _ | intro hc)))
    refine nx hlt0.out ⟨vv, ⟨a0, a1, by show 15 < m1.next + 7; omega⟩, tok3, ?_, ?_⟩
    · rw [hL9.out, hcs1.out]
      first
        | exact vv
        | exact if_pos rfl
        | rfl
    · show Apb ⟨(m3.put 15 _).obj, _⟩ tok3 (k + 1) 84 4
      exact (hap3.out.put a15).mono (fun _ _ _ => rfl) (by show m3.next ≤ m1.next + 7; omega)
  have d1 : (j : Int) < (p.ins.cs.length : Int) := by omega
  have w2 := w_add1 (k := j) (by have := hc140.out; omega)
  have hlt20 := Hid.mk hlt2
  clear hlt2 hj hn1 hmnn
  repeat' (with_reducible first | refine x_ops ?_ | refine wk ?_ | ((first | refine gd1 ?_ ?_ | refine gd2 ?_ ?_ | refine gd3 ?_ ?_) <;> (first | exact @False.elim _ | intro hc)))
  refine x_loopW w_leaf_Of_p6 kr ss.length (fun i t' m' => t' 52 = vint i ∧ t' 11 = vint (numC ss ((j + 1 : Nat) : Int) i) ∧ (∀ q, q < m1.next → m'.obj q = m1.obj q) ∧ m1.next ≤ m'.next) ?_ ?_
  · exact ⟨vv, vv, fun _ _ => rfl, Nat.le_refl _⟩
  rintro i t2 m2 hi ⟨h52, h11, hfr, hnx⟩
  replace hfr := Hid.mk hfr
  have hnx0 := Hid.mk hnx
  by_cases hlt3 : i < ss.length
  case pos =>
    have e1 : (i : Int) < (ss.length : Int) := by omega
    have g1 := stp_take (l := ss) (k := i) hlt3
    have g2 := stps_len ss
    have e3 : i * 5 + 5 ≤ ss.length * 5 := by omega
    have w3 := w_add1 (k := i) (by have := hls1.out; dsimp only at this; omega)
    have hnc := numC_succ ss ((j + 1 : Nat) : Int) i
    have hlt30 := Hid.mk hlt3
    generalize ss.getD i default = s at *
    obtain ⟨a1, a2, a3, a4, a5⟩ := s
    have hfr2 : ∀ q, q < m1.next → ∀ a b : AObj, ((m2.put (m2.next + 2) a).put (m2.next + 2) b).obj q = m1.obj q := fun q hq a b => by
      have := hnx0.out
      simp only [put_obj]
      rw [if_neg (by omega), if_neg (by omega)]
      exact hfr.out q hq
    replace hfr2 := Hid.mk hfr2
    clear hlt3 hi hnx
    by_cases hc : a1 = ((j + 1 : Nat) : Int)
    · have e4 : (a1 == ((j + 1 : Nat) : Int)) = true := by rw [beq_iff_eq]; exact hc
      rw [if_pos hc] at hnc
      replace hnc := Hid.mk hnc
      clear hc
      repeat' (with_reducible first | refine x_ops ?_ | refine wk ?_ | ((first | refine gd1 ?_ ?_ | refine gd2 ?_ ?_ | refine gd3 ?_ ?_) <;> (first | exact @False.elim _ | intro hc)))
      refine nx hlt30.out ⟨vv, ?_, fun q hq => hfr2.out q hq _ _, by show m1.next ≤ m2.next + 4; have := hnx0.out; omega⟩
      rw [hnc.out]; exact vv
    · have e4 : (a1 == ((j + 1 : Nat) : Int)) = false := by rw [beq_eq_false_iff_ne]; exact hc
      rw [if_neg hc] at hnc
      replace hnc := Hid.mk hnc
      clear hc
      repeat' (with_reducible first | refine x_ops ?_ | refine wk ?_ | ((first | refine gd1 ?_ ?_ | refine gd2 ?_ ?_ | refine gd3 ?_ ?_) <;> (first | exact @False.elim _ | intro hc)))
      refine nx hlt30.out ⟨vv, ?_, fun q hq => hfr2.out q hq _ _, by show m1.next ≤ m2.next + 4; have := hnx0.out; omega⟩
      rw [hnc.out]; exact vw
  have e1 : ¬ (i : Int) < (ss.length : Int) := by omega
  have hil : i = ss.length := by omega
  subst hil
  have b0 := (hfr.out 0 n4).trans hm0
  have b1 := (hfr.out 1 (by omega)).trans hm1
  have b15 := (hfr.out 15 n3).trans hm15
  have b2 := (hfr.out _ n1).trans hm2
  have b12 := (hfr.out _ n2).trans hm12
  have hap' : Apb m2 tok k 84 4 := hap.out.mono (fun q hq _ => hfr.out q hq) hnx
  have hap2' : Apb m2 tok2 j 23 1 := hap2.out.mono (fun q hq _ => hfr.out q hq) hnx
  have hces := celO_succ ss j
  have hcel : ((celO ss j).map tIs).length = j * 1 := by rw [List.length_map, celO_len, Nat.mul_one]
  generalize numC ss ((j + 1 : Nat) : Int) ss.length = y at *
  generalize hC9 : (celO ss (j + 1)).map tIs = C9 at *
  replace hC9 := Hid.mk hC9
  generalize (celO ss j).map tIs = C8 at *
  have hj14 : j < 14 := by have := hlt20.out; have := hc140.out; omega
  replace hj14 := Hid.mk hj14
  replace hces := Hid.mk hces
  replace hcel := Hid.mk hcel
  replace hap' := Hid.mk hap'
  replace hap2' := Hid.mk hap2'
  have m12 : m.next + 12 < m2.next := by omega
  have m2n : m.next + 14 ≤ m2.next := by have := hn10.out; omega
  replace m2n := Hid.mk m2n
  clear hlt3 hi hm0 hm1 hm15 hm2 hm12 hap hap2 hfr
  repeat' (with_reducible first | refine x_ops ?_ | refine wk ?_ | ((first | refine gd1 ?_ ?_ | refine gd2 ?_ ?_ | refine gd3 ?_ ?_) <;> (first | exact @False.elim _ | intro hc)))
  have hx : ∀ q, tok2 = .own q → tok ≠ .own q := hap2'.out.ne hap'.out (by decide)
  refine x_appc (n := j) (xs := C8) (j := 1) (ys := [.sl 1 [vint y] .no]) (k := tok2) (k2 := .exact) vw vw (hap2'.out.mono (fun _ _ _ => rfl) (Nat.le_add_right _ _)) hcel.out rfl (by have := hj14.out; omega) (by have := hj14.out; unfold Go.maxLen; omega) (by show m2.next + 5 < m2.next + 8; omega) ?_
  intro tok3 m3 hap3 hn3 hf3 hq3
  have hnn : m3.next = m2.next + 8 := hn3
  have old : ∀ q cs t, q < m2.next → m2.obj q = some (.box cs t) → m3.obj q = some (.box cs t) := fun q cs t hq h => (hf3 q (by show ¬ q = m2.next + 5; omega) (hap2'.out.box h)).trans h
  have hm2n := m2n.out
  have hmnn := hmn0.out
  have a0 := old _ _ _ (by omega) b0
  have a1 := old _ _ _ (by omega) b1
  have a15 := old _ _ _ (by omega) b15
  have a2 := old _ _ _ (by omega) b2
  have a12 := old _ _ _ (by omega) b12
  have hapk : Apb m3 tok k 84 4 := hap'.out.keep (by omega) fun q hq e => hf3 q (by show ¬ q = m2.next + 5; omega) fun e2 => hx q e2 e
  have hapk2 := hapk.put (o := .box [vbool bb, vbool ti, .sl 1 [vint v, vbool d, vbool tt] .exact, .sl (j + 1) (C8 ++ [.sl 1 [vint y] .no]) tok3] 84) a12
  have hap32 := hap3.put (o := .box [vbool bb, vbool ti, .sl 1 [vint v, vbool d, vbool tt] .exact, .sl (j + 1) (C8 ++ [.sl 1 [vint y] .no]) tok3] 84) a12
  replace hapk2 := Hid.mk hapk2
  replace hap32 := Hid.mk hap32
  have f0 : ¬ 0 = m.next + 12 := by omega
  have f1 : ¬ 1 = m.next + 12 := by omega
  have f15 : ¬ 15 = m.next + 12 := by omega
  clear b0 b1 b15 b2 b12 hf3 hq3 old hap3 hapk hm2n hmnn hx hn3
  repeat' (with_reducible first | refine x_ops ?_ | refine wk ?_ | ((first | refine gd1 ?_ ?_ | refine gd2 ?_ ?_ | refine gd3 ?_ ?_) <;> (first | exact @False.elim _ | intro hc)))
  refine nx hlt20.out ⟨vv, ⟨?_, ?_, ?_, ?_, by show m.next + 14 ≤ m2.next + 8; have := m2n.out; omega⟩, ?_, tok3, ?_, ?_⟩
  · simp only [put_obj]; rw [if_neg f0]; exact a0
  · simp only [put_obj]; rw [if_neg f1]; exact a1
  · simp only [put_obj]; rw [if_neg f15]; exact a15
  · simp only [put_obj]; rw [if_neg (by omega)]; exact a2
  · exact hapk2.out.mono (fun _ _ _ => rfl) (by show m3.next ≤ m2.next + 8; omega)
  · rw [hC9.out, hces.out]
    first
      | exact vv
      | exact if_pos rfl
      | rfl
  · exact hap32.out.mono (fun _ _ _ => rfl) (by show m3.next ≤ m2.next + 8; omega)
end Go.Proofs.YtdefefeifcdogaaGreat
namespace Go.Proofs.YtdefefeifcdogaaGreat
open Go.RowKit
set_option linter.unusedSimpArgs false
set_option linter.unusedVariables false

set_option maxHeartbeats 4000000 in
theorem r2stops (p : Pce) (hs : PcSm p) (i : Nat) (hi : i < p.es.length) {bb d tt ti : Bool} {v : Int} {ss : List Stp} (hsn : ss.length ≤ 17592186044416) (hel : evtE p i = fstE (fun j => stpE p i (ss.getD j default) (lstC ss j)) ss.length) {t : Nat → V} {m : Mm}
    (h1 : t 1 = vint i) (h2 : t 2 = .ptr 0 0) (h5 : t 5 = .ptr 7 0) (hm : m.obj 0 = some (.box [.sl p.ins.cs.length (p.ins.cs.flatMap Crs.cells) .no, .sl p.ins.st.length (p.ins.st.map vint) .no, .sl p.es.length (p.es.flatMap Evt.cells) .no] 49))
    (hm7 : m.obj 7 = some (.box [vbool bb, vint v, vbool d, vbool tt, vbool ti, .sl ss.length (ss.flatMap Stp.cells) .no] 136)) (hmn : 7 < m.next) :
    c_theorboref02_event_p18.vx Tryz.prog Gd (FinV [.t 4] (vint (evtE p i))) ⟨t, m⟩ := by
  have LG := fun c => rlong_fn p hs i hi c
  have hcn := hs.c
  replace LG := Hid.mk LG
  replace hcn := Hid.mk hcn
  replace hel := Hid.mk hel
  have hm0 := Hid.mk hm
  have hm70 := Hid.mk hm7
  have hmn0 := Hid.mk hmn
  clear hs hi hm hm7 hmn
  unfold c_theorboref02_event_p18
  repeat' (with_reducible first | refine x_ops ?_ | refine wk ?_ | ((first | refine gd1 ?_ ?_ | refine gd2 ?_ ?_ | refine gd3 ?_ ?_) <;> (first | exact @False.elim _ | intro hc)))
  refine x_loopW w_theorboref02_event_p15 kr ss.length (fun j t' m' => t' 6 = vint j ∧ (m'.obj 0 = some (.box [.sl p.ins.cs.length (p.ins.cs.flatMap Crs.cells) .no, .sl p.ins.st.length (p.ins.st.map vint) .no, .sl p.es.length (p.es.flatMap Evt.cells) .no] 49) ∧ m'.obj 7 = some (.box [vbool bb, vint v, vbool d, vbool tt, vbool ti, .sl ss.length (ss.flatMap Stp.cells) .no] 136) ∧ 7 < m'.next) ∧ ∀ i', i' < j → stpE p i (ss.getD i' default) (lstC ss i') = 0) ?_ ?_
  · exact ⟨vv, ⟨hm0.out, hm70.out, hmn0.out⟩, fun i hi => by omega⟩
  clear hm0 hm70 hmn0
  rintro j t1 m2 hj ⟨h6, ⟨hm, hm7, hmn⟩, hI2⟩
  replace hI2 := Hid.mk hI2
  have n0 : 0 < m2.next := by omega
  have n77 : 7 < m2.next + 7 := by omega
  have n07 : 0 < m2.next + 7 := by omega
  have n2 : ¬ (2 = m2.next) := by omega
  have n75 : ¬ (7 = m2.next + 5) := by omega
  by_cases hlt2 : j < ss.length
  case neg =>
    have d1 : ¬ ((j : Int) < (ss.length : Int)) := by omega
    have hz : evtE p i = 0 := by rw [hel.out]; exact fstE_zero.2 fun i hi => hI2.out i (by omega)
    rw [hz]
    clear hlt2 hj hz
    repeat' (with_reducible first | refine x_ops ?_ | refine wk ?_ | ((first | refine gd1 ?_ ?_ | refine gd2 ?_ ?_ | refine gd3 ?_ ?_) <;> (first | exact @False.elim _ | intro hc)))
    exact finV_lit vv rfl
  have d1 : (j : Int) < (ss.length : Int) := by omega
  have g1 := stp_take (l := ss) (k := j) hlt2
  have g2 := stps_len ss
  have d3 : j * 5 + 5 ≤ ss.length * 5 := by omega
  have w2 := w_add1 (k := j) (by omega)
  have hlt20 := Hid.mk hlt2
  have hhit : ∀ e, stpE p i (ss.getD j default) (lstC ss j) = e → e ≠ 0 → evtE p i = e := fun e h1 h2 => by
    rw [hel.out, ← h1]; exact fstE_at (f := fun j => stpE p i (ss.getD j default) (lstC ss j)) hI2.out (by rw [← h1] at h2; exact h2) hlt2
  have hI3 : stpE p i (ss.getD j default) (lstC ss j) = 0 → ∀ i', i' < j + 1 → stpE p i (ss.getD i' default) (lstC ss i') = 0 := fun hz i' hi => by
    by_cases e : i' = j
    · subst e; exact hz
    · exact hI2.out i' (by omega)
  have hq : ∀ s last, stpE p i s last = if s.co < 1 ∨ (p.ins.cs.length : Int) < s.co then 12
    else if s.fr < 0 ∨ (p.ins.cs.getD (s.co - 1).toNat default).f < s.fr then 13
    else if s.co ≤ last then 22
    else if s.ri < 0 ∨ 3 < s.ri ∨ s.gr < 0 ∨ 4 < s.gr then 23
    else if s.ho < 0 ∨ (lgst p i s.co : Int) < s.ho ∨ 0 < s.ho ∧ s.fr = 0 then 24 else 0 := fun _ _ => rfl
  have hlc : lstC ss j = if j = 0 then 0 else (ss.getD (j - 1) default).co := rfl
  have g9 : j ≠ 0 → (ss.flatMap Stp.cells)[(j - 1) * 5]? = some (V.lit (.int .i64 ((ss.getD (j - 1) default).co))) := fun h => stp_at0 (by omega)
  have LL := LG.out (ss.getD j default).co
  replace hq := hq (ss.getD j default) (lstC ss j)
  generalize stpE p i (ss.getD j default) (lstC ss j) = E at *
  generalize lstC ss j = last at *
  generalize ss.getD (j - 1) default = s0 at *
  generalize ss.getD j default = s at *
  obtain ⟨co, fr, ri, gr, ho⟩ := s
  dsimp only at hq LL
  generalize lgst p i co = lg at *
  replace hhit := Hid.mk hhit
  replace hI3 := Hid.mk hI3
  clear hI2 hlt2 hj
  have hcn0 := hcn.out
  by_cases h1 : co < 1
  · rw [if_pos (.inl h1)] at hq
    rw [hhit.out _ hq (by decide)]
    clear hq hlc g9 hcn0
    repeat' (with_reducible first | refine x_ops ?_ | refine wk ?_ | ((first | refine gd1 ?_ ?_ | refine gd2 ?_ ?_ | refine gd3 ?_ ?_) <;> (first | exact @False.elim _ | intro hc)))
    exact finV_lit vv rfl
  by_cases h2 : (p.ins.cs.length : Int) < co
  · rw [if_pos (.inr h2)] at hq
    rw [hhit.out _ hq (by decide)]
    clear hq hlc g9 hcn0
    repeat' (with_reducible first | refine x_ops ?_ | refine wk ?_ | ((first | refine gd1 ?_ ?_ | refine gd2 ?_ ?_ | refine gd3 ?_ ?_) <;> (first | exact @False.elim _ | intro hc)))
    exact finV_lit vv rfl
  obtain ⟨k, rfl⟩ : ∃ k : Nat, co = ((k + 1 : Nat) : Int) := ⟨(co - 1).toNat, by omega⟩
  have hk : k < p.ins.cs.length := by omega
  have e1 := crs_at1 (l := p.ins.cs) (k := k) hk
  have e2 := crss_len p.ins.cs
  have d5 : (k : Int) < (p.ins.cs.length : Int) := by omega
  have w1 := w_sub1 (k := k + 1) (by omega) (by omega)
  rw [Nat.add_sub_cancel] at w1
  have ek : (((k + 1 : Nat) : Int) - 1).toNat = k := by omega
  rw [if_neg (by omega), ek] at hq
  generalize (p.ins.cs.getD k default).f = fk at *
  replace hq := Hid.mk hq
  clear hk ek hcn0
  have hfb : fr = 0 ∧ (fr == 0) = true ∨ ¬ fr = 0 ∧ (fr == 0) = false := by
    by_cases h : fr = 0
    · exact .inl ⟨h, by rw [h]; rfl⟩
    · exact .inr ⟨h, by rw [beq_eq_false_iff_ne]; exact h⟩
  by_cases hj0 : j = 0
  · have d6 : ¬ ((0 : Int) < (j : Int)) := by omega
    rw [if_pos hj0] at hlc
    replace hlc := Hid.mk hlc
    rcases hfb with ⟨h0, c9⟩ | ⟨h0, c9⟩
    all_goals
      replace h0 := Hid.mk h0
      clear g9 hj0
      repeat' (with_reducible first | refine x_ops ?_ | refine wk ?_ | (with_reducible refine xc (LL) ?_) | ((first | refine gd1 ?_ ?_ | refine gd2 ?_ ?_ | refine gd3 ?_ ?_) <;> (first | exact @False.elim _ | intro hc)))
      all_goals first
        | (refine nx hlt20.out ⟨vv, ⟨by ((simp only [put_obj]; repeat rw [if_neg (by omega)]); exact hm), by ((simp only [put_obj]; repeat rw [if_neg (by omega)]); exact hm7), by show 7 < m2.next + 7; omega⟩, hI3.out ?_⟩
           have h00 := h0.out
           have hl := hlc.out
           rw [hq.out]
           (repeat' split)
           all_goals first
             | rfl
             | omega)
        | (refine finV_lit vv ?_
           congr 1
           refine (hhit.out _ ?_ (by decide)).symm
           have h00 := h0.out
           have hl := hlc.out
           rw [hq.out]
           (repeat' split)
           all_goals first
             | rfl
             | omega)
  · have d6 : (0 : Int) < (j : Int) := by omega
    have w7 := w_sub1 (k := j) (by omega) (by omega)
    have d7 : ((j - 1 : Nat) : Int) < (ss.length : Int) := by omega
    replace g9 := g9 hj0
    rw [if_neg hj0] at hlc
    generalize s0.co = c0 at *
    replace hlc := Hid.mk hlc
    generalize hjm : j - 1 = jm at *
    replace hjm := Hid.mk hjm
    rcases hfb with ⟨h0, c9⟩ | ⟨h0, c9⟩
    all_goals
      replace h0 := Hid.mk h0
      clear hj0
      repeat' (with_reducible first | refine x_ops ?_ | refine wk ?_ | (with_reducible refine xc (LL) ?_) | ((first | refine gd1 ?_ ?_ | refine gd2 ?_ ?_ | refine gd3 ?_ ?_) <;> (first | exact @False.elim _ | intro hc)))
      all_goals first
        | (refine nx hlt20.out ⟨vv, ⟨by ((simp only [put_obj]; repeat rw [if_neg (by omega)]); exact hm), by ((simp only [put_obj]; repeat rw [if_neg (by omega)]); exact hm7), by show 7 < m2.next + 7; omega⟩, hI3.out ?_⟩
           have h00 := h0.out
           have hl := hlc.out
           rw [hq.out]
           (repeat' split)
           all_goals first
             | rfl
             | omega)
        | (refine finV_lit vv ?_
           congr 1
           refine (hhit.out _ ?_ (by decide)).symm
           have h00 := h0.out
           have hl := hlc.out
           rw [hq.out]
           (repeat' split)
           all_goals first
             | rfl
             | omega)
end Go.Proofs.YtdefefeifcdogaaGreat
namespace Go.Proofs.YtdefefeifcdogaaGreat
open Go.RowKit
set_option linter.unusedSimpArgs false
set_option linter.unusedVariables false

set_option maxHeartbeats 4000000 in
theorem r2event_fn (p : Pce) (hs : PcSm p) (i : Nat) (hi : i < p.es.length) : Fn Tryz.prog Gd 219 [p.val, vint i] (vint (evtE p i)) := by
  refine Fn.of_vx0 k_theorboref02_event (by simp) (by rw [V.pures, pure_pce]; rfl) ?_
  unfold c_theorboref02_event
  have hn := hs.n
  have g1 := evt_take (l := p.es) (k := i) hi
  have g2 := evts_len p.es
  have c1 : (i : Int) < (p.es.length : Int) := by omega
  have c3 : i * 6 + 6 ≤ p.es.length * 6 := by omega
  have RR := rright_fn (p.es.getD i default).sg
  have E0 : rgtS (p.es.getD i default).sg = false → evtE p i = 20 := fun h => by rw [evtE, if_pos (.inl h)]
  have E1 : i = 0 ∧ (p.es.getD i default).sg.v = 0 → evtE p i = 20 := fun h => by rw [evtE, if_pos (.inr h)]
  have E2 := evtE_ok (p := p) (k := i)
  have hsn := hs.e i hi
  have hs0 := Hid.mk hs
  have hi0 := Hid.mk hi
  clear hs hi
  generalize p.es.getD i default = x at *
  obtain ⟨bb, ⟨v, d, tt⟩, ti, ss⟩ := x
  dsimp only at E0 E1 E2 RR hsn
  rw [show (okS ⟨v, d, tt⟩ || (decide (v = 0) && !d && !tt)) = rgtS ⟨v, d, tt⟩ from rfl] at RR
  cases hr : rgtS ⟨v, d, tt⟩ with
  | false =>
    have he := E0 hr
    rw [he]
    rw [hr] at RR
    clear he hr E0 E1 E2
    repeat' (with_reducible first | refine x_ops ?_ | refine wk ?_ | (with_reducible refine xc (RR) ?_) | ((first | refine gd1 ?_ ?_ | refine gd2 ?_ ?_ | refine gd3 ?_ ?_) <;> (first | exact @False.elim _ | intro hc)))
    exact finV_lit vv rfl
  | true =>
  rw [hr] at RR
  by_cases hk0 : i = 0 ∧ v = 0
  · have he := E1 hk0
    rw [he]
    obtain ⟨e1, e2⟩ := hk0
    have c4 : ((i : Int) == 0) = true := by rw [beq_iff_eq]; omega
    have c5 : (v == 0) = true := by rw [beq_iff_eq]; exact e2
    clear he hr E0 E1 E2 e1 e2
    repeat' (with_reducible first | refine x_ops ?_ | refine wk ?_ | (with_reducible refine xc (RR) ?_) | ((first | refine gd1 ?_ ?_ | refine gd2 ?_ ?_ | refine gd3 ?_ ?_) <;> (first | exact @False.elim _ | intro hc)))
    exact finV_lit vv rfl
  have hE := E2 hr hk0
  have hsk : ((i : Int) == 0) = false ∨ ((i : Int) == 0) = true ∧ (v == 0) = false := by
    by_cases e : i = 0
    · exact .inr ⟨by rw [beq_iff_eq]; omega, by rw [beq_eq_false_iff_ne]; exact fun ev => hk0 ⟨e, ev⟩⟩
    · exact .inl (by rw [beq_eq_false_iff_ne]; omega)
  have ht21 : ti = true → (ss.length ≠ 0 ∨ i = 0) → evtE p i = 21 := fun h1 h2 => by rw [hE, if_pos ⟨h1, h2⟩]
  have htl : ¬ (ti = true ∧ (ss.length ≠ 0 ∨ i = 0)) → evtE p i = fstE (fun j => stpE p i (ss.getD j default) (lstC ss j)) ss.length := fun h => by rw [hE, if_neg h]
  clear hE E0 E1 E2 hr hk0
  have htie : ti = false ∨ ti = true ∧ (0 : Int) < (ss.length : Int) ∨ ti = true ∧ ¬ (0 : Int) < (ss.length : Int) ∧ ((i : Int) == 0) = true ∨ ti = true ∧ ¬ (0 : Int) < (ss.length : Int) ∧ ((i : Int) == 0) = false := by
    cases ti
    · exact .inl rfl
    · by_cases e2 : (0 : Int) < (ss.length : Int)
      · exact .inr (.inl ⟨rfl, e2⟩)
      · by_cases e : i = 0
        · exact .inr (.inr (.inl ⟨rfl, e2, by rw [beq_iff_eq]; omega⟩))
        · exact .inr (.inr (.inr ⟨rfl, e2, by rw [beq_eq_false_iff_ne]; omega⟩))
  replace ht21 := Hid.mk ht21
  replace htl := Hid.mk htl
  replace hsk := Hid.mk hsk
  rcases htie with rfl | ⟨rfl, c6⟩ | ⟨rfl, c6, c5⟩ | ⟨rfl, c6, c5⟩
  rotate_left
  · rw [ht21.out rfl (.inl (by omega))]
    rcases hsk.out with c4 | ⟨c4, c7⟩
    all_goals repeat' (with_reducible first | refine x_ops ?_ | refine wk ?_ | (with_reducible refine xc (RR) ?_) | ((first | refine gd1 ?_ ?_ | refine gd2 ?_ ?_ | refine gd3 ?_ ?_) <;> (first | exact @False.elim _ | intro hc)))
    all_goals exact finV_lit vv rfl
  · rw [ht21.out rfl (.inr (by rw [beq_iff_eq] at c5; omega))]
    rcases hsk.out with c4 | ⟨c4, c7⟩
    · rw [c5] at c4; cases c4
    repeat' (with_reducible first | refine x_ops ?_ | refine wk ?_ | (with_reducible refine xc (RR) ?_) | ((first | refine gd1 ?_ ?_ | refine gd2 ?_ ?_ | refine gd3 ?_ ?_) <;> (first | exact @False.elim _ | intro hc)))
    exact finV_lit vv rfl
  all_goals
    have hel := htl.out (by
      rintro ⟨a, b⟩
      first
        | (cases a; done)
        | (rw [beq_eq_false_iff_ne] at c5; omega))
    have ST := fun ti t m => r2stops p hs0.out i hi0.out (ti := ti) (bb := bb) (d := d) (tt := tt) (v := v) (ss := ss) hsn hel (t := t) (m := m)
    rcases hsk.out with c4 | ⟨c4, c7⟩
    all_goals
      replace hel := Hid.mk hel
      replace ST := Hid.mk ST
      clear hsk htl ht21
      repeat' (with_reducible first | refine x_ops ?_ | refine wk ?_ | (with_reducible refine xc (RR) ?_) | ((first | refine gd1 ?_ ?_ | refine gd2 ?_ ?_ | refine gd3 ?_ ?_) <;> (first | exact @False.elim _ | intro hc)))
      first
        | exact ST.out false _ _ vv vv vv vv vv (by show 7 < 9; omega)
        | exact ST.out true _ _ vv vv vv vv vv (by show 7 < 9; omega)
theorem rpcheck_fn (p : Pce) (hs : PcSm p) : Fn Tryz.prog Gd 163 [p.val] (vint (chkP p)) := by
  refine Fn.of_vx0 k_theorboref02_Check (by simp) (by rw [V.pures, pure_pce]; rfl) ?_
  have I := richeck_fn p.ins
  unfold c_theorboref02_Check
  by_cases h0 : chkI p.ins = 0
  case neg =>
    have c1 : (chkI p.ins == 0) = false := by rw [beq_eq_false_iff_ne]; exact h0
    have hq : chkP p = chkI p.ins := by rw [chkP, if_pos h0]
    replace hq := Hid.mk hq
    clear h0
    repeat' (with_reducible first | refine x_ops ?_ | refine wk ?_ | (with_reducible refine xc (I) ?_) | ((first | refine gd1 ?_ ?_ | refine gd2 ?_ ?_ | refine gd3 ?_ ?_) <;> (first | exact @False.elim _ | intro hc)))
    exact finV_lit vv (by rw [hq.out])
  have c1 : (chkI p.ins == 0) = true := by rw [h0]; rfl
  by_cases h1 : 400 < p.es.length
  · have c2 : (400 : Int) < (p.es.length : Int) := by omega
    have hq : chkP p = 2 := by rw [chkP, if_neg (by omega), if_pos h1]
    replace hq := Hid.mk hq
    clear h0 h1
    repeat' (with_reducible first | refine x_ops ?_ | refine wk ?_ | (with_reducible refine xc (I) ?_) | ((first | refine gd1 ?_ ?_ | refine gd2 ?_ ?_ | refine gd3 ?_ ?_) <;> (first | exact @False.elim _ | intro hc)))
    exact finV_lit vv (by rw [hq.out])
  have c2 : ¬ (400 : Int) < (p.es.length : Int) := by omega
  have hat := fun k => chkP_at (p := p) (k := k) h0 h1
  have hok := chkP_ok (p := p) h0 h1
  have hn := hs.n
  replace hat := Hid.mk hat
  replace hok := Hid.mk hok
  replace hs := Hid.mk hs
  clear h0 h1
  repeat' (with_reducible first | refine x_ops ?_ | refine wk ?_ | (with_reducible refine xc (I) ?_) | ((first | refine gd1 ?_ ?_ | refine gd2 ?_ ?_ | refine gd3 ?_ ?_) <;> (first | exact @False.elim _ | intro hc)))
  clear I c1 c2
  refine x_loopF w_theorboref02_Check_p7 kr p.es.length (fun k t => t 4 = vint k ∧ ∀ i, i < k → evtE p i = 0) ?_ ?_
  · exact ⟨vv, fun i h => by omega⟩
  rintro k t hk ⟨h4, hI⟩
  replace hI := Hid.mk hI
  by_cases hlt : k < p.es.length
  case neg =>
    have c1 : ¬ ((k : Int) < (p.es.length : Int)) := by omega
    have hz := hok.out fun i hi => hI.out i (by omega)
    rw [hz]
    clear hlt hk hz
    repeat' (with_reducible first | refine x_ops ?_ | refine wk ?_ | ((first | refine gd1 ?_ ?_ | refine gd2 ?_ ?_ | refine gd3 ?_ ?_) <;> (first | exact @False.elim _ | intro hc)))
    exact finV_lit vv rfl
  have c1 : (k : Int) < (p.es.length : Int) := by omega
  have w1 := w_add1 (k := k) (by omega)
  have EV := r2event_fn p hs.out k hlt
  by_cases he : evtE p k = 0
  · have hlt0 := Hid.mk hlt
    have hI3 : ∀ i, i < k + 1 → evtE p i = 0 := fun i hi => by
      by_cases e : i = k
      · subst e; exact he
      · exact hI.out i (by omega)
    rw [he] at EV
    replace hI3 := Hid.mk hI3
    clear hlt hk he
    repeat' (with_reducible first | refine x_ops ?_ | refine wk ?_ | (with_reducible refine xc (EV) ?_) | ((first | refine gd1 ?_ ?_ | refine gd2 ?_ ?_ | refine gd3 ?_ ?_) <;> (first | exact @False.elim _ | intro hc)))
    exact nf hlt0.out ⟨vv, hI3.out⟩ rfl
  · have hz := hat.out k hI.out hlt he
    have c4 : (evtE p k == 0) = false := by rw [beq_eq_false_iff_ne]; exact he
    rw [hz]
    generalize evtE p k = e at *
    clear hlt hk he hz
    repeat' (with_reducible first | refine x_ops ?_ | refine wk ?_ | (with_reducible refine xc (EV) ?_) | ((first | refine gd1 ?_ ?_ | refine gd2 ?_ ?_ | refine gd3 ?_ ?_) <;> (first | exact @False.elim _ | intro hc)))
    exact finV_lit vv rfl
end Go.Proofs.YtdefefeifcdogaaGreat
namespace Go.Proofs.YtdefefeifcdogaaGreat
open Go.RowKit
set_option maxRecDepth 100000

abbrev c_theorboref02_Copy_b_p1 : VC := (.ops 7 [oo 27 (.fldA 2) [.t 3], oo 28 .ld1 [.t 27], oo 29 (.ldA 6) [.t 5], ⟨(some 30), none, (.mksl 1 6 [(.lit (.bool false)), li 0, (.lit (.bool false)), (.lit (.bool false)), (.lit (.bool false)), (.sl 0 [] .exact)] [(0, 6)]), [.t 29], none⟩, oo 31 (.appM 136 6 56) [.t 28, .t 30], oo 32 (.fldA 2) [.t 3], ⟨none, none, (.st 1), [.t 32, .t 31], none⟩])
abbrev c_theorboref02_Copy_b_p2 : VC := (.seq (.ops 6 [oo 22 (.mksl 0 5 [] []) [], oo 23 (.fldA 5) [.t 5], oo 24 .ld1 [.t 23], oo 25 (.app 152 5 40) [.t 22, .t 24], oo 26 (.fldA 5) [.t 5], ⟨none, none, (.st 1), [.t 26, .t 25], none⟩]) c_theorboref02_Copy_b_p1)
abbrev c_theorboref02_Copy_b_p3 : VC := (.ops 0 [oo 15 .mv [.t 4], oo 16 (.bin .add) [.t 15, kk 1], oo 4 .mv [.t 16]])
abbrev c_theorboref02_Copy_b_p4 : VC := (.seq (.block 1 (.seq (.ops 7 [oo 17 (.fldA 2) [.t 1], oo 18 .ld1 [.t 17], oo 19 .mv [.t 4], oo 20 (.ixA 6) [.t 18, .t 19], oo 21 (.ldA 6) [.t 20], ⟨(some 5), none, (.alloc 136 [(.lit (.bool false)), li 0, (.lit (.bool false)), (.lit (.bool false)), (.lit (.bool false)), (.sl 0 [] .exact)]), [], none⟩, ⟨none, none, (.st 6), [.t 5, .t 21], none⟩]) c_theorboref02_Copy_b_p2)) c_theorboref02_Copy_b_p3)
abbrev c_theorboref02_Copy_b_p5 : VC := (.seq (.seq (.ops 0 [oo 10 .mv [.t 4], oo 11 (.fldA 2) [.t 1], oo 12 .ld1 [.t 11], oo 13 .len [.t 12], oo 14 (.bin .lss) [.t 10, .t 13]]) (.cond (.t 14) .skip (.exit 0))) c_theorboref02_Copy_b_p4)
@[go_sem] abbrev w_theorboref02_Copy_b_p5 : Nat := 8589933616
abbrev c_theorboref02_Copy_b_p7 : VC := (.seq (.ops 0 [oo 33 (.ldA 3) [.t 3], ⟨none, none, (.st 3), [.t 2, .t 33], none⟩]) .ret)
abbrev c_theorboref02_Copy_b_p8 : VC := (.seq (.seq (.ops 0 [oo 4 .mv [kk 0]]) (.block 0 (.loop c_theorboref02_Copy_b_p5))) c_theorboref02_Copy_b_p7)
abbrev c_theorboref02_Copy_b_p9 : VC := (.seq (.ops 6 [oo 6 (.fldA 0) [.t 1], oo 7 (.ldA 2) [.t 6], oo 8 (.call 139) [.t 7], ⟨(some 9), none, (.build [(.sl 0 [] .exact), (.sl 0 [] .exact), (.sl 0 [] .exact)] [(0, 2)]), [.t 8], none⟩, ⟨(some 3), none, (.alloc 49 [(.sl 0 [] .exact), (.sl 0 [] .exact), (.sl 0 [] .exact)]), [], none⟩, ⟨none, none, (.st 3), [.t 3, .t 9], none⟩]) c_theorboref02_Copy_b_p8)
def c_theorboref02_Copy_b : VC := (.seq (.ops 2 [oo 1 (.box 49) [.t 0], ⟨(some 2), none, (.alloc 49 [(.sl 0 [] .exact), (.sl 0 [] .exact), (.sl 0 [] .exact)]), [], none⟩]) c_theorboref02_Copy_b_p9)
theorem k_theorboref02_Copy_b : Comp Tryz.prog (fun n => [31,31,1000031].contains n) gtab 164 34 c_theorboref02_Copy_b [(.c 2 3 true)] := ⟨⟨Tryz.f164, _, Tryz.func164, rfl, rfl, kr, kr⟩⟩
end Go.Proofs.YtdefefeifcdogaaGreat
namespace Go.Proofs.YtdefefeifcdogaaGreat
open Go.RowKit
set_option linter.unusedSimpArgs false
set_option linter.unusedVariables false

theorem del_obj (m : Mm) (i j : Nat) : (m.del i).obj j = if j = i then none else m.obj j := rfl
theorem del_next (m : Mm) (i : Nat) : (m.del i).next = m.next := rfl
attribute [go_sem] del_obj del_next
theorem evts_one (l : List Evt) : (l.flatMap Evt.cells).all V.one = true := by
  rw [List.all_eq_true]
  intro v hv
  obtain ⟨x, _, hx⟩ := List.mem_flatMap.1 hv
  simp only [Evt.cells, List.mem_cons, List.not_mem_nil, or_false] at hx
  rcases hx with rfl | rfl | rfl | rfl | rfl | rfl <;> rfl
theorem evts_vws {m : Mm} {S : Nat → Bool} : ∀ l : List Evt, Vws m S (l.flatMap Evt.cells) (l.flatMap Evt.cells)
  | [] => .nil
  | x :: l => by
    rw [List.flatMap_cons]
    exact .cons (.lit _) (.cons (.lit _) (.cons (.lit _) (.cons (.lit _) (.cons (.lit _) (.cons (.sl _ _ _) (evts_vws l))))))
/-- A copy of a piece: its events lie in a new box. -/
def CpPost (m : Mm) (p : Pce) (r : V) (m' : Mm) : Prop := ((∀ q, q < m.next → m'.obj q = m.obj q) ∧ m.next ≤ m'.next) ∧ ∃ ev, r = .agg [.sl p.ins.cs.length (p.ins.cs.flatMap Crs.cells) .no, .sl p.ins.st.length (p.ins.st.map vint) .no, ev] ∧
  ((p.es.length = 0 ∧ ev = .sl 0 [] .exact) ∨ (0 < p.es.length ∧ ∃ i, m.next ≤ i ∧ i < m'.next ∧ ev = .gsl i p.es.length 6 ∧ m'.obj i = some (.box (p.es.flatMap Evt.cells) 136)))
theorem CpPost.ne (m : Mm) (p : Pce) : ∃ r m', CpPost m p r m' := by
  rcases Nat.eq_zero_or_pos p.es.length with h | h
  · exact ⟨_, m, ⟨fun _ _ => rfl, Nat.le_refl _⟩, _, rfl, .inl ⟨h, rfl⟩⟩
  · refine ⟨_, ⟨(m.put m.next (.box (p.es.flatMap Evt.cells) 136)).obj, m.next + 1⟩, ⟨fun q hq => if_neg (by omega), Nat.le_succ _⟩, _, rfl, .inr ⟨h, m.next, Nat.le_refl _, Nat.lt_succ_self _, rfl, if_pos rfl⟩⟩
set_option maxHeartbeats 2000000 in
theorem rcopyP_sfn {m : Mm} (p : Pce) (hn : p.es.length ≤ 400) (hl : ∀ i, i < p.es.length → (p.es.getD i default).ss.length ≤ 14) (hc : p.ins.cs.length ≤ 14) (hst : p.ins.st.length ≤ 18) : SFn Tryz.prog Gd 164 [p.val] m (CpPost m p) := by
  refine SFn.of_vxS k_theorboref02_Copy_b (by simp) ?_
  have C := rcopy_fn p.ins (by omega) (by omega)
  unfold c_theorboref02_Copy_b
  replace hl := Hid.mk hl
  have hn0 := Hid.mk hn
  clear hn hc hst
  repeat' (with_reducible first | refine x_ops ?_ | refine wk ?_ | (with_reducible refine xc (C) ?_) | ((first | refine gd1 ?_ ?_ | refine gd2 ?_ ?_ | refine gd3 ?_ ?_) <;> (first | exact @False.elim _ | intro hc)))
  clear C
  refine x_loopW w_theorboref02_Copy_b_p5 kr p.es.length (fun k t m' => t 4 = vint k ∧ (m'.obj m.next = some (.box [.sl p.ins.cs.length (p.ins.cs.flatMap Crs.cells) .no, .sl p.ins.st.length (p.ins.st.map vint) .no, .sl p.es.length (p.es.flatMap Evt.cells) .no] 49) ∧ m'.obj (m.next + 1) = some (.box [.sl 0 [] .exact, .sl 0 [] .exact, .sl 0 [] .exact] 49) ∧ (∀ q, q < m.next → m'.obj q = m.obj q) ∧ m.next + 8 ≤ m'.next) ∧ ∃ ev, m'.obj (m.next + 6) = some (.box [.sl p.ins.cs.length (p.ins.cs.flatMap Crs.cells) .no, .sl p.ins.st.length (p.ins.st.map vint) .no, ev] 49) ∧ ((k = 0 ∧ ev = .sl 0 [] .exact) ∨ (0 < k ∧ ∃ i, m.next + 8 ≤ i ∧ i < m'.next ∧ ev = .gsl i k 6 ∧ m'.obj i = some (.box ((p.es.take k).flatMap Evt.cells) 136)))) ?_ ?_
  · refine ⟨vv, ⟨?_, ?_, fun q hq => ?_, Nat.le_refl _⟩, .sl 0 [] .exact, ?_, .inl ⟨rfl, rfl⟩⟩
    · simp only [put_obj]
      repeat rw [if_neg (by omega)]
      first
        | (rw [if_pos rfl]; done)
        | (rw [if_pos trivial]; done)
        | (rw [if_pos rfl]; rfl)
        | (rw [if_pos trivial]; rfl)
    · simp only [put_obj]
      repeat rw [if_neg (by omega)]
      first
        | (rw [if_pos rfl]; done)
        | (rw [if_pos trivial]; done)
    · simp only [put_obj]
      repeat rw [if_neg (by omega)]
    · exact vv
  rintro k t m1 hk ⟨h4, ⟨hm0, hm1, hfr, hnx⟩, ev, hm6, hev⟩
  replace hfr := Hid.mk hfr
  replace hev := Hid.mk hev
  have hnx0 := Hid.mk hnx
  have n0 : m.next < m1.next := by omega
  have n6 : m.next + 6 < m1.next := by omega
  by_cases hlt : k < p.es.length
  case neg =>
    have c1 : ¬ (k : Int) < (p.es.length : Int) := by omega
    have hkl : k = p.es.length := by omega
    subst hkl
    clear hlt hk hnx
    rcases hev.out with ⟨h, rfl⟩ | ⟨h1, i, h2, h3, rfl, h5⟩
    · replace h := Hid.mk h
      repeat' (with_reducible first | refine x_ops ?_ | refine wk ?_ | ((first | refine gd1 ?_ ?_ | refine gd2 ?_ ?_ | refine gd3 ?_ ?_) <;> (first | exact @False.elim _ | intro hc)))
      have hnn := hnx0.out
      refine finS_ret vv ⟨⟨fun q hq => ?_, by show m.next ≤ m1.next; omega⟩, _, rfl, .inl ⟨h.out, rfl⟩⟩
      simp only [put_obj]
      rw [if_neg (by omega)]
      exact hfr.out q hq
    · replace h5 := Hid.mk h5
      replace h1 := Hid.mk h1
      repeat' (with_reducible first | refine x_ops ?_ | refine wk ?_ | ((first | refine gd1 ?_ ?_ | refine gd2 ?_ ?_ | refine gd3 ?_ ?_) <;> (first | exact @False.elim _ | intro hc)))
      have hnn := hnx0.out
      refine finS_ret vv ⟨⟨fun q hq => ?_, by show m.next ≤ m1.next; omega⟩, _, rfl, .inr ⟨h1.out, i, by omega, h3, rfl, ?_⟩⟩
      · simp only [put_obj]
        rw [if_neg (by omega)]
        exact hfr.out q hq
      · simp only [put_obj]
        rw [if_neg (by omega), h5.out, List.take_of_length_le (Nat.le_refl _)]
  have g1 := evt_take (l := p.es) (k := k) hlt
  have g2 := evts_len p.es
  have c1 : (k : Int) < (p.es.length : Int) := by omega
  have c3 : k * 6 + 6 ≤ p.es.length * 6 := by omega
  have w1 := w_add1 (k := k) (by have := hn0.out; omega)
  have hl1 := hl.out k hlt
  have htk : (p.es.take (k + 1)).flatMap Evt.cells = (p.es.take k).flatMap Evt.cells ++ (p.es.getD k default).cells := by
    rw [List.take_add_one, List.getElem?_eq_getElem hlt, List.flatMap_append, List.getD_eq_getElem?_getD, List.getElem?_eq_getElem hlt]
    simp
  have htl : ((p.es.take k).flatMap Evt.cells).length = k * 6 := by rw [evts_len, List.length_take, Nat.min_eq_left (by omega)]
  have hto := evts_one (p.es.take k)
  have hlt0 := Hid.mk hlt
  have hst : ∀ x : Evt, x.ss.length ≤ 14 → (x.ss.flatMap Stp.cells).length = x.ss.length * 5 := fun x _ => stps_len x.ss
  replace hst := hst _ hl1
  generalize p.es.getD k default = x at *
  obtain ⟨bb, ⟨v, d, tt⟩, ti, ss⟩ := x
  dsimp only at hl1 hst
  generalize hL9 : (p.es.take (k + 1)).flatMap Evt.cells = L9 at *
  generalize (p.es.take k).flatMap Evt.cells = L8 at *
  replace hL9 := Hid.mk hL9
  replace htk := Hid.mk htk
  replace htl := Hid.mk htl
  replace hto := Hid.mk hto
  replace hl1 := Hid.mk hl1
  replace hst := Hid.mk hst
  have f6 : ¬ m.next + 6 = m1.next + 5 := by omega
  have f7 : ¬ m.next + 1 = m1.next := by omega
  have f8 : ¬ m.next = m1.next + 4 := by omega
  have f9 : ¬ m.next = m1.next + 11 := by omega
  clear hlt hk hnx
  rcases hev.out with ⟨h, rfl⟩ | ⟨h1, i, h2, h3, rfl, h5⟩
  · have e8 : L8 = [] := List.eq_nil_of_length_eq_zero (by have := htl.out; omega)
    replace e8 := Hid.mk e8
    replace h := Hid.mk h
    repeat' (with_reducible first | refine x_ops ?_ | refine wk ?_ | ((first | refine gd1 ?_ ?_ | refine gd2 ?_ ?_ | refine gd3 ?_ ?_) <;> (first | exact @False.elim _ | intro hc)))
    refine x_appE (xs := []) (n := 0) (j := ss.length) (ys := ss.flatMap Stp.cells) vw vw rfl hst.out (by have := hl1.out; omega) (by have := hl1.out; unfold Go.maxLen; omega) ?_
    repeat' (with_reducible first | refine x_ops ?_ | refine wk ?_ | ((first | refine gd1 ?_ ?_ | refine gd2 ?_ ?_ | refine gd3 ?_ ?_) <;> (first | exact @False.elim _ | intro hc)))
    refine x_appM0 (n := 0) (xs := []) (j := 1) (ys := [vbool bb, vint v, vbool d, vbool tt, vbool ti, .sl ss.length (ss.flatMap Stp.cells) .no]) vw (by ((refine ve ?_; try exact True.intro)); rfl) rfl (by decide) (by decide) ?_
    rw [if_neg (by decide)]
    repeat' (with_reducible first | refine x_ops ?_ | refine wk ?_ | ((first | refine gd1 ?_ ?_ | refine gd2 ?_ ?_ | refine gd3 ?_ ?_) <;> (first | exact @False.elim _ | intro hc)))
    have hnn := hnx0.out
    obtain rfl := h.out
    refine nx hlt0.out ⟨vv, ⟨?_, ?_, fun q hq => ?_, by show m.next + 8 ≤ m1.next + 20; omega⟩, _, ?_, .inr ⟨by omega, m1.next + 17, by omega, by show m1.next + 17 < m1.next + 20; omega, rfl, ?_⟩⟩
    · simp only [put_obj]
      repeat rw [if_neg (by omega)]
      exact hm0
    · simp only [put_obj]
      repeat rw [if_neg (by omega)]
      exact hm1
    · simp only [put_obj]
      repeat rw [if_neg (by omega)]
      exact hfr.out q hq
    · first
        | exact vv
        | exact if_pos rfl
    · simp only [put_obj]
      repeat rw [if_neg (by omega)]
      rw [hL9.out, htk.out, e8.out]
      first
        | exact if_pos rfl
        | exact if_pos trivial
  · have c5 : k * 6 ≤ L8.length := by have := htl.out; omega
    have c6 : L8.take (k * 6) = L8 := List.take_of_length_le (by have := htl.out; omega)
    have c7 := hto.out
    replace h1 := Hid.mk h1
    have h50 := Hid.mk h5
    have h20 := Hid.mk h2
    have h30 := Hid.mk h3
    have e1 : ¬ i = m1.next + 5 := by omega
    have e2 : ¬ i = m1.next + 10 := by omega
    have e3 : ¬ m.next + 6 = i := by omega
    repeat' (with_reducible first | refine x_ops ?_ | refine wk ?_ | ((first | refine gd1 ?_ ?_ | refine gd2 ?_ ?_ | refine gd3 ?_ ?_) <;> (first | exact @False.elim _ | intro hc)))
    refine x_appE (xs := []) (n := 0) (j := ss.length) (ys := ss.flatMap Stp.cells) vw vw rfl hst.out (by have := hl1.out; omega) (by have := hl1.out; unfold Go.maxLen; omega) ?_
    repeat' (with_reducible first | refine x_ops ?_ | refine wk ?_ | ((first | refine gd1 ?_ ?_ | refine gd2 ?_ ?_ | refine gd3 ?_ ?_) <;> (first | exact @False.elim _ | intro hc)))
    refine x_appM (q := i) (n := k) (cs := L8) (j := 1) (ys := [vbool bb, vint v, vbool d, vbool tt, vbool ti, .sl ss.length (ss.flatMap Stp.cells) .no]) vw (by ((refine ve ?_; try exact True.intro)); rfl) vw c5 (by rw [c6]; exact c7) (by have := hlt0.out; have := hn0.out; omega) (by have := hlt0.out; have := hn0.out; unfold Go.maxLen; omega) ?_
    rw [c6]
    repeat' (with_reducible first | refine x_ops ?_ | refine wk ?_ | ((first | refine gd1 ?_ ?_ | refine gd2 ?_ ?_ | refine gd3 ?_ ?_) <;> (first | exact @False.elim _ | intro hc)))
    have hnn := hnx0.out
    have h2n := h20.out
    refine nx hlt0.out ⟨vv, ⟨?_, ?_, fun q hq => ?_, by show m.next + 8 ≤ m1.next + 20; omega⟩, _, ?_, .inr ⟨by omega, m1.next + 17, by omega, by show m1.next + 17 < m1.next + 20; omega, rfl, ?_⟩⟩
    · simp only [put_obj, del_obj]
      repeat rw [if_neg (by omega)]
      exact hm0
    · simp only [put_obj, del_obj]
      repeat rw [if_neg (by omega)]
      exact hm1
    · simp only [put_obj, del_obj]
      repeat rw [if_neg (by omega)]
      exact hfr.out q hq
    · first
        | exact vv
        | exact if_pos rfl
    · simp only [put_obj, del_obj]
      repeat rw [if_neg (by omega)]
      rw [hL9.out, htk.out]
      first
        | exact if_pos rfl
        | exact if_pos trivial
end Go.Proofs.YtdefefeifcdogaaGreat
namespace Go.Proofs.YtdefefeifcdogaaGreat
open Go.RowKit
set_option linter.unusedSimpArgs false
set_option linter.unusedVariables false

/-- The signs in force at the first k events. -/
def frcL (l : List Evt) (k : Nat) : List Sg := (List.range k).map fun i => frc l (i + 1)
theorem frcL_succ (l : List Evt) (k : Nat) : frcL l (k + 1) = frcL l k ++ [frc l (k + 1)] := by rw [frcL, List.range_succ, List.map_append]; rfl
theorem frcL_len (l : List Evt) (k : Nat) : (frcL l k).length = k := by rw [frcL, List.length_map, List.length_range]
theorem frcL_at {l : List Evt} {k i : Nat} (h : i < k) : (frcL l k).getD i default = frc l (i + 1) := by
  rw [List.getD_eq_getElem?_getD, frcL, List.getElem?_map, List.getElem?_range h]; rfl
set_option maxHeartbeats 1000000 in
theorem rforces_fn (p : Pce) (hn : p.es.length ≤ 400) : Fn Tryz.prog Gd 165 [p.val] (.sl p.es.length ((frcL p.es p.es.length).flatMap Sg.cells) .no) := by
  refine Fn.of_vx0 k_theorboref02_Forces (by simp) (by rw [V.pures, pure_pce]; rfl) ?_
  unfold c_theorboref02_Forces
  have hn0 := Hid.mk hn
  clear hn
  repeat' (with_reducible first | refine x_ops ?_ | refine wk ?_ | ((first | refine gd1 ?_ ?_ | refine gd2 ?_ ?_ | refine gd3 ?_ ?_) <;> (first | exact @False.elim _ | intro hc)))
  refine x_loopW w_theorboref02_Forces_p5 kr p.es.length (fun k t m => t 5 = vint k ∧ (m.obj 0 = some (.box [.sl p.ins.cs.length (p.ins.cs.flatMap Crs.cells) .no, .sl p.ins.st.length (p.ins.st.map vint) .no, .sl p.es.length (p.es.flatMap Evt.cells) .no] 49) ∧ 3 < m.next) ∧ m.obj 3 = some (.box [vint (frc p.es k).v, vbool (frc p.es k).d, vbool (frc p.es k).t] 110) ∧ ∃ tok, t 3 = .sl k ((frcL p.es k).flatMap Sg.cells) tok ∧ Apb m tok k 110 3) ?_ ?_
  · exact ⟨vv, ⟨vv, by show 3 < 5; omega⟩, vv, .exact, vv, .inl rfl⟩
  rintro k t m hk ⟨h5, ⟨hm0, hmn⟩, hm3, tok, h3, hap⟩
  replace hap := Hid.mk hap
  have n0 : 0 < m.next := by omega
  by_cases hlt : k < p.es.length
  case neg =>
    have c1 : ¬ (k : Int) < (p.es.length : Int) := by omega
    have hkl : k = p.es.length := by omega
    subst hkl
    clear hlt hk
    repeat' (with_reducible first | refine x_ops ?_ | refine wk ?_ | ((first | refine gd1 ?_ ?_ | refine gd2 ?_ ?_ | refine gd3 ?_ ?_) <;> (first | exact @False.elim _ | intro hc)))
    exact finV_ret vv (.sl _ _ _)
  have g1 := evt_take (l := p.es) (k := k) hlt
  have g2 := evts_len p.es
  have c1 : (k : Int) < (p.es.length : Int) := by omega
  have c3 : k * 6 + 1 + 3 ≤ p.es.length * 6 := by omega
  have w1 := w_add1 (k := k) (by have := hn0.out; omega)
  have a1 := evt_at1 (l := p.es) (k := k) hlt
  have a2 : ((p.es.flatMap Evt.cells).drop (k * 6 + 1)).take 3 = [V.lit (.int .i64 (p.es.getD k default).sg.v), V.lit (.bool (p.es.getD k default).sg.d), V.lit (.bool (p.es.getD k default).sg.t)] := by
    have := congrArg (fun l => (l.drop 1).take 3) g1
    simp only [List.drop_take, List.drop_drop, List.take_take] at this
    exact this
  have hfs := frc_succ p.es k
  have hsl : ((frcL p.es k).flatMap Sg.cells).length = k * 3 := by rw [sgs_len, frcL_len]
  have hfl : (frcL p.es (k + 1)).flatMap Sg.cells = (frcL p.es k).flatMap Sg.cells ++ (frc p.es (k + 1)).cells := by rw [frcL_succ, List.flatMap_append]; simp
  have hlt0 := Hid.mk hlt
  have hmn0 := Hid.mk hmn
  generalize hF9 : (frcL p.es (k + 1)).flatMap Sg.cells = F9 at *
  generalize (frcL p.es k).flatMap Sg.cells = F8 at *
  generalize hf1 : frc p.es (k + 1) = f at *
  generalize frc p.es k = g at *
  generalize (p.es.getD k default).sg = s at *
  obtain ⟨v, d, tt⟩ := s
  obtain ⟨g1v, g1d, g1t⟩ := g
  dsimp only at hfs a1 a2 hm3
  replace hF9 := Hid.mk hF9
  replace hf1 := Hid.mk hf1
  replace hfl := Hid.mk hfl
  replace hsl := Hid.mk hsl
  clear hlt hk hmn g1
  by_cases h0 : v = 0
  · have c5 : (v == 0) = true := by rw [beq_iff_eq]; exact h0
    rw [if_neg (by simp [h0])] at hfs
    subst hfs
    clear h0
    repeat' (with_reducible first | refine x_ops ?_ | refine wk ?_ | ((first | refine gd1 ?_ ?_ | refine gd2 ?_ ?_ | refine gd3 ?_ ?_) <;> (first | exact @False.elim _ | intro hc)))
    refine x_appc (n := k) (xs := F8) (j := 1) (ys := [vint g1v, vbool g1d, vbool g1t]) (k := tok) (k2 := .exact) vw vw (hap.out.mono (fun _ _ _ => rfl) (Nat.le_add_right _ _)) hsl.out rfl (by have := hlt0.out; have := hn0.out; omega) (by have := hlt0.out; have := hn0.out; unfold Go.maxLen; omega) (by show m.next + 3 < m.next + 5; omega) ?_
    intro tok3 m3 hap3 hn3 hf3 hq3
    have hnn : m3.next = m.next + 5 := hn3
    have hmnn := hmn0.out
    have b0 := (hf3 0 (by show ¬ 0 = m.next + 3; omega) (hap.out.box hm0)).trans hm0
    have b3 := (hf3 3 (by show ¬ 3 = m.next + 3; omega) (hap.out.box hm3)).trans hm3
    replace hap3 := Hid.mk hap3
    replace b3 := Hid.mk b3
    clear hm0 hm3 hf3 hq3 hn3
    repeat' (with_reducible first | refine x_ops ?_ | refine wk ?_ | ((first | refine gd1 ?_ ?_ | refine gd2 ?_ ?_ | refine gd3 ?_ ?_) <;> (first | exact @False.elim _ | intro hc)))
    refine nx hlt0.out ⟨vv, ⟨b0, by show 3 < m.next + 5; omega⟩, ?_, tok3, ?_, hap3.out.mono (fun _ _ _ => rfl) (by show m3.next ≤ m.next + 5; omega)⟩
    · rw [hf1.out]; exact b3.out
    · rw [hF9.out, hfl.out]; exact vv
  · have c5 : (v == 0) = false := by rw [beq_eq_false_iff_ne]; exact h0
    rw [if_pos h0] at hfs
    subst hfs
    clear h0
    repeat' (with_reducible first | refine x_ops ?_ | refine wk ?_ | ((first | refine gd1 ?_ ?_ | refine gd2 ?_ ?_ | refine gd3 ?_ ?_) <;> (first | exact @False.elim _ | intro hc)))
    refine x_appc (n := k) (xs := F8) (j := 1) (ys := [vint v, vbool d, vbool tt]) (k := tok) (k2 := .exact) vw vw ((hap.out.put hm3).mono (fun _ _ _ => rfl) (Nat.le_add_right _ _)) hsl.out rfl (by have := hlt0.out; have := hn0.out; omega) (by have := hlt0.out; have := hn0.out; unfold Go.maxLen; omega) (by show m.next + 3 < m.next + 5; omega) ?_
    intro tok3 m3 hap3 hn3 hf3 hq3
    have hnn : m3.next = m.next + 5 := hn3
    have hmnn := hmn0.out
    have b0 : m3.obj 0 = _ := (hf3 0 (by show ¬ 0 = m.next + 3; omega) (hap.out.box hm0)).trans hm0
    have b3 : m3.obj 3 = some (.box [vint v, vbool d, vbool tt] 110) := (hf3 3 (by show ¬ 3 = m.next + 3; omega) (hap.out.box hm3)).trans (by
      first
        | exact if_pos rfl
        | rfl)
    replace hap3 := Hid.mk hap3
    replace b3 := Hid.mk b3
    clear hm0 hm3 hf3 hq3 hn3
    repeat' (with_reducible first | refine x_ops ?_ | refine wk ?_ | ((first | refine gd1 ?_ ?_ | refine gd2 ?_ ?_ | refine gd3 ?_ ?_) <;> (first | exact @False.elim _ | intro hc)))
    refine nx hlt0.out ⟨vv, ⟨b0, by show 3 < m.next + 5; omega⟩, ?_, tok3, ?_, hap3.out.mono (fun _ _ _ => rfl) (by show m3.next ≤ m.next + 5; omega)⟩
    · rw [hf1.out]; exact b3.out
    · rw [hF9.out, hfl.out]; exact vv
theorem splice_sg (A R : List V) (b v d t v' d' t' : V) : splice (A ++ b :: v :: d :: t :: R) (A.length + 1) [v', d', t'] = A ++ b :: v' :: d' :: t' :: R := by
  unfold splice
  have h1 : (A ++ b :: v :: d :: t :: R).take (A.length + 1) = A ++ [b] := by
    rw [List.take_append, List.take_of_length_le (by omega), show A.length + 1 - A.length = 1 by omega]; rfl
  have h2 : (A ++ b :: v :: d :: t :: R).drop (A.length + 1 + 3) = R := by
    rw [List.drop_append, List.drop_of_length_le (by omega), show A.length + 1 + 3 - A.length = 4 by omega]; rfl
  rw [h1, show ([v', d', t'] : List V).length = 3 from rfl, h2]
  simp
/-- The events, the first k in plain. -/
def pmx (es : List Evt) (k : Nat) : List V := (plnE es k).flatMap Evt.cells ++ (es.drop k).flatMap Evt.cells
theorem pmx_len (es : List Evt) {k : Nat} (h : k ≤ es.length) : (pmx es k).length = es.length * 6 := by
  rw [pmx, List.length_append, evts_len, evts_len, plnE_len, List.length_drop]; omega
theorem pmx_succ {es : List Evt} {k : Nat} (h : k < es.length) : splice (pmx es k) (k * 6 + 1) [V.lit (.int .i64 (frc es (k + 1)).v), V.lit (.bool (frc es (k + 1)).d), V.lit (.bool (frc es (k + 1)).t)] = pmx es (k + 1) := by
  rw [pmx, pmx, plnE_succ, List.flatMap_append, drop_cons h, List.flatMap_cons]
  have hl : ((plnE es k).flatMap Evt.cells).length = k * 6 := by rw [evts_len, plnE_len]
  have := splice_sg ((plnE es k).flatMap Evt.cells) (vbool (es.getD k default).tie :: tL Stp.cells (es.getD k default).ss :: (es.drop (k + 1)).flatMap Evt.cells) (vbool (es.getD k default).bar) (vint (es.getD k default).sg.v) (vbool (es.getD k default).sg.d) (vbool (es.getD k default).sg.t) (V.lit (.int .i64 (frc es (k + 1)).v)) (V.lit (.bool (frc es (k + 1)).d)) (V.lit (.bool (frc es (k + 1)).t))
  rw [hl] at this
  exact this.trans (by simp [Evt.cells, vint, vbool])
theorem pmx_zero (es : List Evt) : pmx es 0 = es.flatMap Evt.cells := by rw [pmx]; rfl
theorem pmx_all (es : List Evt) : pmx es es.length = (plnE es es.length).flatMap Evt.cells := by rw [pmx, List.drop_length]; simp
set_option maxHeartbeats 2000000 in
theorem rplain_fn (p : Pce) (hs : PcSm p) : Fn Tryz.prog Gd 94 [p.val] (.tup [(plnR p).1.val, vint (plnR p).2]) := by
  refine Fn.of_vx0 k_theorboref02_Plain (by simp) (by rw [V.pures, pure_pce]; rfl) ?_
  have K := rpcheck_fn p hs
  unfold c_theorboref02_Plain
  by_cases h0 : chkP p = 0
  case neg =>
    have c1 : (chkP p == 0) = false := by rw [beq_eq_false_iff_ne]; exact h0
    have hq : plnR p = (noP, chkP p) := by rw [plnR, if_pos h0]
    rw [hq]
    clear hq h0 hs
    repeat' (with_reducible first | refine x_ops ?_ | refine wk ?_ | (with_reducible refine xc (K) ?_) | ((first | refine gd1 ?_ ?_ | refine gd2 ?_ ?_ | refine gd3 ?_ ?_) <;> (first | exact @False.elim _ | intro hc)))
    refine finV_ret vv ?_
    exact .tup (.cons (.agg (.cons (.sl _ _ _) (.cons (.sl _ _ _) (.cons (.sl _ _ _) .nil)))) (.cons (.lit _) .nil))
  have c1 : (chkP p == 0) = true := by rw [h0]; rfl
  have ok := PcOk.of h0
  have hq : plnR p = (plnP p, 0) := by rw [plnR, if_neg (by omega)]
  have hl := plnE_len p.es p.es.length
  have F := rforces_fn p ok.n
  have CP := fun (m : Mm) => rcopyP_sfn (m := m) p ok.n ok.l ok.c ok.s
  have hfl := frcL_len p.es p.es.length
  have hsg := fun k (h : k < p.es.length) => sg_take (l := frcL p.es p.es.length) (k := k) (by rw [frcL_len]; exact h)
  have hsl := sgs_len (frcL p.es p.es.length)
  rw [hfl] at hsl
  have hn0 := Hid.mk ok.n
  rw [hq, show (plnP p).val = .agg [tL Crs.cells p.ins.cs, tIs p.ins.st, .sl p.es.length ((plnE p.es p.es.length).flatMap Evt.cells) .no] from by rw [Pce.val, tL, tL, show (plnP p).es = plnE p.es p.es.length from rfl, hl]; rfl]
  replace CP := Hid.mk CP
  replace hsg := Hid.mk hsg
  clear hq h0 hs ok hl hfl
  repeat' (with_reducible first | refine x_ops ?_ | refine wk ?_ | (with_reducible refine xc (K) ?_) | ((first | refine gd1 ?_ ?_ | refine gd2 ?_ ?_ | refine gd3 ?_ ?_) <;> (first | exact @False.elim _ | intro hc)))
  refine x_scallR [p.val] vw (CP.out _) (CpPost.ne _ _) ?_
  rintro r m1 ⟨⟨q1, q2⟩, ev, rfl, hev⟩
  replace q2 : 7 ≤ m1.next := q2
  have b0 : m1.obj 0 = some (.box [.sl p.ins.cs.length (p.ins.cs.flatMap Crs.cells) .no, .sl p.ins.st.length (p.ins.st.map vint) .no, .sl p.es.length (p.es.flatMap Evt.cells) .no] 49) := (q1 0 (by show 0 < 7; omega)).trans (by
    first
      | exact if_pos rfl
      | rfl)
  have b1 : m1.obj 1 = some (.box [.sl 0 [] .exact, .sl 0 [] .exact, .sl 0 [] .exact] 49) := (q1 1 (by show 1 < 7; omega)).trans (by
    first
      | exact if_pos rfl
      | rfl)
  clear q1
  rcases hev with ⟨h, rfl⟩ | ⟨h1, i, h2, h3, rfl, h5⟩
  · have c2 : ¬ ((0 : Int) < (p.es.length : Int)) := by omega
    have e0 : (plnE p.es p.es.length).flatMap Evt.cells = [] := by rw [h]; rfl
    generalize (plnE p.es p.es.length).flatMap Evt.cells = PE at *
    generalize (frcL p.es p.es.length).flatMap Sg.cells = FC at *
    replace e0 := Hid.mk e0
    replace h := Hid.mk h
    clear hsg
    repeat' (with_reducible first | refine x_ops ?_ | refine wk ?_ | (with_reducible refine xc (F) ?_) | ((first | refine gd1 ?_ ?_ | refine gd2 ?_ ?_ | refine gd3 ?_ ?_) <;> (first | exact @False.elim _ | intro hc)))
    refine x_loopF w_theorboref02_Plain_p4 kr 0 (fun k t => t 7 = vint k) vv ?_
    intro k t hk h7
    have hk0 : k = 0 := by omega
    subst hk0
    have h70 : t 7 = vint 0 := h7
    clear h7 hk
    repeat' (with_reducible first | refine x_ops ?_ | refine wk ?_ | ((first | refine gd1 ?_ ?_ | refine gd2 ?_ ?_ | refine gd3 ?_ ?_) <;> (first | exact @False.elim _ | intro hc)))
    refine finV_ret vv ?_
    rw [e0.out, h.out]
    exact .tup (.cons (.agg (.cons (.sl _ _ _) (.cons (.sl _ _ _) (.cons (.sl _ _ _) .nil)))) (.cons (.lit _) .nil))
  · replace h2 : 7 ≤ i := h2
    generalize hPE : (plnE p.es p.es.length).flatMap Evt.cells = PE at *
    generalize hFC : (frcL p.es p.es.length).flatMap Sg.cells = FC at *
    replace hPE := Hid.mk hPE
    replace hFC := Hid.mk hFC
    have n1 : ¬ i = 5 := by omega
    have n2 : ¬ 5 = i := by omega
    have h20 := Hid.mk h2
    have h30 := Hid.mk h3
    have q20 := Hid.mk q2
    have h5' : m1.obj i = some (.box (pmx p.es 0) 136) := by rw [pmx_zero]; exact h5
    replace h5' := Hid.mk h5'
    replace b1 := Hid.mk b1
    clear h5 h2 q2 h3
    repeat' (with_reducible first | refine x_ops ?_ | refine wk ?_ | (with_reducible refine xc (F) ?_) | ((first | refine gd1 ?_ ?_ | refine gd2 ?_ ?_ | refine gd3 ?_ ?_) <;> (first | exact @False.elim _ | intro hc)))
    refine x_loopW w_theorboref02_Plain_p4 kr p.es.length (fun k t m => t 7 = vint k ∧ (m.obj 1 = some (.box [.sl 0 [] .exact, .sl 0 [] .exact, .sl 0 [] .exact] 49) ∧ m.obj 5 = some (.box [.sl p.ins.cs.length (p.ins.cs.flatMap Crs.cells) .no, .sl p.ins.st.length (p.ins.st.map vint) .no, .gsl i p.es.length 6] 49) ∧ 7 ≤ m.next ∧ i < m.next) ∧ m.obj i = some (.box (pmx p.es k) 136)) ?_ ?_
    · have := h20.out
      refine ⟨vv, ⟨?_, ?_, q20.out, h30.out⟩, ?_⟩
      · exact b1.out
      · first
          | exact vv
          | exact if_pos rfl
      · simp only [put_obj]
        repeat rw [if_neg (by omega)]
        exact h5'.out
    clear F b0 b1
    rintro k t m hk ⟨h7, ⟨b1, b5, hmn, hin⟩, hbi⟩
    have n5 : 5 < m.next := by omega
    by_cases hlt : k < p.es.length
    case neg =>
      have c2 : ¬ ((k : Int) < (p.es.length : Int)) := by omega
      have hkl : k = p.es.length := by omega
      subst hkl
      rw [pmx_all, hPE.out] at hbi
      have hone : PE.all V.one = true := by rw [← hPE.out]; exact evts_one _
      have hvw : ∀ m', Vws m' allS PE PE := fun m' => by rw [← hPE.out]; exact evts_vws _
      replace hone := Hid.mk hone
      replace hvw := Hid.mk hvw
      have hbi0 := Hid.mk hbi
      clear hlt hk hbi
      have h20n := h20.out
      repeat' (with_reducible first | refine x_ops ?_ | refine wk ?_ | ((first | refine gd1 ?_ ?_ | refine gd2 ?_ ?_ | refine gd3 ?_ ?_) <;> (first | exact @False.elim _ | intro hc)))
      refine finV_ret vv ?_
      refine .tup (.cons (.agg (.cons (.sl _ _ _) (.cons (.sl _ _ _) (.cons (.gsl (t := 136) rfl ?_ (hvw.out _) hone.out) .nil)))) (.cons (.lit _) .nil))
      · simp only [put_obj]
        repeat rw [if_neg (by omega)]
        exact hbi0.out
    have c2 : (k : Int) < (p.es.length : Int) := by omega
    have g1 := hsg.out k hlt
    rw [frcL_at hlt] at g1
    have w1 := w_add1 (k := k) (by have := hn0.out; omega)
    have hpl := pmx_len p.es (k := k) (by omega)
    have c3 : k * 3 + 3 ≤ p.es.length * 3 := by omega
    have c4 : k * 6 + 1 + 3 ≤ p.es.length * 6 := by omega
    have c5 : k * 6 + 4 ≤ p.es.length * 6 := by omega
    have hsp := pmx_succ hlt
    have hlt0 := Hid.mk hlt
    have h20n := h20.out
    have n6 : ¬ 1 = i := by omega
    generalize hX9 : pmx p.es (k + 1) = X9 at *
    generalize pmx p.es k = X8 at *
    generalize frc p.es (k + 1) = f at *
    obtain ⟨fv, fd, ft⟩ := f
    dsimp only at g1 hsp
    replace hX9 := Hid.mk hX9
    replace hsp := Hid.mk hsp
    have hmn0 := Hid.mk hmn
    have hin0 := Hid.mk hin
    replace h20n := Hid.mk h20n
    clear hlt hk hmn hin
    repeat' (with_reducible first | refine x_ops ?_ | refine wk ?_ | ((first | refine gd1 ?_ ?_ | refine gd2 ?_ ?_ | refine gd3 ?_ ?_) <;> (first | exact @False.elim _ | intro hc)))
    refine nx hlt0.out ⟨vv, ⟨?_, ?_, hmn0.out, hin0.out⟩, ?_⟩
    · simp only [put_obj]; rw [if_neg n6]; exact b1
    · simp only [put_obj]; rw [if_neg n2]; exact b5
    · simp only [put_obj]
      rw [hX9.out, ← hsp.out]
      exact (if_pos trivial).trans rfl
end Go.Proofs.YtdefefeifcdogaaGreat
namespace Go.Proofs.YtdefefeifcdogaaGreat
open Go.RowKit
set_option linter.unusedSimpArgs false
set_option linter.unusedVariables false

set_option maxHeartbeats 4000000 in
theorem rof_fn (p : Pce) (hs : PcSm p) : Fn Tryz.prog Gd 40 [p.val] (.tup [(ofR p).1.val, vint (ofR p).2]) := by
  refine Fn.of_vx0 k_theorboref10_Of (by simp) (by rw [V.pures, pure_pce]; rfl) ?_
  have PL := rplain_fn p hs
  unfold c_theorboref10_Of
  by_cases h0 : chkP p = 0
  case neg =>
    have hp : plnR p = (noP, chkP p) := by rw [plnR, if_pos h0]
    have hq : ofR p = (noL, chkP p) := by rw [ofR, if_pos h0]
    have c1 : (chkP p == 0) = false := by rw [beq_eq_false_iff_ne]; exact h0
    rw [hp] at PL
    rw [hq]
    clear hp hq h0 hs
    repeat' (with_reducible first | refine x_ops ?_ | refine wk ?_ | (with_reducible refine xc (PL) ?_) | ((first | refine gd1 ?_ ?_ | refine gd2 ?_ ?_ | refine gd3 ?_ ?_) <;> (first | exact @False.elim _ | intro hc)))
    refine finV_ret vv ?_
    exact .tup (.cons (.agg (.cons (.sl _ _ _) (.cons (.sl _ _ _) (.cons (.sl _ _ _) .nil)))) (.cons (.lit _) .nil))
  have ok := PcOk.of h0
  have hp : plnR p = (plnP p, 0) := by rw [plnR, if_neg (by omega)]
  have hq : ofR p = (lfO p, 0) := by rw [ofR, if_neg (by omega)]
  have hl := plnE_len p.es p.es.length
  have hcl := colsO_len p
  have hcs := fun k => colsO_succ p (k := k)
  have hls : ∀ i, i < p.es.length → ((plnP p).es.getD i default).ss.length ≤ 14 := fun i hi => by
    rw [show (plnP p).es = plnE p.es p.es.length from rfl, plnE_at hi]; exact ok.l i hi
  have hn := ok.n
  have hc14 := ok.c
  rw [hp, show (plnP p).val = .agg [tL Crs.cells p.ins.cs, tIs p.ins.st, .sl p.es.length ((plnP p).es.flatMap Evt.cells) .no] from by rw [Pce.val, tL, tL, show (plnP p).es = plnE p.es p.es.length from rfl, hl]; rfl] at PL
  rw [hq, show (lfO p).val = .agg [tL Crs.cells p.ins.cs, tIs p.ins.st, .sl p.es.length ((lfO p).cols.flatMap Clm.cells) .no] from by rw [Lf.val, tL, tL, hcl]; rfl]
  have hpl : (plnP p).es.length = p.es.length := hl
  generalize (plnP p).es = E at *
  generalize (lfO p).cols = CL at *
  replace hcs := Hid.mk hcs
  replace hls := Hid.mk hls
  have hcl0 := Hid.mk hcl
  have hpl0 := Hid.mk hpl
  have hn0 := Hid.mk hn
  have hc140 := Hid.mk hc14
  clear hp hq h0 hs ok hl hcl hpl hn hc14
  repeat' (with_reducible first | refine x_ops ?_ | refine wk ?_ | (with_reducible refine xc (PL) ?_) | ((first | refine gd1 ?_ ?_ | refine gd2 ?_ ?_ | refine gd3 ?_ ?_) <;> (first | exact @False.elim _ | intro hc)))
  clear PL
  refine x_loopW w_theorboref10_Of_p18 kr p.es.length (fun k t m => t 6 = vint k ∧ (m.obj 0 = some (.box [.sl p.ins.cs.length (p.ins.cs.flatMap Crs.cells) .no, .sl p.ins.st.length (p.ins.st.map vint) .no, .sl p.es.length (E.flatMap Evt.cells) .no] 49) ∧ m.obj 1 = some (.box [.sl 0 [] .exact, .sl 0 [] .exact, .sl 0 [] .exact] 28) ∧ 6 < m.next) ∧ ∃ tok, m.obj 6 = some (.box [.sl p.ins.cs.length (p.ins.cs.flatMap Crs.cells) .no, .sl p.ins.st.length (p.ins.st.map vint) .no, .sl k ((CL.take k).flatMap Clm.cells) tok] 28) ∧ Apb m tok k 84 4) ?_ ?_
  · exact ⟨vv, ⟨vv, vv, by show 6 < 8; omega⟩, .exact, vv, .inl rfl⟩
  rintro k t m hk ⟨h30, ⟨hm0, hm1, hmn⟩, tok, hm15, hap⟩
  replace hap := Hid.mk hap
  by_cases hlt : k < p.es.length
  case neg =>
    have c1 : ¬ (k : Int) < (p.es.length : Int) := by omega
    have hkl : k = p.es.length := by omega
    rw [hkl, List.take_of_length_le (by have := hcl0.out; omega)] at hm15
    subst hkl
    clear hlt hk
    repeat' (with_reducible first | refine x_ops ?_ | refine wk ?_ | ((first | refine gd1 ?_ ?_ | refine gd2 ?_ ?_ | refine gd3 ?_ ?_) <;> (first | exact @False.elim _ | intro hc)))
    refine finV_ret vv ?_
    exact .tup (.cons (.agg (.cons (.sl _ _ _) (.cons (.sl _ _ _) (.cons (.sl _ _ _) .nil)))) (.cons (.lit _) .nil))
  have g1 := evt_take (l := E) (k := k) (by have := hpl0.out; omega)
  have g2 := evts_len E
  rw [hpl0.out] at g2
  have c1 : (k : Int) < (p.es.length : Int) := by omega
  have c3 : k * 6 + 6 ≤ p.es.length * 6 := by omega
  have w1 := w_add1 (k := k) (by have := hn0.out; omega)
  have hsl : ((CL.take k).flatMap Clm.cells).length = k * 4 := by
    rw [clms_len, List.length_take, Nat.min_eq_left (by have := hcl0.out; omega)]
  have hcs1 := hcs.out k hlt
  have hls1 := hls.out k hlt
  have hlt0 := Hid.mk hlt
  have hmn0 := Hid.mk hmn
  generalize E.getD k default = x at *
  generalize hL9 : (CL.take (k + 1)).flatMap Clm.cells = L9 at *
  generalize (CL.take k).flatMap Clm.cells = L8 at *
  rw [clmO_ce] at hcs1
  obtain ⟨bb, ⟨v, d, tt⟩, ti, ss⟩ := x
  have hcs2 : (Clm.mk bb ti [⟨v, d, tt⟩] (celO ss p.ins.cs.length)).cells = [vbool bb, vbool ti, .sl 1 [vint v, vbool d, vbool tt] .no, .sl p.ins.cs.length ((celO ss p.ins.cs.length).map tIs) .no] := by
    show [vbool bb, vbool ti, V.sl 1 [vint v, vbool d, vbool tt] .no, V.sl (celO ss p.ins.cs.length).length ((celO ss p.ins.cs.length).map tIs) .no] = _
    rw [celO_len]
  dsimp only at hcs1
  rw [hcs2] at hcs1
  clear hcs2
  replace hL9 := Hid.mk hL9
  replace hcs1 := Hid.mk hcs1
  replace hsl := Hid.mk hsl
  replace hls1 := Hid.mk hls1
  have hm00 := Hid.mk hm0
  replace hm15 := Hid.mk hm15
  replace hm1 := Hid.mk hm1
  have n0 : 0 < m.next := by omega
  clear hlt hk hmn
  repeat' (with_reducible first | refine x_ops ?_ | refine wk ?_ | ((first | refine gd1 ?_ ?_ | refine gd2 ?_ ?_ | refine gd3 ?_ ?_) <;> (first | exact @False.elim _ | intro hc)))
  refine x_loopW w_theorboref10_Of_p11 kr p.ins.cs.length (fun j t' m' => t' 9 = vint j ∧ (m'.obj 0 = some (.box [.sl p.ins.cs.length (p.ins.cs.flatMap Crs.cells) .no, .sl p.ins.st.length (p.ins.st.map vint) .no, .sl p.es.length (E.flatMap Evt.cells) .no] 49) ∧ m'.obj 1 = some (.box [.sl 0 [] .exact, .sl 0 [] .exact, .sl 0 [] .exact] 28) ∧ m'.obj 6 = some (.box [.sl p.ins.cs.length (p.ins.cs.flatMap Crs.cells) .no, .sl p.ins.st.length (p.ins.st.map vint) .no, .sl k L8 tok] 28) ∧ m'.obj (m.next + 5) = some (.box [vbool bb, vint v, vbool d, vbool tt, vbool ti, .sl ss.length (ss.flatMap Stp.cells) .no] 136) ∧ m.next + 17 ≤ m'.next) ∧ Apb m' tok k 84 4 ∧ ∃ tok2, m'.obj (m.next + 15) = some (.box [vbool bb, vbool ti, .sl 1 [vint v, vbool d, vbool tt] .exact, .sl j ((celO ss j).map tIs) tok2] 84) ∧ Apb m' tok2 j 23 1) ?_ ?_
  · have := hmn0.out
    refine ⟨vv, ⟨?_, ?_, ?_, ?_, Nat.le_refl _⟩, ?_, .exact, vv, .inl rfl⟩
    · (simp only [put_obj]; repeat rw [if_neg (by omega)]); exact hm00.out
    · (simp only [put_obj]; repeat rw [if_neg (by omega)]); exact hm1.out
    · (simp only [put_obj]; repeat rw [if_neg (by omega)]); exact hm15.out
    · simp only [put_obj]
      repeat rw [if_neg (by omega)]
      first
        | (rw [if_pos rfl]; done)
        | (rw [if_pos trivial]; done)
        | (rw [if_pos rfl]; rfl)
        | (rw [if_pos trivial]; rfl)
    · refine hap.out.mono (fun q hq _ => ?_) (by show m.next ≤ m.next + 17; omega)
      (simp only [put_obj]; repeat rw [if_neg (by omega)])
  clear hm0 hm1 hm15 hap g1 g2 c3
  rintro j t1 m1 hj ⟨h46, ⟨hm0, hm1, hm15, hm2, hn1⟩, hap, tok2, hm12, hap2⟩
  replace hap := Hid.mk hap
  replace hap2 := Hid.mk hap2
  have hmnn := hmn0.out
  have n1 : m.next + 5 < m1.next := by omega
  have n2 : m.next + 15 < m1.next := by omega
  have n3 : 6 < m1.next := by omega
  have n4 : 0 < m1.next := by omega
  have hn10 := Hid.mk hn1
  by_cases hlt2 : j < p.ins.cs.length
  case neg =>
    have d1 : ¬ ((j : Int) < (p.ins.cs.length : Int)) := by omega
    have hjl : j = p.ins.cs.length := by omega
    subst hjl
    clear hlt2 hj hn1 hmnn
    repeat' (with_reducible first | refine x_ops ?_ | refine wk ?_ | ((first | refine gd1 ?_ ?_ | refine gd2 ?_ ?_ | refine gd3 ?_ ?_) <;> (first | exact @False.elim _ | intro hc)))
    refine x_appc (n := k) (xs := L8) (j := 1) (ys := [vbool bb, vbool ti, .sl 1 [vint v, vbool d, vbool tt] .no, .sl p.ins.cs.length ((celO ss p.ins.cs.length).map tIs) .no]) (k := tok) (k2 := .exact) vw vw (hap.out.mono (fun _ _ _ => rfl) (Nat.le_add_right _ _)) hsl.out rfl (by have := hlt0.out; have := hn0.out; omega) (by have := hlt0.out; have := hn0.out; unfold Go.maxLen; omega) (by show m1.next + 4 < m1.next + 7; omega) ?_
    intro tok3 m3 hap3 hn3 hf3 hq3
    have hnn : m3.next = m1.next + 7 := hn3
    have old : ∀ q cs t, q < m1.next → m1.obj q = some (.box cs t) → m3.obj q = some (.box cs t) := fun q cs t hq h => (hf3 q (by show ¬ q = m1.next + 4; omega) (hap.out.box h)).trans h
    have a0 := old _ _ _ n4 hm0
    have a1 := old _ _ _ (by omega) hm1
    have a15 := old _ _ _ n3 hm15
    replace hap3 := Hid.mk hap3
    clear hm0 hm1 hm15 hm2 hm12 hf3 hq3 old hn3
    repeat' (with_reducible first | refine x_ops ?_ | refine wk ?_ | ((first | refine gd1 ?_ ?_ | refine gd2 ?_ ?_ | refine gd3 ?_ ?_) <;> (first | exact @False.elim _ | intro hc)))
    refine nx hlt0.out ⟨vv, ⟨a0, a1, by show 6 < m1.next + 7; omega⟩, tok3, ?_, ?_⟩
    · rw [hL9.out, hcs1.out]
      first
        | exact vv
        | exact if_pos rfl
        | rfl
    · show Apb ⟨(m3.put 6 _).obj, _⟩ tok3 (k + 1) 84 4
      exact (hap3.out.put a15).mono (fun _ _ _ => rfl) (by show m3.next ≤ m1.next + 7; omega)
  have d1 : (j : Int) < (p.ins.cs.length : Int) := by omega
  have w2 := w_add1 (k := j) (by have := hc140.out; omega)
  have hlt20 := Hid.mk hlt2
  clear hlt2 hj hn1 hmnn
  repeat' (with_reducible first | refine x_ops ?_ | refine wk ?_ | ((first | refine gd1 ?_ ?_ | refine gd2 ?_ ?_ | refine gd3 ?_ ?_) <;> (first | exact @False.elim _ | intro hc)))
  refine x_loopF w_theorboref10_Of_p5 kr ss.length (fun i t' => t' 11 = vint i ∧ t' 10 = vint (numC ss ((j + 1 : Nat) : Int) i)) ?_ ?_
  · exact ⟨vv, vv⟩
  rintro i t2 hi ⟨h52, h11⟩
  by_cases hlt3 : i < ss.length
  case pos =>
    have e1 : (i : Int) < (ss.length : Int) := by omega
    have g1 := stp_at0 (l := ss) (k := i) hlt3
    have g3 := stp_at1 (l := ss) (k := i) hlt3
    have g2 := stps_len ss
    have w3 := w_add1 (k := i) (by have := hls1.out; dsimp only at this; omega)
    have hnc := numC_succ ss ((j + 1 : Nat) : Int) i
    have hlt30 := Hid.mk hlt3
    generalize ss.getD i default = s at *
    obtain ⟨a1, a2, a3, a4, a5⟩ := s
    dsimp only at g1 g3
    clear hlt3 hi
    by_cases hc : a1 = ((j + 1 : Nat) : Int)
    · have e4 : (a1 == ((j + 1 : Nat) : Int)) = true := by rw [beq_iff_eq]; exact hc
      rw [if_pos hc] at hnc
      replace hnc := Hid.mk hnc
      clear hc
      repeat' (with_reducible first | refine x_ops ?_ | refine wk ?_ | ((first | refine gd1 ?_ ?_ | refine gd2 ?_ ?_ | refine gd3 ?_ ?_) <;> (first | exact @False.elim _ | intro hc)))
      refine nf hlt30.out ⟨vv, ?_⟩ rfl
      rw [hnc.out]; exact vv
    · have e4 : (a1 == ((j + 1 : Nat) : Int)) = false := by rw [beq_eq_false_iff_ne]; exact hc
      rw [if_neg hc] at hnc
      replace hnc := Hid.mk hnc
      clear hc
      repeat' (with_reducible first | refine x_ops ?_ | refine wk ?_ | ((first | refine gd1 ?_ ?_ | refine gd2 ?_ ?_ | refine gd3 ?_ ?_) <;> (first | exact @False.elim _ | intro hc)))
      refine nf hlt30.out ⟨vv, ?_⟩ rfl
      rw [hnc.out]; exact vw
  have e1 : ¬ (i : Int) < (ss.length : Int) := by omega
  have hil : i = ss.length := by omega
  subst hil
  have hces := celO_succ ss j
  have hcel : ((celO ss j).map tIs).length = j * 1 := by rw [List.length_map, celO_len, Nat.mul_one]
  generalize numC ss ((j + 1 : Nat) : Int) ss.length = y at *
  generalize hC9 : (celO ss (j + 1)).map tIs = C9 at *
  generalize (celO ss j).map tIs = C8 at *
  have hj14 : j < 14 := by have := hlt20.out; have := hc140.out; omega
  replace hC9 := Hid.mk hC9
  replace hj14 := Hid.mk hj14
  replace hces := Hid.mk hces
  replace hcel := Hid.mk hcel
  clear hlt3 hi
  repeat' (with_reducible first | refine x_ops ?_ | refine wk ?_ | ((first | refine gd1 ?_ ?_ | refine gd2 ?_ ?_ | refine gd3 ?_ ?_) <;> (first | exact @False.elim _ | intro hc)))
  have hx : ∀ q, tok2 = .own q → tok ≠ .own q := hap2.out.ne hap.out (by decide)
  refine x_appc (n := j) (xs := C8) (j := 1) (ys := [.sl 1 [vint y] .no]) (k := tok2) (k2 := .exact) vw vw (hap2.out.mono (fun _ _ _ => rfl) (Nat.le_add_right _ _)) hcel.out rfl (by have := hj14.out; omega) (by have := hj14.out; unfold Go.maxLen; omega) (by show m1.next + 5 < m1.next + 8; omega) ?_
  intro tok3 m3 hap3 hn3 hf3 hq3
  have hnn : m3.next = m1.next + 8 := hn3
  have old : ∀ q cs t, q < m1.next → m1.obj q = some (.box cs t) → m3.obj q = some (.box cs t) := fun q cs t hq h => (hf3 q (by show ¬ q = m1.next + 5; omega) (hap2.out.box h)).trans h
  have hm2n := hn10.out
  have hmnn := hmn0.out
  have a0 := old _ _ _ (by omega) hm0
  have a1 := old _ _ _ (by omega) hm1
  have a15 := old _ _ _ (by omega) hm15
  have a2 := old _ _ _ (by omega) hm2
  have a12 := old _ _ _ (by omega) hm12
  have hapk : Apb m3 tok k 84 4 := hap.out.keep (by omega) fun q hq e => hf3 q (by show ¬ q = m1.next + 5; omega) fun e2 => hx q e2 e
  have hapk2 := hapk.put (o := .box [vbool bb, vbool ti, .sl 1 [vint v, vbool d, vbool tt] .exact, .sl (j + 1) (C8 ++ [.sl 1 [vint y] .no]) tok3] 84) a12
  have hap32 := hap3.put (o := .box [vbool bb, vbool ti, .sl 1 [vint v, vbool d, vbool tt] .exact, .sl (j + 1) (C8 ++ [.sl 1 [vint y] .no]) tok3] 84) a12
  replace hapk2 := Hid.mk hapk2
  replace hap32 := Hid.mk hap32
  have f0 : ¬ 0 = m.next + 15 := by omega
  have f1 : ¬ 1 = m.next + 15 := by omega
  have f15 : ¬ 6 = m.next + 15 := by omega
  clear hm0 hm1 hm15 hm2 hm12 hf3 hq3 old hap3 hapk hm2n hmnn hx hn3
  repeat' (with_reducible first | refine x_ops ?_ | refine wk ?_ | ((first | refine gd1 ?_ ?_ | refine gd2 ?_ ?_ | refine gd3 ?_ ?_) <;> (first | exact @False.elim _ | intro hc)))
  refine nx hlt20.out ⟨vv, ⟨?_, ?_, ?_, ?_, by show m.next + 17 ≤ m1.next + 8; have := hn10.out; omega⟩, ?_, tok3, ?_, ?_⟩
  · simp only [put_obj]; rw [if_neg f0]; exact a0
  · simp only [put_obj]; rw [if_neg f1]; exact a1
  · simp only [put_obj]; rw [if_neg f15]; exact a15
  · simp only [put_obj]; rw [if_neg (by omega)]; exact a2
  · exact hapk2.out.mono (fun _ _ _ => rfl) (by show m3.next ≤ m1.next + 8; omega)
  · rw [hC9.out, hces.out]
    first
      | exact vv
      | exact if_pos rfl
      | rfl
  · exact hap32.out.mono (fun _ _ _ => rfl) (by show m3.next ≤ m1.next + 8; omega)
end Go.Proofs.YtdefefeifcdogaaGreat
namespace Go.Proofs.YtdefefeifcdogaaGreat
open Go.RowKit
set_option linter.unusedSimpArgs false
set_option linter.unusedVariables false

theorem lfO_sm {p : Pce} (ok : PcOk p) : LfSm (lfO p) := by
  refine ⟨by rw [colsO_len]; have := ok.n; omega, fun i hi => ?_⟩
  rw [colsO_len] at hi
  have h2 : i < (plnP p).es.length := by rw [plnP, plnE_len]; exact hi
  have e : (lfO p).cols.getD i default = clmO p.ins.cs.length ((plnP p).es.getD i default) := by
    rw [List.getD_eq_getElem?_getD, lfO, List.getElem?_map, List.getD_eq_getElem?_getD, List.getElem?_eq_getElem h2]; rfl
  rw [e, clmO_ce]
  have hc := ok.c
  refine ⟨by show 1 ≤ _; omega, by show (celO _ _).length ≤ _; rw [celO_len]; omega, fun j hj => ?_⟩
  have hj' : j < p.ins.cs.length := by
    have h3 : j < (celO ((plnP p).es.getD i default).ss p.ins.cs.length).length := hj
    rwa [celO_len] at h3
  show ((celO _ p.ins.cs.length).getD j []).length ≤ _
  rw [celO, List.getD_eq_getElem?_getD, List.getElem?_map, List.getElem?_range hj']
  show 1 ≤ _
  omega
end Go.Proofs.YtdefefeifcdogaaGreat
namespace Go.Proofs.YtdefefeifcdogaaGreat
open Go.RowKit
set_option linter.unusedSimpArgs false
set_option linter.unusedVariables false

theorem isameI_fn (x y : Ins) (hx1 : x.cs.length ≤ 17592186044416) (hx2 : x.st.length ≤ 17592186044416) : Fn Tryz.prog Gd 98 [x.val, y.val] (vbool (decide (x = y))) := by
  refine Fn.of_vx0 k_instrument_Same (by simp) (by rw [V.pures, pure_ins, V.pures, pure_ins]; rfl) ?_
  unfold c_instrument_Same
  by_cases h1 : x.cs.length = y.cs.length
  case neg =>
    have c1 : ((x.cs.length : Int) == (y.cs.length : Int)) = false := by rw [beq_eq_false_iff_ne]; omega
    rw [decide_eq_false fun e => h1 (by rw [e])]
    clear h1
    repeat' (with_reducible first | refine x_ops ?_ | refine wk ?_ | ((first | refine gd1 ?_ ?_ | refine gd2 ?_ ?_ | refine gd3 ?_ ?_) <;> (first | exact @False.elim _ | intro hc)))
    exact finV_lit vv rfl
  have c1 : ((x.cs.length : Int) == (y.cs.length : Int)) = true := by rw [beq_iff_eq]; omega
  by_cases h2 : x.st.length = y.st.length
  case neg =>
    have c2 : ((x.st.length : Int) == (y.st.length : Int)) = false := by rw [beq_eq_false_iff_ne]; omega
    rw [decide_eq_false fun e => h2 (by rw [e])]
    clear h1 h2
    repeat' (with_reducible first | refine x_ops ?_ | refine wk ?_ | ((first | refine gd1 ?_ ?_ | refine gd2 ?_ ?_ | refine gd3 ?_ ?_) <;> (first | exact @False.elim _ | intro hc)))
    exact finV_lit vv rfl
  have c2 : ((x.st.length : Int) == (y.st.length : Int)) = true := by rw [beq_iff_eq]; omega
  have hy1 := Hid.mk h1
  have hy2 := Hid.mk h2
  have hdec : decide (x = y) = true ↔ x = y := decide_eq_true_iff
  replace hdec := Hid.mk hdec
  clear h1 h2
  repeat' (with_reducible first | refine x_ops ?_ | refine wk ?_ | ((first | refine gd1 ?_ ?_ | refine gd2 ?_ ?_ | refine gd3 ?_ ?_) <;> (first | exact @False.elim _ | intro hc)))
  clear c1 c2
  refine x_loopF w_instrument_Same_p6 kr x.cs.length (fun k t => t 26 = vint k ∧ ∀ i, i < k → x.cs.getD i default = y.cs.getD i default) ?_ ?_
  · exact ⟨vv, fun i h => by omega⟩
  rintro k t hk ⟨h26, hI⟩
  replace hI := Hid.mk hI
  by_cases hlt : k < x.cs.length
  case pos =>
    have g1 := crs_take (l := x.cs) (k := k) hlt
    have g2 := crs_take (l := y.cs) (k := k) (by have := hy1.out; omega)
    have hL1 := crss_len x.cs
    have hL2 := crss_len y.cs
    have c1 : (k : Int) < (x.cs.length : Int) := by omega
    have c2 : (k : Int) < (y.cs.length : Int) := by have := hy1.out; omega
    have c3 : k * 3 + 3 ≤ x.cs.length * 3 := by omega
    have c4 : k * 3 + 3 ≤ y.cs.length * 3 := by have := hy1.out; omega
    have w1 := w_add1 (k := k) (by omega)
    have hlt0 := Hid.mk hlt
    have hne : x.cs.getD k default ≠ y.cs.getD k default → x ≠ y := fun h e => h (by rw [e])
    replace hne := Hid.mk hne
    generalize ha : x.cs.getD k default = a at *
    generalize hb : y.cs.getD k default = b at *
    replace ha := Hid.mk ha
    replace hb := Hid.mk hb
    obtain ⟨a1, a2, a3⟩ := a
    obtain ⟨b1, b2, b3⟩ := b
    clear hlt hk
    by_cases e1 : a1 = b1
    case neg =>
      have d1 : (a1 == b1) = false := by rw [beq_eq_false_iff_ne]; exact e1
      rw [decide_eq_false (hne.out fun e => e1 (by injection e))]
      clear e1
      repeat' (with_reducible first | refine x_ops ?_ | simp only [go_sem, Nat.reduceAdd, Nat.reduceEqDiff, Nat.reduceLT, Nat.reduceLeDiff, Nat.reduceMul, Nat.reduceSub, Nat.reducePow, Nat.reduceDiv, Nat.reduceMod, Nat.reduceBEq, Int.reduceBEq, Int.reduceLT, reduceIte, tIs, tBs, tPs, Bool.false_and, *] | ((first | refine gd1 ?_ ?_ | refine gd2 ?_ ?_ | refine gd3 ?_ ?_) <;> (first | exact @False.elim _ | intro hc)))
      exact finV_lit vv rfl
    by_cases e2 : a2 = b2
    case neg =>
      have d1 : (a1 == b1) = true := by rw [beq_iff_eq]; exact e1
      have d2 : (a2 == b2) = false := by rw [beq_eq_false_iff_ne]; exact e2
      rw [decide_eq_false (hne.out fun e => e2 (by injection e))]
      clear e1 e2
      repeat' (with_reducible first | refine x_ops ?_ | simp only [go_sem, Nat.reduceAdd, Nat.reduceEqDiff, Nat.reduceLT, Nat.reduceLeDiff, Nat.reduceMul, Nat.reduceSub, Nat.reducePow, Nat.reduceDiv, Nat.reduceMod, Nat.reduceBEq, Int.reduceBEq, Int.reduceLT, reduceIte, tIs, tBs, tPs, Bool.false_and, Bool.true_and, *] | ((first | refine gd1 ?_ ?_ | refine gd2 ?_ ?_ | refine gd3 ?_ ?_) <;> (first | exact @False.elim _ | intro hc)))
      exact finV_lit vv rfl
    by_cases e3 : a3 = b3
    case neg =>
      have d1 : (a1 == b1) = true := by rw [beq_iff_eq]; exact e1
      have d2 : (a2 == b2) = true := by rw [beq_iff_eq]; exact e2
      have d3 : (a3 == b3) = false := by rw [beq_eq_false_iff_ne]; exact e3
      rw [decide_eq_false (hne.out fun e => e3 (by injection e))]
      clear e1 e2 e3
      repeat' (with_reducible first | refine x_ops ?_ | simp only [go_sem, Nat.reduceAdd, Nat.reduceEqDiff, Nat.reduceLT, Nat.reduceLeDiff, Nat.reduceMul, Nat.reduceSub, Nat.reducePow, Nat.reduceDiv, Nat.reduceMod, Nat.reduceBEq, Int.reduceBEq, Int.reduceLT, reduceIte, tIs, tBs, tPs, Bool.false_and, Bool.true_and, *] | ((first | refine gd1 ?_ ?_ | refine gd2 ?_ ?_ | refine gd3 ?_ ?_) <;> (first | exact @False.elim _ | intro hc)))
      exact finV_lit vv rfl
    subst e1 e2 e3
    repeat' (with_reducible first | refine x_ops ?_ | simp only [go_sem, Nat.reduceAdd, Nat.reduceEqDiff, Nat.reduceLT, Nat.reduceLeDiff, Nat.reduceMul, Nat.reduceSub, Nat.reducePow, Nat.reduceDiv, Nat.reduceMod, Nat.reduceBEq, Int.reduceBEq, Int.reduceLT, reduceIte, tIs, tBs, tPs, Bool.true_and, *] | ((first | refine gd1 ?_ ?_ | refine gd2 ?_ ?_ | refine gd3 ?_ ?_) <;> (first | exact @False.elim _ | intro hc)))
    refine nf hlt0.out ⟨vv, fun i hi => ?_⟩ rfl
    by_cases e : i = k
    · subst e; rw [ha.out, hb.out]
    · exact hI.out i (by omega)
  have c1 : ¬ ((k : Int) < (x.cs.length : Int)) := by omega
  have hcs : x.cs = y.cs := lst_eq hy1.out fun i hi => hI.out i (by omega)
  replace hcs := Hid.mk hcs
  clear hlt hk hI
  repeat' (with_reducible first | refine x_ops ?_ | refine wk ?_ | ((first | refine gd1 ?_ ?_ | refine gd2 ?_ ?_ | refine gd3 ?_ ?_) <;> (first | exact @False.elim _ | intro hc)))
  clear c1
  refine x_loopF w_instrument_Same_p13 kr x.st.length (fun k t => t 44 = vint k ∧ ∀ i, i < k → x.st.getD i default = y.st.getD i default) ?_ ?_
  · exact ⟨vv, fun i h => by omega⟩
  rintro k t hk ⟨h44, hI⟩
  replace hI := Hid.mk hI
  by_cases hlt : k < x.st.length
  case pos =>
    have g1 := ints_at (l := x.st) (k := k) hlt
    have g2 := ints_at (l := y.st) (k := k) (by have := hy2.out; omega)
    have c1 : (k : Int) < (x.st.length : Int) := by omega
    have c2 : (k : Int) < (y.st.length : Int) := by have := hy2.out; omega
    have w1 := w_add1 (k := k) (by omega)
    have hlt0 := Hid.mk hlt
    clear hlt hk
    by_cases e1 : x.st.getD k 0 = y.st.getD k 0
    case neg =>
      have d1 : (x.st.getD k 0 == y.st.getD k 0) = false := by rw [beq_eq_false_iff_ne]; exact e1
      rw [decide_eq_false fun e => e1 (by rw [e])]
      clear e1
      repeat' (with_reducible first | refine x_ops ?_ | refine wk ?_ | ((first | refine gd1 ?_ ?_ | refine gd2 ?_ ?_ | refine gd3 ?_ ?_) <;> (first | exact @False.elim _ | intro hc)))
      exact finV_lit vv rfl
    have d1 : (x.st.getD k 0 == y.st.getD k 0) = true := by rw [beq_iff_eq]; exact e1
    have e10 := Hid.mk e1
    clear e1
    repeat' (with_reducible first | refine x_ops ?_ | refine wk ?_ | ((first | refine gd1 ?_ ?_ | refine gd2 ?_ ?_ | refine gd3 ?_ ?_) <;> (first | exact @False.elim _ | intro hc)))
    refine nf hlt0.out ⟨vv, fun i hi => ?_⟩ rfl
    by_cases e : i = k
    · subst e; exact e10.out
    · exact hI.out i (by omega)
  have c1 : ¬ ((k : Int) < (x.st.length : Int)) := by omega
  have hst : x.st = y.st := lst_eq hy2.out fun i hi => hI.out i (by omega)
  have hxy : x = y := by
    obtain ⟨a, b⟩ := x; obtain ⟨a', b'⟩ := y
    have h1 := hcs.out
    dsimp only at h1 hst
    rw [h1, hst]
  rw [decide_eq_true hxy]
  clear hlt hk hI hst hxy
  repeat' (with_reducible first | refine x_ops ?_ | refine wk ?_ | ((first | refine gd1 ?_ ?_ | refine gd2 ?_ ?_ | refine gd3 ?_ ?_) <;> (first | exact @False.elim _ | intro hc)))
  exact finV_lit vv rfl
def shpC (x y : Clm) : Bool := (x.bar == y.bar) && (x.tie == y.tie)
def eqC (p : Clm → Clm → Bool) (a b : List Clm) : Bool := decide (a.length = b.length) && allB a.length fun i => p (a.getD i default) (b.getD i default)
def shpB (f g : Lf) : Bool := decide (f.ins = g.ins) && eqC shpC f.cols g.cols
def insC (x y : Clm) : Bool := subS x.sgs y.sgs && allB x.ce.length fun j => subI (x.ce.getD j []) (y.ce.getD j [])
def insB (f g : Lf) : Bool := allB f.cols.length fun i => insC (f.cols.getD i default) (g.cols.getD i default)
theorem eqC_len {p : Clm → Clm → Bool} {a b : List Clm} (h : a.length ≠ b.length) : eqC p a b = false := by rw [eqC, decide_eq_false h, Bool.false_and]
theorem eqC_bad {p : Clm → Clm → Bool} {a b : List Clm} {k : Nat} (hk : k < a.length) (h : p (a.getD k default) (b.getD k default) = false) : eqC p a b = false := by rw [eqC, allB_false hk h, Bool.and_false]
theorem eqC_all {p : Clm → Clm → Bool} {a b : List Clm} (h : a.length = b.length) (hI : ∀ i, i < a.length → p (a.getD i default) (b.getD i default) = true) : eqC p a b = true := by rw [eqC, decide_eq_true h, allB_true hI]; rfl
theorem equalC_fn (a b : List Clm) (p : Clm → Clm → Bool) {f : FuncId} {cs : List V} (hc : callable Tryz.prog f = true) (hp : V.pures cs = true) (hn : V.norms cs = cs) (hf : ∀ x y : Clm, Fn Tryz.prog Gd f (.agg x.cells :: .agg y.cells :: cs) (vbool (p x y))) (hl : a.length ≤ 17592186044416) :
    Fn Tryz.prog Gd 166 [tL Clm.cells a, tL Clm.cells b, .fn f cs] (vbool (eqC p a b)) := by
  refine Fn.of_vx0 k_slices_EqualFunc_api_Column_api_Column_api_Column_api_Column (by simp) (by rw [V.pures, pure_tL, V.pures, pure_tL, V.pures, V.pure, hp]; rfl) ?_
  unfold c_slices_EqualFunc_api_Column_api_Column_api_Column_api_Column
  replace hc := Hid.mk hc
  replace hp := Hid.mk hp
  replace hf := Hid.mk hf
  by_cases h1 : a.length = b.length
  case neg =>
    have c1 : ((a.length : Int) == (b.length : Int)) = false := by rw [beq_eq_false_iff_ne]; omega
    rw [eqC_len h1]
    clear h1
    repeat' (with_reducible first | refine x_ops ?_ | refine wk ?_ | ((first | refine gd1 ?_ ?_ | refine gd2 ?_ ?_ | refine gd3 ?_ ?_) <;> (first | exact @False.elim _ | intro hc)))
    exact finV_lit vv rfl
  have c1 : ((a.length : Int) == (b.length : Int)) = true := by rw [beq_iff_eq]; omega
  have h10 := Hid.mk h1
  clear h1
  repeat' (with_reducible first | refine x_ops ?_ | refine wk ?_ | ((first | refine gd1 ?_ ?_ | refine gd2 ?_ ?_ | refine gd3 ?_ ?_) <;> (first | exact @False.elim _ | intro hc)))
  clear c1
  refine x_loopW w_slices_EqualFunc_api_Column_api_Column_api_Column_api_Column_p10 kr a.length (fun k t m => t 17 = vint k ∧ ∀ i, i < k → p (a.getD i default) (b.getD i default) = true) ?_ ?_
  · exact ⟨vv, fun i h => by omega⟩
  rintro k t m hk ⟨h17, hI⟩
  replace hI := Hid.mk hI
  by_cases hlt : k < a.length
  · have g1 := clm_take (l := a) (k := k) hlt
    have g2 := clms_len a
    have g3 := clm_take (l := b) (k := k) (by have := h10.out; omega)
    have g4 := clms_len b
    have c2 : (k : Int) < (a.length : Int) := by omega
    have c3 : k * 4 + 4 ≤ a.length * 4 := by omega
    have c4 : (k : Int) < (b.length : Int) := by have := h10.out; omega
    have c5 : k * 4 + 4 ≤ b.length * 4 := by have := h10.out; omega
    have w2 := w_add1 (k := k) (by omega)
    have hx := hf.out (a.getD k default) (b.getD k default)
    have hlt0 := Hid.mk hlt
    cases hb : p (a.getD k default) (b.getD k default)
    · rw [hb] at hx
      rw [eqC_bad hlt hb]
      clear hlt hk hb
      repeat' (with_reducible first | refine x_ops ?_ | refine wk ?_ | (with_reducible refine xcv hx hc.out ?_) | ((first | refine gd1 ?_ ?_ | refine gd2 ?_ ?_ | refine gd3 ?_ ?_) <;> (first | exact @False.elim _ | intro hc)))
      exact finV_lit vv rfl
    · rw [hb] at hx
      replace hb := Hid.mk hb
      clear hlt hk
      repeat' (with_reducible first | refine x_ops ?_ | refine wk ?_ | (with_reducible refine xcv hx hc.out ?_) | ((first | refine gd1 ?_ ?_ | refine gd2 ?_ ?_ | refine gd3 ?_ ?_) <;> (first | exact @False.elim _ | intro hc)))
      refine nx hlt0.out ⟨vv, fun i h => ?_⟩
      by_cases hi : i = k
      · subst hi; exact hb.out
      · exact hI.out i (by omega)
  · have c2 : ¬ ((k : Int) < (a.length : Int)) := by omega
    rw [eqC_all h10.out fun i hi => hI.out i (by omega)]
    clear hlt hk
    repeat' (with_reducible first | refine x_ops ?_ | refine wk ?_ | ((first | refine gd1 ?_ ?_ | refine gd2 ?_ ?_ | refine gd3 ?_ ?_) <;> (first | exact @False.elim _ | intro hc)))
    exact finV_lit vv rfl
theorem shaped1_fn (x y : Clm) : Fn Tryz.prog Gd 167 [.agg x.cells, .agg y.cells] (vbool (shpC x y)) := by
  refine Fn.of_vx0 k_leaf_shaped_1 (by simp) (by rw [show V.agg x.cells = x.val from rfl, show V.agg y.cells = y.val from rfl, V.pures, pure_clm, V.pures, pure_clm]; rfl) ?_
  unfold c_leaf_shaped_1
  rw [shpC]
  obtain ⟨b, ti, sgs, ce⟩ := x
  obtain ⟨b', ti', sgs', ce'⟩ := y
  cases hq : (b == b') with
  | false =>
    repeat' (with_reducible first | refine x_ops ?_ | simp only [go_sem, Nat.reduceAdd, Nat.reduceEqDiff, Nat.reduceLT, Nat.reduceLeDiff, Nat.reduceMul, Nat.reduceSub, Nat.reducePow, Nat.reduceDiv, Nat.reduceMod, Nat.reduceBEq, Int.reduceBEq, Int.reduceLT, reduceIte, tIs, tBs, tPs, Bool.false_and, *] | ((first | refine gd1 ?_ ?_ | refine gd2 ?_ ?_ | refine gd3 ?_ ?_) <;> (first | exact @False.elim _ | intro hc)))
    exact finV_lit vv rfl
  | true =>
    cases hq2 : (ti == ti') with
    | false =>
      repeat' (with_reducible first | refine x_ops ?_ | simp only [go_sem, Nat.reduceAdd, Nat.reduceEqDiff, Nat.reduceLT, Nat.reduceLeDiff, Nat.reduceMul, Nat.reduceSub, Nat.reducePow, Nat.reduceDiv, Nat.reduceMod, Nat.reduceBEq, Int.reduceBEq, Int.reduceLT, reduceIte, tIs, tBs, tPs, Bool.true_and, *] | ((first | refine gd1 ?_ ?_ | refine gd2 ?_ ?_ | refine gd3 ?_ ?_) <;> (first | exact @False.elim _ | intro hc)))
      exact finV_lit vv rfl
    | true =>
      repeat' (with_reducible first | refine x_ops ?_ | simp only [go_sem, Nat.reduceAdd, Nat.reduceEqDiff, Nat.reduceLT, Nat.reduceLeDiff, Nat.reduceMul, Nat.reduceSub, Nat.reducePow, Nat.reduceDiv, Nat.reduceMod, Nat.reduceBEq, Int.reduceBEq, Int.reduceLT, reduceIte, tIs, tBs, tPs, Bool.true_and, *] | ((first | refine gd1 ?_ ?_ | refine gd2 ?_ ?_ | refine gd3 ?_ ?_) <;> (first | exact @False.elim _ | intro hc)))
      exact finV_lit vv rfl
theorem shaped_fn (f g : Lf) (h1 : f.ins.cs.length ≤ 17592186044416) (h2 : f.ins.st.length ≤ 17592186044416) (h3 : f.cols.length ≤ 17592186044416) : Fn Tryz.prog Gd 95 [f.val, g.val] (vbool (shpB f g)) := by
  refine Fn.of_vx0 k_leaf_shaped (by simp) (by rw [V.pures, pure_lf, V.pures, pure_lf]; rfl) ?_
  have I := isameI_fn f.ins g.ins h1 h2
  have E := equalC_fn f.cols g.cols shpC (f := 167) (cs := []) kr rfl rfl (fun x y => shaped1_fn x y) h3
  rw [shpB]
  generalize eqC shpC f.cols g.cols = e at *
  generalize decide (f.ins = g.ins) = d at *
  clear h1 h2 h3
  obtain ⟨⟨fc, fst⟩, fl⟩ := f
  obtain ⟨⟨gc, gst⟩, gl⟩ := g
  unfold c_leaf_shaped
  cases d with
  | false =>
    repeat' (with_reducible first | refine x_ops ?_ | refine wk ?_ | (with_reducible refine xc (I) ?_) | (with_reducible refine xc (E) ?_) | ((first | refine gd1 ?_ ?_ | refine gd2 ?_ ?_ | refine gd3 ?_ ?_) <;> (first | exact @False.elim _ | intro hc)))
    exact finV_lit vv rfl
  | true =>
    rw [Bool.true_and]
    repeat' (with_reducible first | refine x_ops ?_ | refine wk ?_ | (with_reducible refine xc (I) ?_) | (with_reducible refine xc (E) ?_) | ((first | refine gd1 ?_ ?_ | refine gd2 ?_ ?_ | refine gd3 ?_ ?_) <;> (first | exact @False.elim _ | intro hc)))
    exact finV_lit vv rfl
end Go.Proofs.YtdefefeifcdogaaGreat
namespace Go.Proofs.YtdefefeifcdogaaGreat
open Go.RowKit
set_option linter.unusedSimpArgs false
set_option linter.unusedVariables false

theorem insB_bad {f g : Lf} {k : Nat} (hk : k < f.cols.length) (h : insC (f.cols.getD k default) (g.cols.getD k default) = false) : insB f g = false := by rw [insB, allB_false hk h]
theorem insB_all {f g : Lf} (hI : ∀ i, i < f.cols.length → insC (f.cols.getD i default) (g.cols.getD i default) = true) : insB f g = true := by rw [insB, allB_true hI]
theorem insC_sg {x y : Clm} (h : subS x.sgs y.sgs = false) : insC x y = false := by rw [insC, h, Bool.false_and]
theorem insC_ce {x y : Clm} {j : Nat} (hj : j < x.ce.length) (h : subI (x.ce.getD j []) (y.ce.getD j []) = false) : insC x y = false := by rw [insC, allB_false hj h, Bool.and_false]
theorem insC_all {x y : Clm} (h : subS x.sgs y.sgs = true) (hI : ∀ j, j < x.ce.length → subI (x.ce.getD j []) (y.ce.getD j []) = true) : insC x y = true := by rw [insC, h, allB_true hI]; rfl
/-- What the comparison of two leaves needs. -/
structure TwoSm (f g : Lf) : Prop where
  a : LfSm f
  b : LfSm g
  n : f.cols.length ≤ g.cols.length
  c : ∀ i, i < f.cols.length → (f.cols.getD i default).ce.length ≤ (g.cols.getD i default).ce.length
set_option maxHeartbeats 1000000 in
theorem inside_fn (f g : Lf) (hs : TwoSm f g) : Fn Tryz.prog Gd 88 [f.val, g.val] (vbool (insB f g)) := by
  refine Fn.of_vx0 k_leaf_inside (by simp) (by rw [V.pures, pure_lf, V.pures, pure_lf]; rfl) ?_
  unfold c_leaf_inside
  have hs0 := Hid.mk hs
  have hn := hs.a.n
  clear hs
  repeat' (with_reducible first | refine x_ops ?_ | refine wk ?_ | ((first | refine gd1 ?_ ?_ | refine gd2 ?_ ?_ | refine gd3 ?_ ?_) <;> (first | exact @False.elim _ | intro hc)))
  refine x_loopW w_leaf_inside_p12 kr f.cols.length (fun k t m => t 12 = vint k ∧ (∀ i, i < k → insC (f.cols.getD i default) (g.cols.getD i default) = true) ∧ (m.obj 1 = some (.box [.sl g.ins.cs.length (g.ins.cs.flatMap Crs.cells) .no, .sl g.ins.st.length (g.ins.st.map vint) .no, .sl g.cols.length (g.cols.flatMap Clm.cells) .no] 28) ∧ 1 < m.next)) ?_ ?_
  · exact ⟨vv, fun i h => by omega, vv, by show 1 < 3; omega⟩
  rintro k t m hk ⟨h12, hI, hm1, hmn⟩
  replace hI := Hid.mk hI
  by_cases hlt : k < f.cols.length
  case neg =>
    have c1 : ¬ (k : Int) < (f.cols.length : Int) := by omega
    rw [insB_all fun i hi => hI.out i (by omega)]
    clear hlt hk
    repeat' (with_reducible first | refine x_ops ?_ | refine wk ?_ | ((first | refine gd1 ?_ ?_ | refine gd2 ?_ ?_ | refine gd3 ?_ ?_) <;> (first | exact @False.elim _ | intro hc)))
    exact finV_lit vv rfl
  have hkg : k < g.cols.length := by have := hs0.out.n; omega
  have g1 := clm_take (l := f.cols) (k := k) hlt
  have g2 := clms_len f.cols
  have g3 := clm_take (l := g.cols) (k := k) hkg
  have g4 := clms_len g.cols
  have q2 := clm_at2 (l := g.cols) (k := k) hkg
  have q3 := clm_at3 (l := g.cols) (k := k) hkg
  have c1 : (k : Int) < (f.cols.length : Int) := by omega
  have c2 : (k : Int) < (g.cols.length : Int) := by omega
  have c3 : k * 4 + 4 ≤ f.cols.length * 4 := by omega
  have c4 : k * 4 + 4 ≤ g.cols.length * 4 := by omega
  have w1 := w_add1 (k := k) (by omega)
  have n1 : 1 < m.next + 6 := by omega
  have hcx := hs0.out.a.c k hlt
  have hcy := hs0.out.b.c k hkg
  have hle := hs0.out.c k hlt
  have hbad : insC (f.cols.getD k default) (g.cols.getD k default) = false → insB f g = false := insB_bad hlt
  have hgood : insC (f.cols.getD k default) (g.cols.getD k default) = true → ∀ i, i < k + 1 → insC (f.cols.getD i default) (g.cols.getD i default) = true := fun h i hi => by
    by_cases e : i = k
    · subst e; exact h
    · exact hI.out i (by omega)
  have hlt0 := Hid.mk hlt
  have hmn0 := Hid.mk hmn
  generalize f.cols.getD k default = x at *
  generalize g.cols.getD k default = y at *
  obtain ⟨xb, xt, xs, xe⟩ := x
  obtain ⟨yb, yt, ys, ye⟩ := y
  have S := subS_fn xs ys hcx.ls hcy.ls
  rw [tL, tL] at S
  have hlc : xe.length ≤ 17592186044416 := hcx.lc
  have hle1 : xe.length ≤ ye.length := hle
  have hx1 : ∀ i, i < xe.length → (xe.getD i []).length ≤ 17592186044416 := hcx.le
  have hy1 : ∀ i, i < ye.length → (ye.getD i []).length ≤ 17592186044416 := hcy.le
  replace hlc := Hid.mk hlc
  replace hle := Hid.mk hle1
  replace hx1 := Hid.mk hx1
  replace hy1 := Hid.mk hy1
  replace hbad := Hid.mk hbad
  replace hgood := Hid.mk hgood
  clear hlt hk hcx hcy hkg hle1
  have hm10 := Hid.mk hm1
  cases hq : subS xs ys with
  | false =>
    rw [hq] at S
    rw [hbad.out (insC_sg hq)]
    clear hq
    repeat' (with_reducible first | refine x_ops ?_ | refine wk ?_ | (with_reducible refine xc (S) ?_) | ((first | refine gd1 ?_ ?_ | refine gd2 ?_ ?_ | refine gd3 ?_ ?_) <;> (first | exact @False.elim _ | intro hc)))
    exact finV_lit vv rfl
  | true =>
  rw [hq] at S
  replace hq := Hid.mk hq
  repeat' (with_reducible first | refine x_ops ?_ | refine wk ?_ | (with_reducible refine xc (S) ?_) | ((first | refine gd1 ?_ ?_ | refine gd2 ?_ ?_ | refine gd3 ?_ ?_) <;> (first | exact @False.elim _ | intro hc)))
  clear g1 g2 c3 S
  refine x_loopF w_leaf_inside_p6 kr xe.length (fun j t => t 30 = vint j ∧ ∀ i, i < j → subI (xe.getD i []) (ye.getD i []) = true) ?_ ?_
  · exact ⟨vv, fun i h => by omega⟩
  rintro j t1 hj ⟨h30, hJ⟩
  replace hJ := Hid.mk hJ
  by_cases hlt2 : j < xe.length
  · have g5 := iss_at (l := xe) (k := j) hlt2
    have g6 := iss_at (l := ye) (k := j) (by have := hle.out; omega)
    have d1 : (j : Int) < (xe.length : Int) := by omega
    have d2 : (j : Int) < (ye.length : Int) := by have := hle.out; omega
    have w2 := w_add1 (k := j) (by have := hlc.out; omega)
    have SI := subI_fn (xe.getD j []) (ye.getD j []) (hx1.out j hlt2) (hy1.out j (by have := hle.out; omega))
    have hlt20 := Hid.mk hlt2
    cases hr : subI (xe.getD j []) (ye.getD j []) with
    | false =>
      rw [hr] at SI
      rw [hbad.out (insC_ce (x := ⟨xb, xt, xs, xe⟩) (y := ⟨yb, yt, ys, ye⟩) hlt2 hr)]
      clear hr hlt2 hj
      repeat' (with_reducible first | refine x_ops ?_ | refine wk ?_ | (with_reducible refine xc (SI) ?_) | ((first | refine gd1 ?_ ?_ | refine gd2 ?_ ?_ | refine gd3 ?_ ?_) <;> (first | exact @False.elim _ | intro hc)))
      exact finV_lit vv rfl
    | true =>
      rw [hr] at SI
      replace hr := Hid.mk hr
      clear hlt2 hj
      repeat' (with_reducible first | refine x_ops ?_ | refine wk ?_ | (with_reducible refine xc (SI) ?_) | ((first | refine gd1 ?_ ?_ | refine gd2 ?_ ?_ | refine gd3 ?_ ?_) <;> (first | exact @False.elim _ | intro hc)))
      refine nf hlt20.out ⟨vv, fun i hi => ?_⟩ rfl
      by_cases e : i = j
      · subst e; exact hr.out
      · exact hJ.out i (by omega)
  have d1 : ¬ (j : Int) < (xe.length : Int) := by omega
  have hall : insC ⟨xb, xt, xs, xe⟩ ⟨yb, yt, ys, ye⟩ = true := insC_all hq.out fun i (hi : i < xe.length) => hJ.out i (by omega)
  replace hall := Hid.mk hall
  clear hlt2 hj
  repeat' (with_reducible first | refine x_ops ?_ | refine wk ?_ | ((first | refine gd1 ?_ ?_ | refine gd2 ?_ ?_ | refine gd3 ?_ ?_) <;> (first | exact @False.elim _ | intro hc)))
  have hmnn := hmn0.out
  refine nx hlt0.out ⟨vv, hgood.out hall.out, ?_, by show 1 < m.next + 6; omega⟩
  · (simp only [put_obj]; repeat rw [if_neg (by omega)]); exact hm10.out
end Go.Proofs.YtdefefeifcdogaaGreat
namespace Go.Proofs.YtdefefeifcdogaaGreat
open Go.RowKit
set_option linter.unusedSimpArgs false
set_option linter.unusedVariables false

theorem memS_at {l : List Sg} {s : Sg} {k : Nat} (hk : k < l.length) (h : l.getD k default = s) : memS l s = true := by
  rw [memS, List.any_eq_true]; exact ⟨_, getD_mem hk, decide_eq_true h⟩
theorem memS_none {l : List Sg} {s : Sg} (h : ∀ i, i < l.length → l.getD i default ≠ s) : memS l s = false := by
  rw [← Bool.not_eq_true, memS, List.any_eq_true]; rintro ⟨x, hx, e⟩
  obtain ⟨i, hi, rfl⟩ := List.getElem_of_mem hx
  refine h i hi ?_
  rw [List.getD_eq_getElem?_getD, List.getElem?_eq_getElem hi]; exact of_decide_eq_true e
theorem memI_at {l : List Int} {s : Int} {k : Nat} (hk : k < l.length) (h : l.getD k 0 = s) : memI l s = true := by
  rw [memI, List.any_eq_true]; exact ⟨_, getD_mem (l := l) hk, decide_eq_true h⟩
theorem memI_none {l : List Int} {s : Int} (h : ∀ i, i < l.length → l.getD i 0 ≠ s) : memI l s = false := by
  rw [← Bool.not_eq_true, memI, List.any_eq_true]; rintro ⟨x, hx, e⟩
  obtain ⟨i, hi, rfl⟩ := List.getElem_of_mem hx
  refine h i hi ?_
  rw [List.getD_eq_getElem?_getD, List.getElem?_eq_getElem hi]; exact of_decide_eq_true e
theorem subS_iff {a b : List Sg} : subS a b = true ↔ ∀ i, i < a.length → memS b (a.getD i default) = true := by
  rw [subS, Bool.not_eq_true', ← Bool.not_eq_true, List.any_eq_true]
  refine ⟨fun h i hi => ?_, ?_⟩
  · cases e : memS b (a.getD i default) with
    | true => rfl
    | false => exact absurd ⟨_, getD_mem hi, by rw [e]; rfl⟩ h
  · rintro h ⟨x, hx, e⟩
    obtain ⟨i, hi, rfl⟩ := List.getElem_of_mem hx
    have := h i hi
    rw [List.getD_eq_getElem?_getD, List.getElem?_eq_getElem hi] at this
    rw [show memS b a[i] = true from this] at e
    cases e
theorem subI_iff {a b : List Int} : subI a b = true ↔ ∀ i, i < a.length → memI b (a.getD i 0) = true := by
  rw [subI, Bool.not_eq_true', ← Bool.not_eq_true, List.any_eq_true]
  refine ⟨fun h i hi => ?_, ?_⟩
  · cases e : memI b (a.getD i 0) with
    | true => rfl
    | false => exact absurd ⟨_, getD_mem (l := a) hi, by rw [show a.getD i default = a.getD i 0 from rfl, e]; rfl⟩ h
  · rintro h ⟨x, hx, e⟩
    obtain ⟨i, hi, rfl⟩ := List.getElem_of_mem hx
    have := h i hi
    rw [List.getD_eq_getElem?_getD, List.getElem?_eq_getElem hi] at this
    rw [show memI b a[i] = true from this] at e
    cases e
theorem subS_bad {a b : List Sg} {i : Nat} (hi : i < a.length) (h : memS b (a.getD i default) = false) : subS a b = false := by
  rw [← Bool.not_eq_true, subS_iff]; intro g; rw [g i hi] at h; cases h
theorem subI_bad {a b : List Int} {i : Nat} (hi : i < a.length) (h : memI b (a.getD i 0) = false) : subI a b = false := by
  rw [← Bool.not_eq_true, subI_iff]; intro g; rw [g i hi] at h; cases h
theorem rhasSg_fn (l : List Sg) (s : Sg) (hl : l.length ≤ 17592186044416) : Fn Tryz.prog Gd 67 [tL Sg.cells l, s.val] (vbool (memS l s)) := by
  refine Fn.of_vx0 k_theorboref10_hasSign (by simp) (by rw [V.pures, pure_tL, V.pures, pure_sg]; rfl) ?_
  unfold c_theorboref10_hasSign
  obtain ⟨v, d, tt⟩ := s
  repeat' (with_reducible first | refine x_ops ?_ | refine wk ?_ | ((first | refine gd1 ?_ ?_ | refine gd2 ?_ ?_ | refine gd3 ?_ ?_) <;> (first | exact @False.elim _ | intro hc)))
  refine x_loopF w_theorboref10_hasSign_p4 kr l.length (fun k t => t 5 = vint k ∧ ∀ i, i < k → l.getD i default ≠ ⟨v, d, tt⟩) ?_ ?_
  · exact ⟨vv, fun i h => by omega⟩
  rintro k t hk ⟨h5, hI⟩
  by_cases hlt : k < l.length
  case neg =>
    have c1 : ¬ (k : Int) < (l.length : Int) := by omega
    rw [memS_none fun i hi => hI i (by omega)]
    clear hlt hk hI
    repeat' (with_reducible first | refine x_ops ?_ | refine wk ?_ | ((first | refine gd1 ?_ ?_ | refine gd2 ?_ ?_ | refine gd3 ?_ ?_) <;> (first | exact @False.elim _ | intro hc)))
    exact finV_lit vv rfl
  have g1 := sg_take (l := l) (k := k) hlt
  have g2 := sgs_len l
  have c1 : (k : Int) < (l.length : Int) := by omega
  have c3 : k * 3 + 3 ≤ l.length * 3 := by omega
  have w1 := w_add1 (k := k) (by omega)
  have hlt0 := Hid.mk hlt
  have hI2 : l.getD k default ≠ ⟨v, d, tt⟩ → ∀ i, i < k + 1 → l.getD i default ≠ ⟨v, d, tt⟩ := fun h i hi => by
    by_cases e : i = k
    · subst e; exact h
    · exact hI i (by omega)
  have hhit : l.getD k default = ⟨v, d, tt⟩ → memS l ⟨v, d, tt⟩ = true := fun h => memS_at hlt h
  replace hI2 := Hid.mk hI2
  replace hhit := Hid.mk hhit
  clear hlt hk hI
  generalize l.getD k default = x at *
  obtain ⟨v', d', tt'⟩ := x
  by_cases e1 : v' = v
  case neg =>
    have d1 : (v' == v) = false := by rw [beq_eq_false_iff_ne]; exact e1
    have hI3 := hI2.out (fun e => e1 (by injection e))
    replace hI3 := Hid.mk hI3
    clear e1 hI2 hhit
    repeat' (with_reducible first | refine x_ops ?_ | simp only [go_sem, Nat.reduceAdd, Nat.reduceEqDiff, Nat.reduceLT, Nat.reduceLeDiff, Nat.reduceMul, Nat.reduceSub, Nat.reducePow, Nat.reduceDiv, Nat.reduceMod, Nat.reduceBEq, Int.reduceBEq, Int.reduceLT, reduceIte, tIs, tBs, tPs, Bool.false_and, *] | ((first | refine gd1 ?_ ?_ | refine gd2 ?_ ?_ | refine gd3 ?_ ?_) <;> (first | exact @False.elim _ | intro hc)))
    exact nf hlt0.out ⟨vv, hI3.out⟩ rfl
  subst e1
  by_cases e1 : d' = d
  case neg =>
    have d1 : (d' == d) = false := by rw [beq_eq_false_iff_ne]; exact e1
    have hI3 := hI2.out (fun e => e1 (by injection e))
    replace hI3 := Hid.mk hI3
    clear e1 hI2 hhit
    repeat' (with_reducible first | refine x_ops ?_ | simp only [go_sem, Nat.reduceAdd, Nat.reduceEqDiff, Nat.reduceLT, Nat.reduceLeDiff, Nat.reduceMul, Nat.reduceSub, Nat.reducePow, Nat.reduceDiv, Nat.reduceMod, Nat.reduceBEq, Int.reduceBEq, Int.reduceLT, reduceIte, tIs, tBs, tPs, Bool.false_and, Bool.true_and, *] | ((first | refine gd1 ?_ ?_ | refine gd2 ?_ ?_ | refine gd3 ?_ ?_) <;> (first | exact @False.elim _ | intro hc)))
    exact nf hlt0.out ⟨vv, hI3.out⟩ rfl
  subst e1
  by_cases e1 : tt' = tt
  case neg =>
    have d1 : (tt' == tt) = false := by rw [beq_eq_false_iff_ne]; exact e1
    have hI3 := hI2.out (fun e => e1 (by injection e))
    replace hI3 := Hid.mk hI3
    clear e1 hI2 hhit
    repeat' (with_reducible first | refine x_ops ?_ | simp only [go_sem, Nat.reduceAdd, Nat.reduceEqDiff, Nat.reduceLT, Nat.reduceLeDiff, Nat.reduceMul, Nat.reduceSub, Nat.reducePow, Nat.reduceDiv, Nat.reduceMod, Nat.reduceBEq, Int.reduceBEq, Int.reduceLT, reduceIte, tIs, tBs, tPs, Bool.false_and, Bool.true_and, *] | ((first | refine gd1 ?_ ?_ | refine gd2 ?_ ?_ | refine gd3 ?_ ?_) <;> (first | exact @False.elim _ | intro hc)))
    exact nf hlt0.out ⟨vv, hI3.out⟩ rfl
  subst e1
  have hq := hhit.out rfl
  rw [hq]
  clear hI2 hhit hq
  repeat' (with_reducible first | refine x_ops ?_ | simp only [go_sem, Nat.reduceAdd, Nat.reduceEqDiff, Nat.reduceLT, Nat.reduceLeDiff, Nat.reduceMul, Nat.reduceSub, Nat.reducePow, Nat.reduceDiv, Nat.reduceMod, Nat.reduceBEq, Int.reduceBEq, Int.reduceLT, reduceIte, tIs, tBs, tPs, Bool.true_and, *] | ((first | refine gd1 ?_ ?_ | refine gd2 ?_ ?_ | refine gd3 ?_ ?_) <;> (first | exact @False.elim _ | intro hc)))
  exact finV_lit vv rfl
theorem rhasIn_fn (l : List Int) (n : Int) (hl : l.length ≤ 17592186044416) : Fn Tryz.prog Gd 68 [tIs l, vint n] (vbool (memI l n)) := by
  refine Fn.of_vx0 k_theorboref10_hasInt (by simp) (by rw [V.pures, pure_tIs, V.pures, vint, V.pure]; rfl) ?_
  unfold c_theorboref10_hasInt
  repeat' (with_reducible first | refine x_ops ?_ | refine wk ?_ | ((first | refine gd1 ?_ ?_ | refine gd2 ?_ ?_ | refine gd3 ?_ ?_) <;> (first | exact @False.elim _ | intro hc)))
  refine x_loopF w_theorboref10_hasInt_p4 kr l.length (fun k t => t 5 = vint k ∧ ∀ i, i < k → l.getD i 0 ≠ n) ?_ ?_
  · exact ⟨vv, fun i h => by omega⟩
  rintro k t hk ⟨h5, hI⟩
  by_cases hlt : k < l.length
  case neg =>
    have c1 : ¬ (k : Int) < (l.length : Int) := by omega
    rw [memI_none fun i hi => hI i (by omega)]
    clear hlt hk hI
    repeat' (with_reducible first | refine x_ops ?_ | refine wk ?_ | ((first | refine gd1 ?_ ?_ | refine gd2 ?_ ?_ | refine gd3 ?_ ?_) <;> (first | exact @False.elim _ | intro hc)))
    exact finV_lit vv rfl
  have g1 := ints_at (l := l) (k := k) hlt
  have c1 : (k : Int) < (l.length : Int) := by omega
  have w1 := w_add1 (k := k) (by omega)
  have hlt0 := Hid.mk hlt
  by_cases e1 : l.getD k 0 = n
  · have hq := memI_at hlt e1
    have d1 : (l.getD k 0 == n) = true := by rw [beq_iff_eq]; exact e1
    rw [hq]
    clear hlt hk hI hq e1
    repeat' (with_reducible first | refine x_ops ?_ | refine wk ?_ | ((first | refine gd1 ?_ ?_ | refine gd2 ?_ ?_ | refine gd3 ?_ ?_) <;> (first | exact @False.elim _ | intro hc)))
    exact finV_lit vv rfl
  · have d1 : (l.getD k 0 == n) = false := by rw [beq_eq_false_iff_ne]; exact e1
    have hI3 : ∀ i, i < k + 1 → l.getD i 0 ≠ n := fun i hi => by
      by_cases e : i = k
      · subst e; exact e1
      · exact hI i (by omega)
    replace hI3 := Hid.mk hI3
    clear hlt hk hI e1
    repeat' (with_reducible first | refine x_ops ?_ | refine wk ?_ | ((first | refine gd1 ?_ ?_ | refine gd2 ?_ ?_ | refine gd3 ?_ ?_) <;> (first | exact @False.elim _ | intro hc)))
    exact nf hlt0.out ⟨vv, hI3.out⟩ rfl
set_option maxHeartbeats 1000000 in
theorem rshape_fn (f g : Lf) (h1 : f.ins.cs.length ≤ 17592186044416) (h2 : f.ins.st.length ≤ 17592186044416) (h3 : f.cols.length ≤ 17592186044416) : Fn Tryz.prog Gd 96 [f.val, g.val] (vbool (shpB f g)) := by
  refine Fn.of_vx0 k_theorboref10_shape (by simp) (by rw [V.pures, pure_lf, V.pures, pure_lf]; rfl) ?_
  have I := rsameI_fn f.ins g.ins h1 h2
  rw [shpB]
  generalize decide (f.ins = g.ins) = d at *
  clear h1 h2
  obtain ⟨⟨fc, fst⟩, fl⟩ := f
  obtain ⟨⟨gc, gst⟩, gl⟩ := g
  replace h3 : fl.length ≤ 17592186044416 := h3
  unfold c_theorboref10_shape
  cases d with
  | false =>
    rw [Bool.false_and]
    repeat' (with_reducible first | refine x_ops ?_ | refine wk ?_ | (with_reducible refine xc (I) ?_) | ((first | refine gd1 ?_ ?_ | refine gd2 ?_ ?_ | refine gd3 ?_ ?_) <;> (first | exact @False.elim _ | intro hc)))
    exact finV_lit vv rfl
  | true =>
  rw [Bool.true_and]
  by_cases hl : fl.length = gl.length
  case neg =>
    have c1 : ((fl.length : Int) == (gl.length : Int)) = false := by rw [beq_eq_false_iff_ne]; omega
    rw [show eqC shpC (Lf.cols ⟨⟨fc, fst⟩, fl⟩) (Lf.cols ⟨⟨gc, gst⟩, gl⟩) = false from eqC_len hl]
    clear hl
    repeat' (with_reducible first | refine x_ops ?_ | refine wk ?_ | (with_reducible refine xc (I) ?_) | ((first | refine gd1 ?_ ?_ | refine gd2 ?_ ?_ | refine gd3 ?_ ?_) <;> (first | exact @False.elim _ | intro hc)))
    exact finV_lit vv rfl
  have c1 : ((fl.length : Int) == (gl.length : Int)) = true := by rw [beq_iff_eq]; omega
  have hl0 := Hid.mk hl
  rw [show Lf.cols ⟨⟨fc, fst⟩, fl⟩ = fl from rfl, show Lf.cols ⟨⟨gc, gst⟩, gl⟩ = gl from rfl]
  clear hl
  repeat' (with_reducible first | refine x_ops ?_ | refine wk ?_ | (with_reducible refine xc (I) ?_) | ((first | refine gd1 ?_ ?_ | refine gd2 ?_ ?_ | refine gd3 ?_ ?_) <;> (first | exact @False.elim _ | intro hc)))
  clear c1 I
  refine x_loopF w_theorboref10_shape_p5 kr fl.length (fun k t => t 5 = vint k ∧ ∀ i, i < k → shpC (fl.getD i default) (gl.getD i default) = true) ?_ ?_
  · exact ⟨vv, fun i h => by omega⟩
  rintro k t hk ⟨h5, hI⟩
  replace hI := Hid.mk hI
  by_cases hlt : k < fl.length
  case neg =>
    have c1 : ¬ (k : Int) < (fl.length : Int) := by omega
    rw [eqC_all hl0.out fun i hi => hI.out i (by omega)]
    clear hlt hk
    repeat' (with_reducible first | refine x_ops ?_ | refine wk ?_ | ((first | refine gd1 ?_ ?_ | refine gd2 ?_ ?_ | refine gd3 ?_ ?_) <;> (first | exact @False.elim _ | intro hc)))
    exact finV_lit vv rfl
  have hkg : k < gl.length := by have := hl0.out; omega
  have a0 := clm_at0 (l := fl) (k := k) hlt
  have a1 := clm_at1 (l := fl) (k := k) hlt
  have b0 := clm_at0 (l := gl) (k := k) hkg
  have b1 := clm_at1 (l := gl) (k := k) hkg
  have g2 := clms_len fl
  have g4 := clms_len gl
  have c1 : (k : Int) < (fl.length : Int) := by omega
  have c2 : (k : Int) < (gl.length : Int) := by omega
  have c3 : k * 4 + 4 ≤ fl.length * 4 := by omega
  have c4 : k * 4 + 4 ≤ gl.length * 4 := by omega
  have w1 := w_add1 (k := k) (by omega)
  have hbad : shpC (fl.getD k default) (gl.getD k default) = false → eqC shpC fl gl = false := eqC_bad hlt
  have hgood : shpC (fl.getD k default) (gl.getD k default) = true → ∀ i, i < k + 1 → shpC (fl.getD i default) (gl.getD i default) = true := fun h i hi => by
    by_cases e : i = k
    · subst e; exact h
    · exact hI.out i (by omega)
  replace hbad := Hid.mk hbad
  replace hgood := Hid.mk hgood
  have hlt0 := Hid.mk hlt
  generalize fl.getD k default = x at *
  generalize gl.getD k default = y at *
  obtain ⟨b, ti, sgs, ce⟩ := x
  obtain ⟨b', ti', sgs', ce'⟩ := y
  clear hlt hk hkg
  cases hq : (b == b') with
  | false =>
    rw [hbad.out (show ((b == b') && (ti == ti')) = false by rw [hq]; rfl)]
    repeat' (with_reducible first | refine x_ops ?_ | simp only [go_sem, Nat.reduceAdd, Nat.reduceEqDiff, Nat.reduceLT, Nat.reduceLeDiff, Nat.reduceMul, Nat.reduceSub, Nat.reducePow, Nat.reduceDiv, Nat.reduceMod, Nat.reduceBEq, Int.reduceBEq, Int.reduceLT, reduceIte, tIs, tBs, tPs, Bool.false_and, *] | ((first | refine gd1 ?_ ?_ | refine gd2 ?_ ?_ | refine gd3 ?_ ?_) <;> (first | exact @False.elim _ | intro hc)))
    exact finV_lit vv rfl
  | true =>
  cases hq2 : (ti == ti') with
  | false =>
    rw [hbad.out (show ((b == b') && (ti == ti')) = false by rw [hq, hq2]; rfl)]
    repeat' (with_reducible first | refine x_ops ?_ | simp only [go_sem, Nat.reduceAdd, Nat.reduceEqDiff, Nat.reduceLT, Nat.reduceLeDiff, Nat.reduceMul, Nat.reduceSub, Nat.reducePow, Nat.reduceDiv, Nat.reduceMod, Nat.reduceBEq, Int.reduceBEq, Int.reduceLT, reduceIte, tIs, tBs, tPs, Bool.false_and, *] | ((first | refine gd1 ?_ ?_ | refine gd2 ?_ ?_ | refine gd3 ?_ ?_) <;> (first | exact @False.elim _ | intro hc)))
    exact finV_lit vv rfl
  | true =>
    have hg := Hid.mk (hgood.out (show ((b == b') && (ti == ti')) = true by rw [hq, hq2]; rfl))
    repeat' (with_reducible first | refine x_ops ?_ | simp only [go_sem, Nat.reduceAdd, Nat.reduceEqDiff, Nat.reduceLT, Nat.reduceLeDiff, Nat.reduceMul, Nat.reduceSub, Nat.reducePow, Nat.reduceDiv, Nat.reduceMod, Nat.reduceBEq, Int.reduceBEq, Int.reduceLT, reduceIte, tIs, tBs, tPs, Bool.false_and, *] | ((first | refine gd1 ?_ ?_ | refine gd2 ?_ ?_ | refine gd3 ?_ ?_) <;> (first | exact @False.elim _ | intro hc)))
    exact nf hlt0.out ⟨vv, hg.out⟩ rfl
end Go.Proofs.YtdefefeifcdogaaGreat
namespace Go.Proofs.YtdefefeifcdogaaGreat
open Go.RowKit
set_option linter.unusedSimpArgs false
set_option linter.unusedVariables false

set_option maxHeartbeats 2000000 in
theorem rwithin_fn (f g : Lf) (hs : TwoSm f g) : Fn Tryz.prog Gd 97 [f.val, g.val] (vbool (insB f g)) := by
  refine Fn.of_vx0 k_theorboref10_within (by simp) (by rw [V.pures, pure_lf, V.pures, pure_lf]; rfl) ?_
  unfold c_theorboref10_within
  have hs0 := Hid.mk hs
  have hn := hs.a.n
  clear hs
  repeat' (with_reducible first | refine x_ops ?_ | refine wk ?_ | ((first | refine gd1 ?_ ?_ | refine gd2 ?_ ?_ | refine gd3 ?_ ?_) <;> (first | exact @False.elim _ | intro hc)))
  refine x_loopF w_theorboref10_within_p18 kr f.cols.length (fun k t => t 5 = vint k ∧ (∀ i, i < k → insC (f.cols.getD i default) (g.cols.getD i default) = true)) ?_ ?_
  · exact ⟨vv, fun i h => by omega⟩
  rintro k t hk ⟨h5, hI⟩
  replace hI := Hid.mk hI
  by_cases hlt : k < f.cols.length
  case neg =>
    have c1 : ¬ (k : Int) < (f.cols.length : Int) := by omega
    rw [insB_all fun i hi => hI.out i (by omega)]
    clear hlt hk
    repeat' (with_reducible first | refine x_ops ?_ | refine wk ?_ | ((first | refine gd1 ?_ ?_ | refine gd2 ?_ ?_ | refine gd3 ?_ ?_) <;> (first | exact @False.elim _ | intro hc)))
    exact finV_lit vv rfl
  have hkg : k < g.cols.length := by have := hs0.out.n; omega
  have p2 := clm_at2 (l := f.cols) (k := k) hlt
  have p3 := clm_at3 (l := f.cols) (k := k) hlt
  have g2 := clms_len f.cols
  have g4 := clms_len g.cols
  have q2 := clm_at2 (l := g.cols) (k := k) hkg
  have q3 := clm_at3 (l := g.cols) (k := k) hkg
  have c1 : (k : Int) < (f.cols.length : Int) := by omega
  have c2 : (k : Int) < (g.cols.length : Int) := by omega
  have c3 : k * 4 + 4 ≤ f.cols.length * 4 := by omega
  have c4 : k * 4 + 4 ≤ g.cols.length * 4 := by omega
  have w1 := w_add1 (k := k) (by omega)
  have hcx := hs0.out.a.c k hlt
  have hcy := hs0.out.b.c k hkg
  have hle := hs0.out.c k hlt
  have hbad : insC (f.cols.getD k default) (g.cols.getD k default) = false → insB f g = false := insB_bad hlt
  have hgood : insC (f.cols.getD k default) (g.cols.getD k default) = true → ∀ i, i < k + 1 → insC (f.cols.getD i default) (g.cols.getD i default) = true := fun h i hi => by
    by_cases e : i = k
    · subst e; exact h
    · exact hI.out i (by omega)
  have hlt0 := Hid.mk hlt
  generalize f.cols.getD k default = x at *
  generalize g.cols.getD k default = y at *
  obtain ⟨xb, xt, xs, xe⟩ := x
  obtain ⟨yb, yt, ys, ye⟩ := y
  have hls : xs.length ≤ 17592186044416 := hcx.ls
  have hly : ys.length ≤ 17592186044416 := hcy.ls
  have hlc : xe.length ≤ 17592186044416 := hcx.lc
  have hle1 : xe.length ≤ ye.length := hle
  have hx1 : ∀ i, i < xe.length → (xe.getD i []).length ≤ 17592186044416 := hcx.le
  have hy1 : ∀ i, i < ye.length → (ye.getD i []).length ≤ 17592186044416 := hcy.le
  replace hls := Hid.mk hls
  replace hly := Hid.mk hly
  replace hlc := Hid.mk hlc
  replace hle := Hid.mk hle1
  replace hx1 := Hid.mk hx1
  replace hy1 := Hid.mk hy1
  replace hbad := Hid.mk hbad
  replace hgood := Hid.mk hgood
  clear hlt hk hcx hcy hkg hle1
  repeat' (with_reducible first | refine x_ops ?_ | refine wk ?_ | ((first | refine gd1 ?_ ?_ | refine gd2 ?_ ?_ | refine gd3 ?_ ?_) <;> (first | exact @False.elim _ | intro hc)))
  refine x_loopF w_theorboref10_within_p4 kr xs.length (fun j t => t 6 = vint j ∧ ∀ i, i < j → memS ys (xs.getD i default) = true) ?_ ?_
  · exact ⟨vv, fun i h => by omega⟩
  rintro j t1 hj ⟨h6, hJ⟩
  replace hJ := Hid.mk hJ
  by_cases hlt2 : j < xs.length
  · have g5 := sg_take (l := xs) (k := j) hlt2
    have g6 := sgs_len xs
    have d1 : (j : Int) < (xs.length : Int) := by omega
    have d3 : j * 3 + 3 ≤ xs.length * 3 := by omega
    have w2 := w_add1 (k := j) (by have := hls.out; omega)
    have H := rhasSg_fn ys (xs.getD j default) hly.out
    rw [tL] at H
    have hlt20 := Hid.mk hlt2
    cases hr : memS ys (xs.getD j default) with
    | false =>
      rw [hr] at H
      rw [hbad.out (insC_sg (x := ⟨xb, xt, xs, xe⟩) (y := ⟨yb, yt, ys, ye⟩) (subS_bad hlt2 hr))]
      clear hr hlt2 hj
      generalize xs.getD j default = s at *
      obtain ⟨v, d, tt⟩ := s
      repeat' (with_reducible first | refine x_ops ?_ | refine wk ?_ | (with_reducible refine xc (H) ?_) | ((first | refine gd1 ?_ ?_ | refine gd2 ?_ ?_ | refine gd3 ?_ ?_) <;> (first | exact @False.elim _ | intro hc)))
      exact finV_lit vv rfl
    | true =>
      rw [hr] at H
      have hr' : ∀ i, i < j + 1 → memS ys (xs.getD i default) = true := fun i hi => by
        by_cases e : i = j
        · subst e; exact hr
        · exact hJ.out i (by omega)
      replace hr' := Hid.mk hr'
      clear hlt2 hj hr
      generalize xs.getD j default = s at *
      obtain ⟨v, d, tt⟩ := s
      repeat' (with_reducible first | refine x_ops ?_ | refine wk ?_ | (with_reducible refine xc (H) ?_) | ((first | refine gd1 ?_ ?_ | refine gd2 ?_ ?_ | refine gd3 ?_ ?_) <;> (first | exact @False.elim _ | intro hc)))
      exact nf hlt20.out ⟨vv, hr'.out⟩ rfl
  have d1 : ¬ (j : Int) < (xs.length : Int) := by omega
  have hS : subS xs ys = true := subS_iff.2 fun i hi => hJ.out i (by omega)
  replace hS := Hid.mk hS
  clear hlt2 hj hJ
  repeat' (with_reducible first | refine x_ops ?_ | refine wk ?_ | ((first | refine gd1 ?_ ?_ | refine gd2 ?_ ?_ | refine gd3 ?_ ?_) <;> (first | exact @False.elim _ | intro hc)))
  clear d1 h6
  refine x_loopF w_theorboref10_within_p13 kr xe.length (fun j t => t 7 = vint j ∧ ∀ i, i < j → subI (xe.getD i []) (ye.getD i []) = true) ?_ ?_
  · exact ⟨vv, fun i h => by omega⟩
  rintro j t2 hj ⟨h7, hJ⟩
  replace hJ := Hid.mk hJ
  by_cases hlt2 : j < xe.length
  case neg =>
    have d1 : ¬ (j : Int) < (xe.length : Int) := by omega
    have hall : insC ⟨xb, xt, xs, xe⟩ ⟨yb, yt, ys, ye⟩ = true := insC_all hS.out fun i (hi : i < xe.length) => hJ.out i (by omega)
    replace hall := Hid.mk hall
    clear hlt2 hj
    repeat' (with_reducible first | refine x_ops ?_ | refine wk ?_ | ((first | refine gd1 ?_ ?_ | refine gd2 ?_ ?_ | refine gd3 ?_ ?_) <;> (first | exact @False.elim _ | intro hc)))
    exact nf hlt0.out ⟨vv, hgood.out hall.out⟩ rfl
  have g5 := iss_at (l := xe) (k := j) hlt2
  have g6 := iss_at (l := ye) (k := j) (by have := hle.out; omega)
  have d1 : (j : Int) < (xe.length : Int) := by omega
  have d2 : (j : Int) < (ye.length : Int) := by have := hle.out; omega
  have w2 := w_add1 (k := j) (by have := hlc.out; omega)
  have ha := hx1.out j hlt2
  have hb := Hid.mk (hy1.out j (by have := hle.out; omega))
  have hlt20 := Hid.mk hlt2
  have hbad2 : subI (xe.getD j []) (ye.getD j []) = false → insB f g = false := fun h => hbad.out (insC_ce (x := ⟨xb, xt, xs, xe⟩) (y := ⟨yb, yt, ys, ye⟩) hlt2 h)
  have hgood2 : subI (xe.getD j []) (ye.getD j []) = true → ∀ i, i < j + 1 → subI (xe.getD i []) (ye.getD i []) = true := fun h i hi => by
    by_cases e : i = j
    · subst e; exact h
    · exact hJ.out i (by omega)
  replace hbad2 := Hid.mk hbad2
  replace hgood2 := Hid.mk hgood2
  generalize xe.getD j [] = a at *
  generalize ye.getD j [] = b at *
  clear hlt2 hj hJ
  have ha0 := Hid.mk ha
  clear ha
  repeat' (with_reducible first | refine x_ops ?_ | refine wk ?_ | ((first | refine gd1 ?_ ?_ | refine gd2 ?_ ?_ | refine gd3 ?_ ?_) <;> (first | exact @False.elim _ | intro hc)))
  refine x_loopF w_theorboref10_within_p9 kr a.length (fun n t => t 8 = vint n ∧ ∀ i, i < n → memI b (a.getD i 0) = true) ?_ ?_
  · exact ⟨vv, fun i h => by omega⟩
  rintro n t3 hj ⟨h8, hK⟩
  replace hK := Hid.mk hK
  by_cases hlt2 : n < a.length
  case neg =>
    have d3 : ¬ (n : Int) < (a.length : Int) := by omega
    have hall : subI a b = true := subI_iff.2 fun i hi => hK.out i (by omega)
    replace hall := Hid.mk hall
    clear hlt2 hj
    repeat' (with_reducible first | refine x_ops ?_ | refine wk ?_ | ((first | refine gd1 ?_ ?_ | refine gd2 ?_ ?_ | refine gd3 ?_ ?_) <;> (first | exact @False.elim _ | intro hc)))
    exact nf hlt20.out ⟨vv, hgood2.out hall.out⟩ rfl
  have g7 := ints_at (l := a) (k := n) hlt2
  have d3 : (n : Int) < (a.length : Int) := by omega
  have w3 := w_add1 (k := n) (by have := ha0.out; omega)
  have H := rhasIn_fn b (a.getD n 0) hb.out
  have hlt30 := Hid.mk hlt2
  cases hr : memI b (a.getD n 0) with
  | false =>
    rw [hr] at H
    rw [hbad2.out (subI_bad hlt2 hr)]
    clear hr hlt2 hj
    generalize a.getD n 0 = v at *
    repeat' (with_reducible first | refine x_ops ?_ | refine wk ?_ | (with_reducible refine xc (H) ?_) | ((first | refine gd1 ?_ ?_ | refine gd2 ?_ ?_ | refine gd3 ?_ ?_) <;> (first | exact @False.elim _ | intro hc)))
    exact finV_lit vv rfl
  | true =>
    rw [hr] at H
    have hr' : ∀ i, i < n + 1 → memI b (a.getD i 0) = true := fun i hi => by
      by_cases e : i = n
      · subst e; exact hr
      · exact hK.out i (by omega)
    replace hr' := Hid.mk hr'
    clear hlt2 hj hr
    generalize a.getD n 0 = v at *
    repeat' (with_reducible first | refine x_ops ?_ | refine wk ?_ | (with_reducible refine xc (H) ?_) | ((first | refine gd1 ?_ ?_ | refine gd2 ?_ ?_ | refine gd3 ?_ ?_) <;> (first | exact @False.elim _ | intro hc)))
    exact nf hlt30.out ⟨vv, hr'.out⟩ rfl
end Go.Proofs.YtdefefeifcdogaaGreat
namespace Go.Proofs.YtdefefeifcdogaaGreat
open Go.RowKit
set_option linter.unusedSimpArgs false
set_option linter.unusedVariables false

noncomputable def rdsR (f : Lf) (p : Pce) : Bool × Int := if lchk f ≠ 0 then (false, lchk f) else if chkP p ≠ 0 then (false, chkP p) else (shpB f (lfO p) && insB (lfO p) f, 0)
theorem shpB_imp {f g : Lf} (h : shpB f g = true) : shpB g f = true := by
  rw [shpB, eqC, Bool.and_eq_true, Bool.and_eq_true, decide_eq_true_iff, decide_eq_true_iff, allB_iff] at h ⊢
  obtain ⟨h1, h2, h3⟩ := h
  refine ⟨h1.symm, h2.symm, fun i hi => ?_⟩
  have h4 := h3 i (by omega)
  rw [shpC, Bool.and_eq_true, beq_iff_eq, beq_iff_eq] at h4 ⊢
  exact ⟨h4.1.symm, h4.2.symm⟩
theorem shpB_comm (f g : Lf) : shpB f g = shpB g f := by rw [Bool.eq_iff_iff]; exact ⟨shpB_imp, shpB_imp⟩
theorem lfO_ce {p : Pce} {i : Nat} (hi : i < (lfO p).cols.length) : ((lfO p).cols.getD i default).ce.length = p.ins.cs.length := by
  rw [colsO_len] at hi
  have h2 : i < (plnP p).es.length := by rw [plnP, plnE_len]; exact hi
  have e : (lfO p).cols.getD i default = clmO p.ins.cs.length ((plnP p).es.getD i default) := by
    rw [List.getD_eq_getElem?_getD, lfO, List.getElem?_map, List.getD_eq_getElem?_getD, List.getElem?_eq_getElem h2]; rfl
  rw [e, clmO_ce]
  exact celO_len _ _
theorem two_sm {f : Lf} {p : Pce} (hs : LfSm f) (h : lchk f = 0) (ok : PcOk p) (h3 : shpB f (lfO p) = true) : TwoSm (lfO p) f := by
  obtain ⟨q1, q2, q3⟩ := lchk_zero h
  rw [shpB, eqC, Bool.and_eq_true, Bool.and_eq_true, decide_eq_true_iff, decide_eq_true_iff, allB_iff] at h3
  obtain ⟨e1, e2, _⟩ := h3
  have e3 : f.ins = p.ins := e1
  refine ⟨lfO_sm ok, hs, by omega, fun i hi => ?_⟩
  rw [lfO_ce hi, (q3 i (by omega)).1.len, e3]
  exact Nat.le_refl _
set_option maxHeartbeats 1000000 in
theorem reads_fn (f : Lf) (p : Pce) (hs : LfSm f) (hp : PcSm p) : Fn Tryz.prog Gd 41 [f.val, p.val] (.tup [vbool (rdsR f p).1, vint (rdsR f p).2]) := by
  refine Fn.of_vx0 k_leaf_Reads (by simp) (by rw [V.pures, pure_lf, V.pures, pure_pce]; rfl) ?_
  have C := lcheck_fn f hs
  have O := of_fn p hp
  unfold c_leaf_Reads
  by_cases h0 : lchk f = 0
  case neg =>
    have c1 : (lchk f == 0) = false := by rw [beq_eq_false_iff_ne]; exact h0
    rw [show rdsR f p = (false, lchk f) from if_pos h0]
    clear O h0 hs hp
    generalize lchk f = e at *
    obtain ⟨⟨fc, fst⟩, fl⟩ := f
    repeat' (with_reducible first | refine x_ops ?_ | refine wk ?_ | (with_reducible refine xc (C) ?_) | ((first | refine gd1 ?_ ?_ | refine gd2 ?_ ?_ | refine gd3 ?_ ?_) <;> (first | exact @False.elim _ | intro hc)))
    refine finV_ret vv ?_
    exact .tup (.cons (.lit _) (.cons (.lit _) .nil))
  by_cases h1 : chkP p = 0
  case neg =>
    have c1 : (chkP p == 0) = false := by rw [beq_eq_false_iff_ne]; exact h1
    rw [show rdsR f p = (false, chkP p) from by rw [rdsR, if_neg (by omega), if_pos h1]]
    rw [h0] at C
    rw [show ofR p = (noL, chkP p) from by rw [ofR, if_pos h1]] at O
    clear h0 h1 hs hp
    generalize chkP p = e at *
    obtain ⟨⟨fc, fst⟩, fl⟩ := f
    obtain ⟨⟨pc, pst⟩, pl⟩ := p
    repeat' (with_reducible first | refine x_ops ?_ | refine wk ?_ | (with_reducible refine xc (C) ?_) | (with_reducible refine xc (O) ?_) | ((first | refine gd1 ?_ ?_ | refine gd2 ?_ ?_ | refine gd3 ?_ ?_) <;> (first | exact @False.elim _ | intro hc)))
    refine finV_ret vv ?_
    exact .tup (.cons (.lit _) (.cons (.lit _) .nil))
  have ok := PcOk.of h1
  obtain ⟨q1, q2, q3⟩ := lchk_zero h0
  obtain ⟨q4, q5, _⟩ := chkI_small q1
  have S := shaped_fn f (lfO p) (by omega) (by omega) hs.n
  rw [h0] at C
  rw [show ofR p = (lfO p, 0) from by rw [ofR, if_neg (by omega)]] at O
  rw [show rdsR f p = (shpB f (lfO p) && insB (lfO p) f, 0) from by rw [rdsR, if_neg (by omega), if_neg (by omega)]]
  cases hq : shpB f (lfO p) with
  | false =>
    rw [hq] at S
    rw [Bool.false_and]
    clear hq ok q1 q2 q3 q4 q5 h0 h1 hs hp
    generalize lfO p = g at *
    obtain ⟨⟨fc, fst⟩, fl⟩ := f
    obtain ⟨⟨pc, pst⟩, pl⟩ := p
    obtain ⟨⟨gc, gst⟩, gl⟩ := g
    repeat' (with_reducible first | refine x_ops ?_ | refine wk ?_ | (with_reducible refine xc (C) ?_) | (with_reducible refine xc (O) ?_) | (with_reducible refine xc (S) ?_) | ((first | refine gd1 ?_ ?_ | refine gd2 ?_ ?_ | refine gd3 ?_ ?_) <;> (first | exact @False.elim _ | intro hc)))
    refine finV_ret vv ?_
    exact .tup (.cons (.lit _) (.cons (.lit _) .nil))
  | true =>
    have I := inside_fn (lfO p) f (two_sm hs h0 ok hq)
    rw [hq] at S
    rw [Bool.true_and]
    clear hq ok q1 q2 q3 q4 q5 h0 h1 hs hp
    generalize lfO p = g at *
    generalize insB g f = z at *
    obtain ⟨⟨fc, fst⟩, fl⟩ := f
    obtain ⟨⟨pc, pst⟩, pl⟩ := p
    obtain ⟨⟨gc, gst⟩, gl⟩ := g
    repeat' (with_reducible first | refine x_ops ?_ | refine wk ?_ | (with_reducible refine xc (C) ?_) | (with_reducible refine xc (O) ?_) | (with_reducible refine xc (S) ?_) | (with_reducible refine xc (I) ?_) | ((first | refine gd1 ?_ ?_ | refine gd2 ?_ ?_ | refine gd3 ?_ ?_) <;> (first | exact @False.elim _ | intro hc)))
    refine finV_ret vv ?_
    exact .tup (.cons (.lit _) (.cons (.lit _) .nil))
set_option maxHeartbeats 1000000 in
theorem rreads_fn (f : Lf) (p : Pce) (hs : LfSm f) (hp : PcSm p) : Fn Tryz.prog Gd 42 [f.val, p.val] (.tup [vbool (rdsR f p).1, vint (rdsR f p).2]) := by
  refine Fn.of_vx0 k_theorboref10_Reads (by simp) (by rw [V.pures, pure_lf, V.pures, pure_pce]; rfl) ?_
  have C := rlcheck_fn f hs
  have O := rof_fn p hp
  unfold c_theorboref10_Reads
  by_cases h0 : lchk f = 0
  case neg =>
    have c1 : (lchk f == 0) = false := by rw [beq_eq_false_iff_ne]; exact h0
    rw [show rdsR f p = (false, lchk f) from if_pos h0]
    clear O h0 hs hp
    generalize lchk f = e at *
    obtain ⟨⟨fc, fst⟩, fl⟩ := f
    repeat' (with_reducible first | refine x_ops ?_ | refine wk ?_ | (with_reducible refine xc (C) ?_) | ((first | refine gd1 ?_ ?_ | refine gd2 ?_ ?_ | refine gd3 ?_ ?_) <;> (first | exact @False.elim _ | intro hc)))
    refine finV_ret vv ?_
    exact .tup (.cons (.lit _) (.cons (.lit _) .nil))
  by_cases h1 : chkP p = 0
  case neg =>
    have c1 : (chkP p == 0) = false := by rw [beq_eq_false_iff_ne]; exact h1
    rw [show rdsR f p = (false, chkP p) from by rw [rdsR, if_neg (by omega), if_pos h1]]
    rw [h0] at C
    rw [show ofR p = (noL, chkP p) from by rw [ofR, if_pos h1]] at O
    clear h0 h1 hs hp
    generalize chkP p = e at *
    obtain ⟨⟨fc, fst⟩, fl⟩ := f
    obtain ⟨⟨pc, pst⟩, pl⟩ := p
    repeat' (with_reducible first | refine x_ops ?_ | refine wk ?_ | (with_reducible refine xc (C) ?_) | (with_reducible refine xc (O) ?_) | ((first | refine gd1 ?_ ?_ | refine gd2 ?_ ?_ | refine gd3 ?_ ?_) <;> (first | exact @False.elim _ | intro hc)))
    refine finV_ret vv ?_
    exact .tup (.cons (.lit _) (.cons (.lit _) .nil))
  have ok := PcOk.of h1
  have okc := ok.c
  have oks := ok.s
  have S := rshape_fn (lfO p) f (by show p.ins.cs.length ≤ _; omega) (by show p.ins.st.length ≤ _; omega) (lfO_sm ok).n
  rw [h0] at C
  rw [show ofR p = (lfO p, 0) from by rw [ofR, if_neg (by omega)]] at O
  rw [shpB_comm] at S
  rw [show rdsR f p = (shpB f (lfO p) && insB (lfO p) f, 0) from by rw [rdsR, if_neg (by omega), if_neg (by omega)]]
  cases hq : shpB f (lfO p) with
  | false =>
    rw [hq] at S
    rw [Bool.false_and]
    clear hq ok okc oks h0 h1 hs hp
    generalize lfO p = g at *
    obtain ⟨⟨fc, fst⟩, fl⟩ := f
    obtain ⟨⟨pc, pst⟩, pl⟩ := p
    obtain ⟨⟨gc, gst⟩, gl⟩ := g
    repeat' (with_reducible first | refine x_ops ?_ | refine wk ?_ | (with_reducible refine xc (C) ?_) | (with_reducible refine xc (O) ?_) | (with_reducible refine xc (S) ?_) | ((first | refine gd1 ?_ ?_ | refine gd2 ?_ ?_ | refine gd3 ?_ ?_) <;> (first | exact @False.elim _ | intro hc)))
    refine finV_ret vv ?_
    exact .tup (.cons (.lit _) (.cons (.lit _) .nil))
  | true =>
    have I := rwithin_fn (lfO p) f (two_sm hs h0 ok hq)
    rw [hq] at S
    rw [Bool.true_and]
    clear hq ok okc oks h0 h1 hs hp
    generalize lfO p = g at *
    generalize insB g f = z at *
    obtain ⟨⟨fc, fst⟩, fl⟩ := f
    obtain ⟨⟨pc, pst⟩, pl⟩ := p
    obtain ⟨⟨gc, gst⟩, gl⟩ := g
    repeat' (with_reducible first | refine x_ops ?_ | refine wk ?_ | (with_reducible refine xc (C) ?_) | (with_reducible refine xc (O) ?_) | (with_reducible refine xc (S) ?_) | (with_reducible refine xc (I) ?_) | ((first | refine gd1 ?_ ?_ | refine gd2 ?_ ?_ | refine gd3 ?_ ?_) <;> (first | exact @False.elim _ | intro hc)))
    refine finV_ret vv ?_
    exact .tup (.cons (.lit _) (.cons (.lit _) .nil))
theorem leafreads_fn (W : Fn Tryz.prog Gd 19 [] (vbool true)) (f : Lf) (p : Pce) (hs : LfSm f) (hp : PcSm p) : Fn Tryz.prog Gd 9 [f.val, p.val] (vbool true) := by
  refine Fn.of_vx0 k_theorbolaw10_LeafReads (by simp) (by rw [V.pures, pure_lf, V.pures, pure_pce]; rfl) ?_
  have A := reads_fn f p hs hp
  have B := rreads_fn f p hs hp
  unfold c_theorbolaw10_LeafReads
  generalize rdsR f p = r at *
  obtain ⟨b, e⟩ := r
  clear hs hp
  obtain ⟨⟨fc, fst⟩, fl⟩ := f
  obtain ⟨⟨pc, pst⟩, pl⟩ := p
  repeat' (with_reducible first | refine x_ops ?_ | refine wk ?_ | (with_reducible refine xc (A) ?_) | (with_reducible refine xc (B) ?_) | (with_reducible refine xc (W) ?_) | ((first | refine gd1 ?_ ?_ | refine gd2 ?_ ?_ | refine gd3 ?_ ?_) <;> (first | exact @False.elim _ | intro hc)))
  exact finV_lit vv rfl
end Go.Proofs.YtdefefeifcdogaaGreat
namespace Go.Proofs.YtdefefeifcdogaaGreat
open Go.RowKit
set_option maxRecDepth 100000
def d_83 : Fd := ⟨160, (.seq (.ops 4 [oo 2 .boxE [.t 0], oo 3 .boxE [.t 1], oo 4 (.alloc 88 [(.lit (.pointer none))]) [], oo 5 (.alloc 38 [li 0]) []]) (.seq (.ops 10 [oo 19 (.ldA 3) [.t 2], oo 20 (.ldA 12) [.t 3], ⟨(some 21), none, (.build [li 0, (.sl 0 [] .exact), (.sl 0 [] .exact), (.sl 0 [] .exact), (.sl 0 [] .exact), (.sl 0 [] .exact), li 0, (.lit (.bool false))] [(6, 1)]), [kk 1], none⟩, oo 22 (.box 108) [.t 21], oo 23 (.mkslB 99 1 1 [(.lit (.pointer none))] [(0, 1)]) [.t 22], ⟨(some 24), none, (.mkslB 95 1 1 [(.sl 0 [] .exact)] [(0, 1)]), [.t 23], none⟩, ⟨(some 25), none, (.build [(.sl 0 [] .exact), (.sl 0 [] .exact), (.sl 0 [] .exact), (.sl 0 [] .exact), (.sl 0 [] .exact), (.sl 0 [] .exact), li 0, li 0, li 0, li 0, li 0, li 0, li 0, li 0, (.lit (.bool false)), (.sl 0 [] .exact), li 0] [(0, 3), (3, 12), (15, 1)]), [.t 19, .t 20, .t 24], none⟩, oo 26 (.box 98) [.t 25], oo 6 (.alloc 88 [(.lit (.pointer none))]) [], ⟨none, none, (.st 1), [.t 6, .t 26], none⟩]) (.seq (.seq (.ops 0 [oo 27 (.fldA 2) [.t 2], oo 28 .ld1 [.t 27], oo 29 .len [.t 28], oo 30 .mv [kk 0]]) (.block 0 (.loop (.seq (.ops 0 [oo 31 (.bin .lss) [.t 30, .t 29]]) (.seq (.cond (.t 31) .skip (.exit 0)) (.seq (.block 1 (.seq (.ops 6 [oo 32 .mv [.t 30], oo 33 (.ixA 4) [.t 28, .t 30], oo 34 (.ldA 4) [.t 33], ⟨(some 8), none, (.alloc 84 [(.lit (.bool false)), (.lit (.bool false)), (.sl 0 [] .exact), (.sl 0 [] .exact)]), [], none⟩, oo 7 .mv [.t 32], ⟨none, none, (.st 4), [.t 8, .t 34], none⟩]) (.seq (.ops 0 [oo 35 .ld1 [.t 6], oo 36 .mv [.t 7], oo 37 .nilck [.t 35], oo 38 (.fldA 16) [.t 37], ⟨none, none, (.st 1), [.t 38, .t 36], none⟩]) (.seq (.seq (.ops 0 [oo 39 (.ldA 4) [.t 8], oo 40 (.call 151) [.t 39], oo 41 (.un .not) [.t 40]]) (.cond (.t 41) (.seq (.ops 0 [oo 42 .ld1 [.t 6], ⟨none, none, (.st 1), [.t 4, .t 42], none⟩, ⟨none, none, (.st 1), [.t 5, kk 2], none⟩]) .ret) .skip)) (.seq (.ops 3 [oo 43 (.mkmap [2]) [], oo 9 (.alloc 206 [(.lit (.map none))]) [], ⟨none, none, (.st 1), [.t 9, .t 43], none⟩]) (.seq (.ops 1 [⟨(some 10), none, (.alloc 95 [(.sl 0 [] .exact)]), [], none⟩]) (.seq (.seq (.ops 0 [oo 44 .ld1 [.t 6], oo 45 .nilck [.t 44], oo 46 (.fldA 15) [.t 45], oo 47 .ld1 [.t 46], oo 48 .mv [.t 7], oo 49 (.ixA 1) [.t 47, .t 48], oo 50 .ld1 [.t 49], oo 51 .len [.t 50], oo 52 .mv [kk 0]]) (.block 2 (.loop (.seq (.ops 0 [oo 53 (.bin .lss) [.t 52, .t 51]]) (.seq (.cond (.t 53) .skip (.exit 2)) (.seq (.block 3 (.seq (.ops 4 [oo 54 (.ixA 1) [.t 50, .t 52], oo 55 .ld1 [.t 54], oo 12 (.alloc 99 [(.lit (.pointer none))]) [], ⟨none, none, (.st 1), [.t 12, .t 55], none⟩]) (.seq (.ops 0 [oo 56 (.ldA 4) [.t 8], oo 57 (.call 152) [.t 56]]) (.block 4 (.rangeF 160 (.t 57) #[58] (.region 14 #[(.mk (some 13) (.alloc 112) 0 "search.go:191" #[] none), (.mk none (.store 112 (.tmp 13) (.tmp 58)) 0 "search.go:191" #[(.mk 0 .data), (.mk 0 .phase)] none)] false) (.block 5 (.seq (.region 15 #[(.mk (some 60) (.load 88 (.tmp 6)) 88 "search.go:192" #[] none), (.mk (some 61) (.load 99 (.tmp 12)) 99 "search.go:192" #[] none), (.mk (some 62) (.nilCheck (.tmp 61)) 0 "search.go:192" #[(.mk 1 .data)] none), (.mk (some 63) (.fieldAddr 108 (.tmp 62) 0) 0 "search.go:192" #[(.mk 2 .data)] none), (.mk (some 64) (.load 105 (.tmp 63)) 105 "search.go:192" #[(.mk 3 .data)] none), (.mk (some 65) (.load 84 (.tmp 8)) 84 "search.go:192" #[] none), (.mk (some 66) (.load 112 (.tmp 13)) 112 "search.go:192" #[] none), (.mk (some 67) (.call (.mk (.value (.func 153)) #[(.tmp 60), (.tmp 64), (.tmp 65), (.tmp 66)] #[88, 105, 84, 112])) 210 "search.go:192" #[(.mk 0 .data), (.mk 4 .data), (.mk 5 .data), (.mk 6 .data)] none), (.mk (some 59) (.move (.tmp 67)) 210 "search.go:192" #[(.mk 7 .data)] none), (.mk (some 68) (.extract (.tmp 59) 0) 105 "search.go:192" #[(.mk 8 .data)] none), (.mk (some 69) (.extract (.tmp 59) 1) 4 "search.go:192" #[(.mk 8 .data), (.mk 13 (.gcOnly .lateStores))] none), (.mk (some 70) (.extract (.tmp 59) 2) 38 "search.go:192" #[(.mk 8 .data), (.mk 14 (.gcOnly .lateStores))] none), (.mk (some 14) (.alloc 105) 0 "search.go:192" #[] none), (.mk none (.store 105 (.tmp 14) (.tmp 68)) 0 "search.go:192" #[(.mk 12 .data), (.mk 9 .data), (.mk 7 .chain), (.mk 0 .phase), (.mk 1 .phase), (.mk 2 .phase), (.mk 3 .phase), (.mk 4 .phase), (.mk 5 .phase), (.mk 6 .phase), (.mk 7 .phase), (.mk 8 .phase), (.mk 9 .phase), (.mk 10 (.textOnly .lateStores)), (.mk 11 (.textOnly .lateStores)), (.mk 12 .phase)] none), (.mk (some 15) (.assign (.tmp 69)) 4 "search.go:192" #[(.mk 10 .data), (.mk 13 .chain), (.mk 0 .phase), (.mk 1 .phase), (.mk 2 .phase), (.mk 3 .phase), (.mk 4 .phase), (.mk 5 .phase), (.mk 6 .phase), (.mk 7 .phase), (.mk 8 .phase), (.mk 9 .phase), (.mk 10 .phase), (.mk 11 (.textOnly .lateStores)), (.mk 12 .phase), (.mk 13 .phase)] none), (.mk (some 16) (.assign (.tmp 70)) 38 "search.go:192" #[(.mk 11 .data), (.mk 14 .chain), (.mk 0 .phase), (.mk 1 .phase), (.mk 2 .phase), (.mk 3 .phase), (.mk 4 .phase), (.mk 5 .phase), (.mk 6 .phase), (.mk 7 .phase), (.mk 8 .phase), (.mk 9 .phase), (.mk 10 .phase), (.mk 11 .phase), (.mk 12 .phase), (.mk 13 .phase), (.mk 14 .phase)] none)] true) (.seq (.seq (.region 16 #[(.mk (some 71) (.move (.tmp 16)) 38 "search.go:193" #[] none), (.mk (some 72) (.binOp .neq 38 (.tmp 71) (.const (.int .i64 0)) 38) 4 "search.go:193" #[(.mk 0 .data)] none)] false) (.cond (.tmp 72) (.seq (.region 17 #[(.mk (some 73) (.load 88 (.tmp 6)) 88 "search.go:194" #[] none), (.mk (some 74) (.move (.tmp 16)) 38 "search.go:194" #[(.mk 2 (.gcOnly .lateStores))] none), (.mk none (.store 88 (.tmp 4) (.tmp 73)) 0 "search.go:194" #[(.mk 0 .data), (.mk 0 .phase), (.mk 1 (.textOnly .lateStores))] none), (.mk none (.store 38 (.tmp 5) (.tmp 74)) 0 "search.go:194" #[(.mk 1 .data), (.mk 2 .chain), (.mk 0 .phase), (.mk 1 .phase), (.mk 2 .phase)] none)] false) .ret) .skip)) (.seq (.seq (.region 18 #[(.mk (some 75) (.move (.tmp 15)) 4 "search.go:196" #[] none), (.mk (some 76) (.unOp .not 4 (.tmp 75)) 4 "search.go:196" #[(.mk 0 .data)] none)] false) (.cond (.tmp 76) (.exit 5) .skip)) (.seq (.region 19 #[(.mk (some 78) (.load 206 (.tmp 9)) 206 "search.go:199" #[] none), (.mk (some 79) (.load 105 (.tmp 14)) 105 "search.go:199" #[] none), (.mk (some 80) (.call (.mk (.value (.func 154)) #[(.tmp 79)] #[105])) 9 "search.go:199" #[(.mk 1 .data)] none), (.mk (some 81) (.lookup 206 (.tmp 78) (.tmp 80) true) 212 "search.go:199" #[(.mk 0 .data), (.mk 2 .data)] none), (.mk (some 77) (.move (.tmp 81)) 212 "search.go:199" #[(.mk 3 .data)] none), (.mk (some 82) (.extract (.tmp 77) 0) 3 "search.go:199" #[(.mk 4 .data)] none), (.mk (some 83) (.extract (.tmp 77) 1) 4 "search.go:199" #[(.mk 4 .data), (.mk 7 (.gcOnly .lateStores))] none), (.mk (some 17) (.assign (.tmp 82)) 3 "search.go:199" #[(.mk 5 .data), (.mk 2 .chain), (.mk 0 .phase), (.mk 1 .phase), (.mk 2 .phase), (.mk 3 .phase), (.mk 4 .phase), (.mk 5 .phase), (.mk 6 (.textOnly .lateStores))] none), (.mk (some 18) (.assign (.tmp 83)) 4 "search.go:199" #[(.mk 6 .data), (.mk 7 .chain), (.mk 0 .phase), (.mk 1 .phase), (.mk 2 .phase), (.mk 3 .phase), (.mk 4 .phase), (.mk 5 .phase), (.mk 6 .phase), (.mk 7 .phase)] none)] true) (.seq (.seq (.region 20 #[(.mk (some 84) (.move (.tmp 18)) 4 "search.go:200" #[] none), (.mk (some 85) (.unOp .not 4 (.tmp 84)) 4 "search.go:200" #[(.mk 0 .data)] none)] false) (.cond (.tmp 85) (.seq (.region 21 #[(.mk (some 86) (.load 95 (.tmp 10)) 95 "search.go:201" #[] none), (.mk (some 87) (.call (.mk (.builtin .len) #[(.tmp 86)] #[95])) 3 "search.go:201" #[(.mk 0 .data)] none), (.mk (some 17) (.assign (.tmp 87)) 3 "search.go:201" #[(.mk 1 .data), (.mk 0 .phase), (.mk 1 .phase)] none)] false) (.seq (.region 22 #[(.mk (some 88) (.load 206 (.tmp 9)) 206 "search.go:202" #[] none), (.mk (some 89) (.load 105 (.tmp 14)) 105 "search.go:202" #[] none), (.mk (some 90) (.call (.mk (.value (.func 154)) #[(.tmp 89)] #[105])) 9 "search.go:202" #[(.mk 1 .data)] none), (.mk (some 91) (.move (.tmp 17)) 3 "search.go:202" #[] none), (.mk none (.mapUpdate 206 (.tmp 88) (.tmp 90) (.tmp 91)) 0 "search.go:202" #[(.mk 0 .data), (.mk 2 .data), (.mk 3 .data), (.mk 2 .chain), (.mk 0 .phase), (.mk 1 .phase), (.mk 2 .phase), (.mk 3 .phase)] none)] true) (.region 23 #[(.mk (some 92) (.load 95 (.tmp 10)) 95 "search.go:203" #[] none), (.mk (some 93) (.load 105 (.tmp 14)) 105 "search.go:203" #[] none), (.mk (some 94) (.build 108 #[(0, (.tmp 93))]) 108 "search.go:203" #[(.mk 1 .data)] none), (.mk (some 95) (.box 108 (.tmp 94)) 99 "search.go:203" #[(.mk 2 .data)] none), (.mk (some 96) (.buildSlice 95 1 #[(0, (.tmp 95))]) 95 "search.go:203" #[(.mk 3 .data)] none), (.mk (some 97) (.call (.mk (.builtin .append) #[(.tmp 92), (.tmp 96)] #[95, 95])) 95 "search.go:203" #[(.mk 0 .data), (.mk 4 .data)] none), (.mk none (.store 95 (.tmp 10) (.tmp 97)) 0 "search.go:203" #[(.mk 5 .data), (.mk 5 .chain), (.mk 0 .phase), (.mk 1 .phase), (.mk 2 .phase), (.mk 3 .phase), (.mk 4 .phase), (.mk 5 .phase)] none)] false))) .skip)) (.seq (.region 24 #[(.mk (some 98) (.load 95 (.tmp 10)) 95 "search.go:205" #[] none), (.mk (some 99) (.move (.tmp 17)) 3 "search.go:205" #[] none), (.mk (some 100) (.indexAddr 95 (.tmp 98) (.tmp 99)) 0 "search.go:205" #[(.mk 0 .data), (.mk 1 .data)] none), (.mk (some 101) (.load 99 (.tmp 100)) 99 "search.go:205" #[(.mk 2 .data)] none), (.mk (some 102) (.load 95 (.tmp 10)) 95 "search.go:205" #[] none), (.mk (some 103) (.move (.tmp 17)) 3 "search.go:205" #[] none), (.mk (some 104) (.indexAddr 95 (.tmp 102) (.tmp 103)) 0 "search.go:205" #[(.mk 4 .data), (.mk 5 .data)] none), (.mk (some 105) (.load 99 (.tmp 104)) 99 "search.go:205" #[(.mk 6 .data)] none), (.mk (some 106) (.nilCheck (.tmp 105)) 0 "search.go:205" #[(.mk 7 .data)] none), (.mk (some 107) (.fieldAddr 108 (.tmp 106) 2) 0 "search.go:205" #[(.mk 8 .data)] none), (.mk (some 108) (.load 3 (.tmp 107)) 3 "search.go:205" #[(.mk 9 .data)] none), (.mk (some 109) (.load 99 (.tmp 12)) 99 "search.go:205" #[] none), (.mk (some 110) (.nilCheck (.tmp 109)) 0 "search.go:205" #[(.mk 11 .data)] none), (.mk (some 111) (.fieldAddr 108 (.tmp 110) 2) 0 "search.go:205" #[(.mk 12 .data)] none), (.mk (some 112) (.load 3 (.tmp 111)) 3 "search.go:205" #[(.mk 13 .data)] none), (.mk (some 113) (.binOp .add 3 (.tmp 108) (.tmp 112) 3) 3 "search.go:205" #[(.mk 10 .data), (.mk 14 .data)] none), (.mk (some 114) (.call (.mk (.builtin .min) #[(.tmp 113), (.const (.int .i64 1099511627776))] #[3, 3])) 3 "search.go:205" #[(.mk 15 .data)] none), (.mk (some 115) (.nilCheck (.tmp 101)) 0 "search.go:205" #[(.mk 3 .data), (.mk 0 .phase), (.mk 1 .phase), (.mk 2 .phase), (.mk 3 .phase), (.mk 4 .phase), (.mk 5 .phase), (.mk 6 .phase), (.mk 7 .phase), (.mk 8 .phase), (.mk 9 .phase), (.mk 10 .phase), (.mk 11 .phase), (.mk 12 .phase), (.mk 13 .phase), (.mk 14 .phase), (.mk 15 .phase), (.mk 16 .phase)] none), (.mk (some 116) (.fieldAddr 108 (.tmp 115) 2) 0 "search.go:205" #[(.mk 17 .data), (.mk 0 .phase), (.mk 1 .phase), (.mk 2 .phase), (.mk 3 .phase), (.mk 4 .phase), (.mk 5 .phase), (.mk 6 .phase), (.mk 7 .phase), (.mk 8 .phase), (.mk 9 .phase), (.mk 10 .phase), (.mk 11 .phase), (.mk 12 .phase), (.mk 13 .phase), (.mk 14 .phase), (.mk 15 .phase), (.mk 16 .phase)] none), (.mk none (.store 3 (.tmp 116) (.tmp 114)) 0 "search.go:205" #[(.mk 18 .data), (.mk 16 .data), (.mk 0 .phase), (.mk 1 .phase), (.mk 2 .phase), (.mk 3 .phase), (.mk 4 .phase), (.mk 5 .phase), (.mk 6 .phase), (.mk 7 .phase), (.mk 8 .phase), (.mk 9 .phase), (.mk 10 .phase), (.mk 11 .phase), (.mk 12 .phase), (.mk 13 .phase), (.mk 14 .phase), (.mk 15 .phase), (.mk 16 .phase)] none)] true) (.region 25 #[(.mk (some 117) (.load 99 (.tmp 12)) 99 "search.go:206" #[] none), (.mk (some 118) (.load 99 (.tmp 12)) 99 "search.go:206" #[] none), (.mk (some 119) (.nilCheck (.tmp 118)) 0 "search.go:206" #[(.mk 1 .data)] none), (.mk (some 120) (.fieldAddr 108 (.tmp 119) 1) 0 "search.go:206" #[(.mk 2 .data)] none), (.mk (some 121) (.load 106 (.tmp 120)) 106 "search.go:206" #[(.mk 3 .data)] none), (.mk (some 122) (.load 112 (.tmp 13)) 112 "search.go:206" #[] none), (.mk (some 123) (.move (.tmp 17)) 3 "search.go:206" #[] none), (.mk (some 124) (.build 114 #[(0, (.tmp 122)), (1, (.tmp 123))]) 114 "search.go:206" #[(.mk 5 .data), (.mk 6 .data)] none), (.mk (some 125) (.buildSlice 106 1 #[(0, (.tmp 124))]) 106 "search.go:206" #[(.mk 7 .data)] none), (.mk (some 126) (.call (.mk (.builtin .append) #[(.tmp 121), (.tmp 125)] #[106, 106])) 106 "search.go:206" #[(.mk 4 .data), (.mk 8 .data)] none), (.mk (some 127) (.nilCheck (.tmp 117)) 0 "search.go:206" #[(.mk 0 .data), (.mk 0 .phase), (.mk 1 .phase), (.mk 2 .phase), (.mk 3 .phase), (.mk 4 .phase), (.mk 5 .phase), (.mk 6 .phase), (.mk 7 .phase), (.mk 8 .phase), (.mk 9 .phase)] none), (.mk (some 128) (.fieldAddr 108 (.tmp 127) 1) 0 "search.go:206" #[(.mk 10 .data), (.mk 0 .phase), (.mk 1 .phase), (.mk 2 .phase), (.mk 3 .phase), (.mk 4 .phase), (.mk 5 .phase), (.mk 6 .phase), (.mk 7 .phase), (.mk 8 .phase), (.mk 9 .phase)] none), (.mk none (.store 106 (.tmp 128) (.tmp 126)) 0 "search.go:206" #[(.mk 11 .data), (.mk 9 .data), (.mk 9 .chain), (.mk 0 .phase), (.mk 1 .phase), (.mk 2 .phase), (.mk 3 .phase), (.mk 4 .phase), (.mk 5 .phase), (.mk 6 .phase), (.mk 7 .phase), (.mk 8 .phase), (.mk 9 .phase)] none)] true))))))))))))) (.ops 0 [oo 129 (.bin .add) [.t 52, kk 1], oo 52 .mv [.t 129]]))))))) (.seq (.seq (.ops 0 [oo 130 .ld1 [.t 10], oo 131 .len [.t 130], oo 132 (.bin .eql) [.t 131, kk 0]]) (.cond (.t 132) (.seq (.ops 0 [oo 133 .ld1 [.t 6], ⟨none, none, (.st 1), [.t 4, .t 133], none⟩, ⟨none, none, (.st 1), [.t 5, kk 102], none⟩]) .ret) .skip)) (.seq (.seq (.ops 0 [oo 134 .mv [.t 7], oo 135 (.fldA 2) [.t 2], oo 136 .ld1 [.t 135], oo 137 .len [.t 136], oo 138 (.bin .sub) [.t 137, kk 1], oo 139 (.bin .lss) [.t 134, .t 138], oo 140 .mv [.t 139], og 141 140 true .ld1 [.t 10], og 142 140 true .len [.t 141], og 143 140 true (.bin .gtr) [.t 142, kk 1000], oo 144 .pick [.t 140, .t 143, (.c (.lit (.bool false)))]]) (.cond (.t 144) (.seq (.ops 0 [oo 145 .ld1 [.t 6], ⟨none, none, (.st 1), [.t 4, .t 145], none⟩, ⟨none, none, (.st 1), [.t 5, kk 2], none⟩]) .ret) .skip)) (.ops 11 [od 146 .ld1 [.t 6] [], od 147 .ld1 [.t 6] [], oo 148 .nilck [.t 147], oo 149 (.fldA 15) [.t 148], od 150 .ld1 [.t 149] [1, 2, 3], od 151 .ld1 [.t 10] [], ⟨(some 152), none, (.mkslB 95 1 1 [(.sl 0 [] .exact)] [(0, 1)]), [.t 151], (some [5])⟩, oo 153 (.appL 95 1 24) [.t 150, .t 152, .t 6], oo 154 .nilck [.t 146], oo 155 (.fldA 15) [.t 154], ⟨none, none, (.st 1), [.t 155, .t 153], none⟩])))))))))) (.ops 0 [oo 156 (.bin .add) [.t 30, kk 1], oo 30 .mv [.t 156]]))))))) (.seq (.ops 0 [oo 157 .ld1 [.t 6], oo 158 (.call 155) [.t 157]]) (.seq (.ops 0 [oo 159 .ld1 [.t 6], ⟨none, none, (.st 1), [.t 4, .t 159], none⟩, ⟨none, none, (.st 1), [.t 5, kk 0], none⟩]) .ret))))), [(.c 4 1 false), (.c 5 1 false)]⟩
theorem dk_83 : callable Tryz.prog 83 = true ∧ ∃ bx, Comp Tryz.prog bx gtab 83 d_83.nt d_83.c d_83.rs := ⟨kr, (fun n => !([1000022, 1000026].contains n)), ⟨⟨Tryz.f83, _, Tryz.func83, rfl, rfl, kr, kr⟩⟩⟩
def d_286 : Fd := ⟨94, (.seq (.ops 3 [oo 3 (.box 31) [.t 0], oo 4 (.box 102) [.t 1], oo 6 .mv [(.c (.lit (.bool false)))]]) (.seq (.seq (.ops 0 [oo 7 .mv [kk 1]]) (.block 0 (.loop (.seq (.seq (.ops 0 [oo 15 .mv [.t 7], oo 16 (.fldA 0) [.t 3], oo 17 .ld1 [.t 16], oo 18 .len [.t 17], oo 19 (.bin .leq) [.t 15, .t 18]]) (.cond (.t 19) .skip (.exit 0))) (.seq (.block 1 (.seq (.ops 0 [oo 22 .mv [.t 2], oo 23 .mv [.t 7], oo 24 (.call 218) [.t 22, .t 23], oo 8 .mv [.t 24]]) (.seq (.seq (.ops 0 [oo 25 .mv [.t 8], oo 26 (.bin .lss) [.t 25, kk 0]]) (.cond (.t 26) (.exit 1) .skip)) (.seq (.ops 0 [oo 27 .mv [.t 8], oo 9 .mv [.t 27]]) (.seq (.seq (.ops 0 [oo 28 .mv [.t 2], oo 29 .len [.t 28], oo 30 .mv [kk 0]]) (.block 2 (.loop (.seq (.ops 0 [oo 31 (.bin .lss) [.t 30, .t 29]]) (.seq (.cond (.t 31) .skip (.exit 2)) (.seq (.block 3 (.seq (.ops 0 [oo 32 .mv [.t 30], oo 33 (.ixA 1) [.t 28, .t 30], oo 34 .ld1 [.t 33], oo 10 .mv [.t 32], oo 11 .mv [.t 34]]) (.seq (.ops 0 [oo 35 .mv [.t 11], oo 36 .mv [.t 7], oo 37 (.bin .eql) [.t 35, .t 36]]) (.cond (.t 37) (.ops 0 [oo 38 .mv [.t 10], oo 9 .mv [.t 38]]) .skip)))) (.ops 0 [oo 39 (.bin .add) [.t 30, kk 1], oo 30 .mv [.t 39]]))))))) (.seq (.seq (.ops 0 [oo 40 .mv [.t 8], oo 41 .mv [.t 9], oo 42 (.bin .eql) [.t 40, .t 41]]) (.cond (.t 42) (.exit 1) .skip)) (.seq (.seq (.ops 0 [oo 43 (.fldA 2) [.t 3], oo 44 .ld1 [.t 43], oo 45 .mv [.t 7], oo 46 (.bin .sub) [.t 45, kk 1], oo 47 (.ixA 1) [.t 44, .t 46], oo 48 .ld1 [.t 47], oo 49 (.un .not) [.t 48], oo 50 .mv [.t 49], og 51 50 false (.fldA 0) [.t 4], ⟨(some 52), (some (50, false)), .ld1, [.t 51], (some [0, 1, 2, 3, 4, 5, 6, 7, 8])⟩, og 53 50 false .mv [.t 8], og 54 50 false (.ixA 2) [.t 52, .t 53], og 55 50 false (.fldA 1) [.t 54], ⟨(some 56), (some (50, false)), .ld1, [.t 55], (some [0, 1, 2, 3, 4, 5, 6, 7, 8, 9, 10, 11, 12])⟩, og 57 50 false (.fldA 0) [.t 4], ⟨(some 58), (some (50, false)), .ld1, [.t 57], (some [0, 1, 2, 3, 4, 5, 6, 7, 14])⟩, og 59 50 false .mv [.t 9], og 60 50 false (.ixA 2) [.t 58, .t 59], og 61 50 false (.fldA 1) [.t 60], ⟨(some 62), (some (50, false)), .ld1, [.t 61], (some [0, 1, 2, 3, 4, 5, 6, 7, 14, 15, 16, 17, 18])⟩, og 63 50 false (.bin .neq) [.t 56, .t 62], oo 64 .pick [.t 50, (.c (.lit (.bool true))), .t 63]]) (.cond (.t 64) (.seq (.ops 0 [oo 6 .mv [(.c (.lit (.bool false)))]]) .ret) .skip)) (.seq (.ops 24 [oo 65 (.fldA 0) [.t 4], od 66 .ld1 [.t 65] [0], oo 67 .mv [.t 8], oo 68 (.ixA 2) [.t 66, .t 67], oo 69 (.fldA 0) [.t 68], od 70 .ld1 [.t 69] [0, 1, 2, 3, 4], oo 71 (.fldA 0) [.t 4], od 72 .ld1 [.t 71] [6], oo 73 .mv [.t 9], oo 74 (.ixA 2) [.t 72, .t 73], oo 75 (.fldA 0) [.t 74], od 76 .ld1 [.t 75] [6, 7, 8, 9, 10], oo 77 (.fldA 0) [.t 4], od 78 .ld1 [.t 77] [12], oo 79 .mv [.t 8], oo 80 (.ixA 2) [.t 78, .t 79], oo 81 (.fldA 1) [.t 80], od 82 .ld1 [.t 81] [12, 13, 14, 15, 16], od 12 (.alloc 3 [li 0]) [] [], od 13 (.alloc 3 [li 0]) [] [], od 14 (.alloc 3 [li 0]) [] [], ⟨none, none, (.st 1), [.t 12, .t 70], (some [18])⟩, ⟨none, none, (.st 1), [.t 13, .t 76], (some [19])⟩, ⟨none, none, (.st 1), [.t 14, .t 82], none⟩]) (.seq (.seq (.ops 0 [oo 83 (.fldA 2) [.t 4], oo 84 .ld1 [.t 83], oo 85 (.mkfn 335) [.t 12, .t 13], oo 86 (.call 215) [.t 84, .t 85]]) (.cond (.t 86) (.seq (.ops 0 [oo 6 .mv [(.c (.lit (.bool false)))]]) .ret) .skip)) (.seq (.ops 0 [oo 87 (.fldA 0) [.t 4], oo 88 .ld1 [.t 87], oo 89 .mv [.t 8], oo 90 .mv [.t 9], oo 91 (.slc 2 true true) [.t 88, .t 89, .t 90], oo 92 (.mkfn 337) [.t 14], oo 93 (.call 336) [.t 91, .t 92]]) (.cond (.t 93) (.seq (.ops 0 [oo 6 .mv [(.c (.lit (.bool false)))]]) .ret) .skip))))))))))) (.ops 0 [oo 20 .mv [.t 7], oo 21 (.bin .add) [.t 20, kk 1], oo 7 .mv [.t 21]])))))) (.seq (.ops 0 [oo 6 .mv [(.c (.lit (.bool true)))]]) .ret))), [.t 6]⟩
theorem dk_286 : callable Tryz.prog 286 = true ∧ ∃ bx, Comp Tryz.prog bx gtab 286 d_286.nt d_286.c d_286.rs := ⟨kr, (fun n => !([1000003, 1000004].contains n)), ⟨⟨Tryz.f286, _, Tryz.func286, rfl, rfl, kr, kr⟩⟩⟩
def d_19 : Fd := ⟨73, (.seq (.ops 0 [oo 0 .mv [(.c (.lit (.bool false)))]]) (.seq (.ops 4 [oo 8 (.call 59) [], ⟨(some 9), none, (.build [(.sl 0 [] .exact), (.sl 0 [] .exact), (.sl 0 [] .exact), li 0, li 0, li 0, li 0, li 0, li 0, li 0, li 0, (.lit (.bool false))] [(0, 10)]), [.t 8], none⟩, ⟨(some 1), none, (.alloc 33 [(.sl 0 [] .exact), (.sl 0 [] .exact), (.sl 0 [] .exact), li 0, li 0, li 0, li 0, li 0, li 0, li 0, li 0, (.lit (.bool false))]), [], none⟩, ⟨none, none, (.st 12), [.t 1, .t 9], none⟩]) (.seq (.ops 0 [od 11 (.call 60) [] [], od 12 (.ldA 12) [.t 1] [], oo 13 (.call 23) [.t 11, .t 12], oo 10 .mv [.t 13], oo 14 (.ext 0) [.t 10], oo 15 (.ext 1) [.t 10], oo 2 .mv [.t 14], oo 3 .mv [.t 15]]) (.seq (.ops 0 [oo 16 (.fldA 11) [.t 1], ⟨none, none, (.st 1), [.t 16, (.c (.lit (.bool true)))], none⟩]) (.seq (.ops 0 [od 18 (.call 60) [] [], od 19 (.ldA 12) [.t 1] [], oo 20 (.call 23) [.t 18, .t 19], oo 17 .mv [.t 20], oo 21 (.ext 0) [.t 17], oo 22 (.ext 1) [.t 17], oo 4 .mv [.t 21], oo 5 .mv [.t 22]]) (.seq (.ops 9 [od 24 (.call 60) [] [], od 25 (.ldA 12) [.t 1] [], oo 26 (.callL 20 [6]) [.t 24, .t 25], oo 23 .mv [.t 26], oo 27 (.ext 0) [.t 23], oo 28 (.ext 1) [.t 23], ⟨(some 6), none, (.alloc 28 [(.sl 0 [] .exact), (.sl 0 [] .exact), (.sl 0 [] .exact)]), [], (some [])⟩, ⟨none, none, (.st 3), [.t 6, .t 27], none⟩, oo 7 .mv [.t 28]]) (.seq (.ops 0 [oo 29 .mv [.t 2], oo 30 (.bin .eql) [.t 29, kk 4], oo 31 .mv [.t 30], og 32 31 true .mv [.t 4], og 33 31 true (.bin .eql) [.t 32, kk 2], oo 34 .pick [.t 31, .t 33, (.c (.lit (.bool false)))], oo 35 .mv [.t 34], og 36 35 true .mv [.t 3], og 37 35 true (.bin .eql) [.t 36, kk 0], oo 38 .pick [.t 35, .t 37, (.c (.lit (.bool false)))], oo 39 .mv [.t 38], og 40 39 true .mv [.t 5], og 41 39 true (.bin .eql) [.t 40, kk 0], oo 42 .pick [.t 39, .t 41, (.c (.lit (.bool false)))], oo 43 .mv [.t 42], og 44 43 true .mv [.t 7], og 45 43 true (.bin .eql) [.t 44, kk 0], oo 46 .pick [.t 43, .t 45, (.c (.lit (.bool false)))], oo 47 .mv [.t 46], og 48 47 true (.fldA 2) [.t 6], og 49 47 true .ld1 [.t 48], og 50 47 true .len [.t 49], og 51 47 true (.bin .eql) [.t 50, kk 2], oo 52 .pick [.t 47, .t 51, (.c (.lit (.bool false)))], oo 53 .mv [.t 52], og 54 53 true (.fldA 2) [.t 6], og 55 53 true .ld1 [.t 54], og 56 53 true (.ixA 4) [.t 55, kk 0], og 57 53 true (.fldA 3) [.t 56], og 58 53 true .ld1 [.t 57], og 59 53 true .len [.t 58], og 60 53 true (.bin .eql) [.t 59, kk 2], oo 61 .pick [.t 53, .t 60, (.c (.lit (.bool false)))], oo 62 .mv [.t 61], og 63 62 true (.fldA 2) [.t 6], og 64 62 true .ld1 [.t 63], og 65 62 true (.ixA 4) [.t 64, kk 0], og 66 62 true (.fldA 3) [.t 65], og 67 62 true .ld1 [.t 66], og 68 62 true (.ixA 1) [.t 67, kk 1], og 69 62 true .ld1 [.t 68], og 70 62 true (.mksl 1 1 [li 0] [(0, 1)]) [kk (-1)], og 71 62 true (.call 61) [.t 69, .t 70], oo 72 .pick [.t 62, .t 71, (.c (.lit (.bool false)))], oo 0 .mv [.t 72]]) .ret))))))), [.t 0]⟩
theorem dk_19 : callable Tryz.prog 19 = true ∧ ∃ bx, Comp Tryz.prog bx gtab 19 d_19.nt d_19.c d_19.rs := ⟨kr, nobx, ⟨⟨Tryz.f19, _, Tryz.func19, rfl, rfl, kr, kr⟩⟩⟩
def d_72 : Fd := ⟨71, (.seq (.ops 0 [oo 2 .boxE [.t 0], oo 3 .boxE [.t 1], oo 4 .mv [(.c (.lit (.bool false)))]]) (.seq (.seq (.ops 0 [oo 7 (.fldA 3) [.t 3], oo 8 .ld1 [.t 7], oo 9 .len [.t 8], oo 10 (.fldA 0) [.t 2], oo 11 .ld1 [.t 10], oo 12 .len [.t 11], oo 13 (.bin .neq) [.t 9, .t 12], oo 14 .mv [.t 13], og 15 14 false (.fldA 2) [.t 3], og 16 14 false .ld1 [.t 15], og 17 14 false (.call 143) [.t 16, (.c (.fn 118 []))], og 18 14 false (.un .not) [.t 17], oo 19 .pick [.t 14, (.c (.lit (.bool true))), .t 18], oo 20 .mv [.t 19], og 21 20 false (.fldA 2) [.t 3], og 22 20 false .ld1 [.t 21], og 23 20 false (.call 144) [.t 22, (.c (.fn 145 []))], oo 24 .pick [.t 20, (.c (.lit (.bool true))), .t 23]]) (.cond (.t 24) (.seq (.ops 0 [oo 4 .mv [(.c (.lit (.bool false)))]]) .ret) .skip)) (.seq (.seq (.ops 0 [oo 25 (.fldA 3) [.t 3], oo 26 .ld1 [.t 25], oo 27 .len [.t 26], oo 28 .mv [kk 0]]) (.block 0 (.loop (.seq (.ops 0 [oo 29 (.bin .lss) [.t 28, .t 27]]) (.seq (.cond (.t 29) .skip (.exit 0)) (.seq (.block 1 (.seq (.ops 0 [oo 30 .mv [.t 28], oo 31 (.ixA 1) [.t 26, .t 28], oo 32 .ld1 [.t 31], oo 5 .mv [.t 30], oo 6 .mv [.t 32]]) (.seq (.ops 0 [oo 33 .mv [.t 6], oo 34 (.call 147) [.t 33, (.c (.fn 121 []))], oo 35 (.un .not) [.t 34], oo 36 .mv [.t 35], og 37 36 false .mv [.t 6], og 38 36 false (.ixA 1) [.t 37, kk 0], og 39 36 false .ld1 [.t 38], og 40 36 false (.bin .lss) [.t 39, kk (-1)], oo 41 .pick [.t 36, (.c (.lit (.bool true))), .t 40], oo 42 .mv [.t 41], og 43 42 false .mv [.t 6], og 44 42 false .mv [.t 6], og 45 42 false .len [.t 44], og 46 42 false (.bin .sub) [.t 45, kk 1], og 47 42 false (.ixA 1) [.t 43, .t 46], ⟨(some 48), (some (42, false)), .ld1, [.t 47], (some [0, 1, 2, 3, 4, 5, 6, 7, 8, 9, 10, 11, 12, 13, 14])⟩, og 49 42 false (.fldA 0) [.t 2], ⟨(some 50), (some (42, false)), .ld1, [.t 49], (some [0, 1, 2, 3, 4, 5, 6, 7, 8, 9, 16])⟩, og 51 42 false .mv [.t 5], og 52 42 false (.ixA 3) [.t 50, .t 51], og 53 42 false (.fldA 1) [.t 52], ⟨(some 54), (some (42, false)), .ld1, [.t 53], (some [0, 1, 2, 3, 4, 5, 6, 7, 8, 9, 16, 17, 18, 19, 20])⟩, og 55 42 false (.bin .gtr) [.t 48, .t 54], oo 56 .pick [.t 42, (.c (.lit (.bool true))), .t 55], oo 57 .mv [.t 56], og 58 57 false (.fldA 1) [.t 3], og 59 57 false .ld1 [.t 58], og 60 57 false .mv [.t 59], og 61 60 true .mv [.t 6], og 62 60 true .mv [.t 6], og 63 60 true .len [.t 62], og 64 60 true (.bin .sub) [.t 63, kk 1], og 65 60 true (.ixA 1) [.t 61, .t 64], og 66 60 true .ld1 [.t 65], og 67 60 true (.bin .gtr) [.t 66, kk (-1)], og 68 57 false .pick [.t 60, .t 67, (.c (.lit (.bool false)))], oo 69 .pick [.t 57, (.c (.lit (.bool true))), .t 68]]) (.cond (.t 69) (.seq (.ops 0 [oo 4 .mv [(.c (.lit (.bool false)))]]) .ret) .skip)))) (.ops 0 [oo 70 (.bin .add) [.t 28, kk 1], oo 28 .mv [.t 70]]))))))) (.seq (.ops 0 [oo 4 .mv [(.c (.lit (.bool true)))]]) .ret)))), [.t 4]⟩
theorem dk_72 : callable Tryz.prog 72 = true ∧ ∃ bx, Comp Tryz.prog bx gtab 72 d_72.nt d_72.c d_72.rs := ⟨kr, allbx, ⟨⟨Tryz.f72, _, Tryz.func72, rfl, rfl, kr, kr⟩⟩⟩
def d_186 : Fd := ⟨52, (.seq (.ops 0 [oo 2 .mv [(.c (.lit (.bool false)))]]) (.seq (.ops 4 [oo 9 .mv [.t 0], oo 10 .len [.t 9], oo 11 (.mk 3 1 8 [li 0]) [.t 10, .t 10], oo 3 .mv [.t 11]]) (.seq (.ops 0 [oo 12 .mv [.t 3], oo 13 .mv [.t 0], oo 14 .cpy [.t 12, .t 13]]) (.seq (.ops 0 [oo 15 .mv [.t 3], oo 16 (.call 229) [.t 15]]) (.seq (.seq (.ops 0 [oo 17 .mv [.t 3], oo 18 .len [.t 17], oo 19 .mv [kk 0]]) (.block 0 (.loop (.seq (.ops 0 [oo 20 (.bin .lss) [.t 19, .t 18]]) (.seq (.cond (.t 20) .skip (.exit 0)) (.seq (.block 1 (.seq (.ops 0 [oo 21 .mv [.t 19], oo 22 (.ixA 1) [.t 17, .t 19], oo 23 .ld1 [.t 22], oo 4 .mv [.t 21], oo 5 .mv [.t 23]]) (.seq (.ops 0 [oo 24 .mv [.t 3], oo 25 .mv [.t 4], oo 26 (.bin .add) [.t 25, kk 1], oo 27 (.slc 1 true false) [.t 24, .t 26], oo 28 .len [.t 27], oo 29 .mv [kk 0]]) (.block 2 (.loop (.seq (.ops 0 [oo 30 (.bin .lss) [.t 29, .t 28]]) (.seq (.cond (.t 30) .skip (.exit 2)) (.seq (.block 3 (.seq (.ops 0 [oo 31 (.ixA 1) [.t 27, .t 29], oo 32 .ld1 [.t 31], oo 7 .mv [.t 32]]) (.seq (.ops 0 [oo 33 .mv [.t 7], oo 34 (.cvt .u64) [.t 33], oo 35 .mv [.t 5], oo 36 (.cvt .u64) [.t 35], oo 37 (.bin .sub) [.t 34, .t 36], oo 8 .mv [.t 37]]) (.seq (.ops 0 [oo 38 .mv [.t 8], oo 39 (.bin .rem) [.t 38, (.c (.lit (.int .u64 12)))]]) (.block 4 (.seq (.seq (.ops 0 [oo 41 (.bin .eql) [.t 39, (.c (.lit (.int .u64 1)))], oo 40 .mv [.t 41]]) (.cond (.t 40) .skip (.seq (.ops 0 [oo 42 (.bin .eql) [.t 39, (.c (.lit (.int .u64 2)))], oo 40 .mv [.t 42]]) (.cond (.t 40) .skip (.seq (.ops 0 [oo 43 (.bin .eql) [.t 39, (.c (.lit (.int .u64 10)))], oo 40 .mv [.t 43]]) (.cond (.t 40) .skip (.ops 0 [oo 44 (.bin .eql) [.t 39, (.c (.lit (.int .u64 11)))], oo 40 .mv [.t 44]]))))))) (.cond (.t 40) (.seq (.ops 0 [oo 2 .mv [(.c (.lit (.bool false)))]]) .ret) (.seq (.seq (.ops 0 [oo 46 (.bin .eql) [.t 39, (.c (.lit (.int .u64 5)))], oo 45 .mv [.t 46]]) (.cond (.t 45) .skip (.ops 0 [oo 47 (.bin .eql) [.t 39, (.c (.lit (.int .u64 6)))], oo 45 .mv [.t 47]]))) (.cond (.t 45) (.seq (.ops 0 [oo 48 .mv [.t 4], oo 49 (.bin .eql) [.t 48, kk 0]]) (.cond (.t 49) (.seq (.ops 0 [oo 2 .mv [(.c (.lit (.bool false)))]]) .ret) .skip)) .skip))))))))) (.ops 0 [oo 50 (.bin .add) [.t 29, kk 1], oo 29 .mv [.t 50]]))))))))) (.ops 0 [oo 51 (.bin .add) [.t 19, kk 1], oo 19 .mv [.t 51]]))))))) (.seq (.ops 0 [oo 2 .mv [(.c (.lit (.bool true)))]]) .ret)))))), [.t 2]⟩
theorem dk_186 : callable Tryz.prog 186 = true ∧ ∃ bx, Comp Tryz.prog bx gtab 186 d_186.nt d_186.c d_186.rs := ⟨kr, allbx, ⟨⟨Tryz.f186, _, Tryz.func186, rfl, rfl, kr, kr⟩⟩⟩
def d_60 : Fd := ⟨22, (.seq (.ops 1 [⟨(some 0), none, (.alloc 28 [(.sl 0 [] .exact), (.sl 0 [] .exact), (.sl 0 [] .exact)]), [], none⟩]) (.seq (.ops 7 [oo 2 (.build [li 0, li 0, (.lit (.bool false))] [(0, 1), (1, 1)]) [kk 67, kk 5], oo 3 (.build [li 0, li 0, (.lit (.bool false))] [(0, 1), (1, 1)]) [kk 62, kk 5], oo 4 (.mkslB 188 2 3 [li 0, li 0, (.lit (.bool false)), li 0, li 0, (.lit (.bool false))] [(0, 3), (3, 3)]) [.t 2, .t 3], oo 5 (.mkslB 3 5 1 [li 0, li 0, li 0, li 0, li 0] [(0, 1), (1, 1), (2, 1), (3, 1), (4, 1)]) [kk 1, kk 2, kk 3, kk 4, kk 5], ⟨(some 6), none, (.build [(.sl 0 [] .exact), (.sl 0 [] .exact)] [(0, 1), (1, 1)]), [.t 4, .t 5], none⟩, ⟨(some 1), none, (.alloc 25 [(.sl 0 [] .exact), (.sl 0 [] .exact)]), [], none⟩, ⟨none, none, (.st 2), [.t 1, .t 6], none⟩]) (.seq (.ops 16 [oo 7 (.ldA 2) [.t 1], oo 8 (.build [li 0, (.lit (.bool false)), (.lit (.bool false))] [(0, 1)]) [kk 3], oo 9 (.mkslB 110 1 3 [li 0, (.lit (.bool false)), (.lit (.bool false))] [(0, 3)]) [.t 8], oo 10 (.mkslB 3 1 1 [li 0] [(0, 1)]) [kk 0], oo 11 (.mkslB 3 2 1 [li 0, li 0] [(0, 1), (1, 1)]) [kk (-1), kk 3], ⟨(some 12), none, (.mkslB 23 2 1 [(.sl 0 [] .exact), (.sl 0 [] .exact)] [(0, 1), (1, 1)]), [.t 10, .t 11], none⟩, ⟨(some 13), none, (.build [(.lit (.bool false)), (.lit (.bool false)), (.sl 0 [] .exact), (.sl 0 [] .exact)] [(2, 1), (3, 1)]), [.t 9, .t 12], none⟩, oo 14 (.build [li 0, (.lit (.bool false)), (.lit (.bool false))] [(0, 1)]) [kk 4], oo 15 (.mkslB 110 1 3 [li 0, (.lit (.bool false)), (.lit (.bool false))] [(0, 3)]) [.t 14], oo 16 (.mkslB 3 2 1 [li 0, li 0] [(0, 1), (1, 1)]) [kk 1, kk 2], oo 17 (.mkslB 3 1 1 [li 0] [(0, 1)]) [kk (-1)], ⟨(some 18), none, (.mkslB 23 2 1 [(.sl 0 [] .exact), (.sl 0 [] .exact)] [(0, 1), (1, 1)]), [.t 16, .t 17], none⟩, ⟨(some 19), none, (.build [(.lit (.bool false)), (.lit (.bool false)), (.sl 0 [] .exact), (.sl 0 [] .exact)] [(0, 1), (2, 1), (3, 1)]), [(.c (.lit (.bool true))), .t 15, .t 18], none⟩, ⟨(some 20), none, (.mkslB 84 2 4 [(.lit (.bool false)), (.lit (.bool false)), (.sl 0 [] .exact), (.sl 0 [] .exact), (.lit (.bool false)), (.lit (.bool false)), (.sl 0 [] .exact), (.sl 0 [] .exact)] [(0, 4), (4, 4)]), [.t 13, .t 19], none⟩, ⟨(some 21), none, (.build [(.sl 0 [] .exact), (.sl 0 [] .exact), (.sl 0 [] .exact)] [(0, 2), (2, 1)]), [.t 7, .t 20], none⟩, ⟨none, none, (.st 3), [.t 0, .t 21], none⟩]) .ret))), [(.c 0 3 true)]⟩
theorem dk_60 : callable Tryz.prog 60 = true ∧ ∃ bx, Comp Tryz.prog bx gtab 60 d_60.nt d_60.c d_60.rs := ⟨kr, allbx, ⟨⟨Tryz.f60, _, Tryz.func60, rfl, rfl, kr, kr⟩⟩⟩
def d_210 : Fd := ⟨48, (.seq (.ops 5 [oo 3 (.box 88) [.t 0], oo 4 (.box 105) [.t 1], oo 5 (.box 102) [.t 2], oo 6 .mv [(.c (.sl 0 [] .exact))], oo 7 .mv [kk 0]]) (.seq (.ops 0 [od 12 .ld1 [.t 3] [], oo 13 .nilck [.t 12], oo 14 (.fldA 3) [.t 13], oo 15 (.fldA 0) [.t 14], od 16 (.ldA 10) [.t 15] [0, 1, 2, 3], od 17 (.ldA 3) [.t 5] [], oo 18 (.call 254) [.t 16, .t 17], oo 11 .mv [.t 18], oo 19 (.ext 0) [.t 11], oo 20 (.ext 1) [.t 11], oo 8 .mv [.t 19], oo 7 .mv [.t 20]]) (.seq (.seq (.ops 0 [oo 21 .mv [.t 7], oo 22 (.bin .neq) [.t 21, kk 0], oo 23 .mv [.t 22], og 24 23 false .ld1 [.t 3], og 25 23 false .nilck [.t 24], og 26 23 false (.fldA 16) [.t 25], og 27 23 false .ld1 [.t 26], og 28 23 false (.bin .eql) [.t 27, kk 0], oo 29 .pick [.t 23, (.c (.lit (.bool true))), .t 28]]) (.cond (.t 29) (.seq (.ops 0 [oo 30 .mv [.t 8], oo 31 .mv [.t 7], oo 6 .mv [.t 30], oo 7 .mv [.t 31]]) .ret) .skip)) (.seq (.seq (.ops 0 [oo 32 .mv [.t 8], oo 33 .len [.t 32], oo 34 .mv [kk 0]]) (.block 0 (.loop (.seq (.ops 0 [oo 35 (.bin .lss) [.t 34, .t 33]]) (.seq (.cond (.t 35) .skip (.exit 0)) (.seq (.block 1 (.seq (.ops 4 [oo 36 (.ixA 2) [.t 32, .t 34], oo 37 (.ldA 2) [.t 36], ⟨(some 10), none, (.alloc 262 [li 0, (.sl 0 [] .exact)]), [], none⟩, ⟨none, none, (.st 2), [.t 10, .t 37], none⟩]) (.seq (.ops 0 [oo 38 (.fldA 4) [.t 4], oo 39 .ld1 [.t 38], oo 40 (.mkfn 256) [.t 3, .t 4, .t 5, .t 10], oo 41 (.call 255) [.t 39, .t 40]]) (.cond (.t 41) (.ops 5 [oo 42 .mv [.t 6], oo 43 (.ldA 2) [.t 10], ⟨(some 44), none, (.mkslB 262 1 2 [li 0, (.sl 0 [] .exact)] [(0, 2)]), [.t 43], none⟩, oo 45 (.appM 262 2 32) [.t 42, .t 44], oo 6 .mv [.t 45]]) .skip)))) (.ops 0 [oo 46 (.bin .add) [.t 34, kk 1], oo 34 .mv [.t 46]]))))))) (.seq (.ops 0 [oo 47 .mv [.t 6], oo 6 .mv [.t 47], oo 7 .mv [kk 0]]) .ret))))), [.t 6, .t 7]⟩
theorem dk_210 : callable Tryz.prog 210 = true ∧ ∃ bx, Comp Tryz.prog bx gtab 210 d_210.nt d_210.c d_210.rs := ⟨kr, (fun n => !([1000003, 1000004, 1000005].contains n)), ⟨⟨Tryz.f210, _, Tryz.func210, rfl, rfl, kr, kr⟩⟩⟩
def d_27 : Fd := ⟨38, (.seq (.ops 0 [oo 1 .boxE [.t 0], oo 2 .mv [kk 0]]) (.seq (.seq (.ops 0 [oo 6 (.fldA 0) [.t 1], oo 7 (.ldA 2) [.t 6], oo 8 (.call 71) [.t 7], oo 3 .mv [.t 8]]) (.seq (.ops 0 [oo 9 .mv [.t 3], oo 10 (.bin .neq) [.t 9, kk 0]]) (.cond (.t 10) (.seq (.ops 0 [oo 11 .mv [.t 3], oo 2 .mv [.t 11]]) .ret) .skip))) (.seq (.seq (.ops 0 [oo 12 (.fldA 2) [.t 1], oo 13 .ld1 [.t 12], oo 14 .len [.t 13], oo 15 (.bin .gtr) [.t 14, kk 400]]) (.cond (.t 15) (.seq (.ops 0 [oo 2 .mv [kk 2]]) .ret) .skip)) (.seq (.seq (.ops 0 [oo 16 (.fldA 2) [.t 1], oo 17 .ld1 [.t 16], oo 18 .len [.t 17], oo 19 .mv [kk 0]]) (.block 0 (.loop (.seq (.ops 0 [oo 20 (.bin .lss) [.t 19, .t 18]]) (.seq (.cond (.t 20) .skip (.exit 0)) (.seq (.block 1 (.seq (.ops 6 [oo 21 .mv [.t 19], oo 22 (.ixA 4) [.t 17, .t 19], oo 23 (.ldA 4) [.t 22], ⟨(some 5), none, (.alloc 84 [(.lit (.bool false)), (.lit (.bool false)), (.sl 0 [] .exact), (.sl 0 [] .exact)]), [], none⟩, oo 4 .mv [.t 21], ⟨none, none, (.st 4), [.t 5, .t 23], none⟩]) (.seq (.ops 0 [oo 24 (.fldA 0) [.t 1], oo 25 (.ldA 2) [.t 24], oo 26 (.ldA 4) [.t 5], oo 27 (.call 72) [.t 25, .t 26], oo 28 (.un .not) [.t 27], oo 29 .mv [.t 28], og 30 29 false .mv [.t 4], og 31 29 false (.bin .eql) [.t 30, kk 0], og 32 29 false .mv [.t 31], og 33 32 true (.fldA 1) [.t 5], og 34 32 true .ld1 [.t 33], og 35 29 false .pick [.t 32, .t 34, (.c (.lit (.bool false)))], oo 36 .pick [.t 29, (.c (.lit (.bool true))), .t 35]]) (.cond (.t 36) (.seq (.ops 0 [oo 2 .mv [kk 100]]) .ret) .skip)))) (.ops 0 [oo 37 (.bin .add) [.t 19, kk 1], oo 19 .mv [.t 37]]))))))) (.seq (.ops 0 [oo 2 .mv [kk 0]]) .ret))))), [.t 2]⟩
theorem dk_27 : callable Tryz.prog 27 = true ∧ ∃ bx, Comp Tryz.prog bx gtab 27 d_27.nt d_27.c d_27.rs := ⟨kr, allbx, ⟨⟨Tryz.f27, _, Tryz.func27, rfl, rfl, kr, kr⟩⟩⟩
def d_146 : Fd := ⟨37, (.seq (.ops 0 [oo 1 .boxE [.t 0], oo 2 .mv [kk 0]]) (.seq (.seq (.ops 0 [oo 4 (.fldA 0) [.t 1], oo 5 .ld1 [.t 4], oo 6 (.bin .lss) [.t 5, kk 1], oo 7 .mv [.t 6], og 8 7 false (.fldA 0) [.t 1], og 9 7 false .ld1 [.t 8], og 10 7 false (.bin .gtr) [.t 9, kk 7], oo 11 .pick [.t 7, (.c (.lit (.bool true))), .t 10], oo 12 .mv [.t 11], og 13 12 false (.fldA 1) [.t 1], og 14 12 false .ld1 [.t 13], og 15 12 false .mv [.t 14], og 16 15 true (.fldA 2) [.t 1], og 17 15 true .ld1 [.t 16], og 18 12 false .pick [.t 15, .t 17, (.c (.lit (.bool false)))], oo 19 .pick [.t 12, (.c (.lit (.bool true))), .t 18]]) (.cond (.t 19) (.seq (.ops 0 [oo 2 .mv [kk 0]]) .ret) .skip)) (.seq (.ops 0 [oo 20 (.fldA 0) [.t 1], oo 21 .ld1 [.t 20], oo 22 (.bin .sub) [.t 21, kk 1], oo 23 (.bin .shr) [kk 384, .t 22], oo 3 .mv [.t 23]]) (.seq (.block 0 (.seq (.ops 0 [oo 25 (.fldA 1) [.t 1], oo 26 .ld1 [.t 25], oo 24 .mv [.t 26]]) (.cond (.t 24) (.seq (.ops 0 [oo 27 .mv [.t 3], oo 28 (.bin .quo) [.t 27, kk 2], oo 29 (.bin .mul) [.t 28, kk 3], oo 2 .mv [.t 29]]) .ret) (.seq (.ops 0 [oo 31 (.fldA 2) [.t 1], oo 32 .ld1 [.t 31], oo 30 .mv [.t 32]]) (.cond (.t 30) (.seq (.ops 0 [oo 33 .mv [.t 3], oo 34 (.bin .quo) [.t 33, kk 3], oo 35 (.bin .mul) [.t 34, kk 2], oo 2 .mv [.t 35]]) .ret) .skip))))) (.seq (.ops 0 [oo 36 .mv [.t 3], oo 2 .mv [.t 36]]) .ret))))), [.t 2]⟩
theorem dk_146 : callable Tryz.prog 146 = true ∧ ∃ bx, Comp Tryz.prog bx gtab 146 d_146.nt d_146.c d_146.rs := ⟨kr, allbx, ⟨⟨Tryz.f146, _, Tryz.func146, rfl, rfl, kr, kr⟩⟩⟩
def d_334 : Fd := ⟨36, (.seq (.ops 3 [oo 2 (.box 102) [.t 0], oo 3 (.box 102) [.t 1], oo 4 .mv [(.c (.lit (.bool false)))]]) (.seq (.seq (.ops 0 [oo 8 (.fldA 1) [.t 3], oo 9 .ld1 [.t 8], oo 10 .len [.t 9], oo 11 .mv [kk 0]]) (.block 0 (.loop (.seq (.ops 0 [oo 12 (.bin .lss) [.t 11, .t 10]]) (.seq (.cond (.t 12) .skip (.exit 0)) (.seq (.block 1 (.seq (.ops 0 [oo 13 (.ixA 1) [.t 9, .t 11], oo 14 .ld1 [.t 13], oo 6 .mv [.t 14]]) (.seq (.ops 0 [oo 15 (.ldA 3) [.t 2], oo 16 .mv [.t 6], oo 17 (.call 343) [.t 15, .t 16], oo 7 .mv [.t 17]]) (.seq (.ops 0 [oo 18 .mv [.t 7], oo 19 (.bin .lss) [.t 18, kk 0], oo 20 .mv [.t 19], og 21 20 false (.fldA 0) [.t 2], ⟨(some 22), (some (20, false)), .ld1, [.t 21], (some [0, 1, 2, 3])⟩, og 23 20 false .mv [.t 7], og 24 20 false (.ixA 2) [.t 22, .t 23], ⟨(some 25), (some (20, false)), (.ldA 2), [.t 24], (some [0, 1, 2, 3, 4, 5, 6])⟩, og 26 20 false (.fldA 0) [.t 3], ⟨(some 27), (some (20, false)), .ld1, [.t 26], (some [0, 1, 2, 8])⟩, ⟨(some 28), (some (20, false)), (.ldA 3), [.t 3], (some [0, 1, 2])⟩, og 29 20 false .mv [.t 6], ⟨(some 30), (some (20, false)), (.call 343), [.t 28, .t 29], (some [0, 1, 2, 10, 11])⟩, og 31 20 false (.ixA 2) [.t 27, .t 30], ⟨(some 32), (some (20, false)), (.ldA 2), [.t 31], (some [0, 1, 2, 8, 9, 10, 11, 12, 13])⟩, og 33 20 false (.eqP [(0, 0), (1, 0)] true) [.t 25, .t 32], oo 34 .pick [.t 20, (.c (.lit (.bool true))), .t 33]]) (.cond (.t 34) (.seq (.ops 0 [oo 4 .mv [(.c (.lit (.bool false)))]]) .ret) .skip))))) (.ops 0 [oo 35 (.bin .add) [.t 11, kk 1], oo 11 .mv [.t 35]]))))))) (.seq (.ops 0 [oo 4 .mv [(.c (.lit (.bool true)))]]) .ret))), [.t 4]⟩
theorem dk_334 : callable Tryz.prog 334 = true ∧ ∃ bx, Comp Tryz.prog bx gtab 334 d_334.nt d_334.c d_334.rs := ⟨kr, (fun n => !([1000002, 1000003].contains n)), ⟨⟨Tryz.f334, _, Tryz.func334, rfl, rfl, kr, kr⟩⟩⟩
def d_254 : Fd := ⟨23, (.seq (.ops 4 [oo 2 .boxE [.t 0], oo 3 (.box 102) [.t 1], oo 4 .mv [(.c (.sl 0 [] .exact))], oo 5 .mv [kk 0]]) (.seq (.seq (.ops 0 [oo 8 (.ldA 10) [.t 2], oo 9 (.call 75) [.t 8], oo 6 .mv [.t 9]]) (.seq (.ops 0 [oo 10 .mv [.t 6], oo 11 (.bin .neq) [.t 10, kk 0]]) (.cond (.t 11) (.seq (.ops 0 [oo 12 .mv [.t 6], oo 4 .mv [(.c (.sl 0 [] .exact))], oo 5 .mv [.t 12]]) .ret) .skip))) (.seq (.seq (.ops 0 [oo 13 (.ldA 3) [.t 3], oo 14 (.call 310) [.t 13], oo 15 (.un .not) [.t 14]]) (.cond (.t 15) (.seq (.ops 0 [oo 4 .mv [(.c (.sl 0 [] .exact))], oo 5 .mv [kk 1]]) .ret) .skip)) (.seq (.ops 0 [oo 16 (.ldA 10) [.t 2], oo 17 (.ldA 3) [.t 3], oo 18 (.call 234) [.t 16, .t 17], oo 7 .mv [.t 18]]) (.seq (.seq (.ops 0 [oo 19 .mv [.t 7], oo 20 .len [.t 19], oo 21 (.bin .gtr) [.t 20, kk 200]]) (.cond (.t 21) (.seq (.ops 0 [oo 4 .mv [(.c (.sl 0 [] .exact))], oo 5 .mv [kk 2]]) .ret) .skip)) (.seq (.ops 0 [oo 22 .mv [.t 7], oo 4 .mv [.t 22], oo 5 .mv [kk 0]]) .ret)))))), [.t 4, .t 5]⟩
theorem dk_254 : callable Tryz.prog 254 = true ∧ ∃ bx, Comp Tryz.prog bx gtab 254 d_254.nt d_254.c d_254.rs := ⟨kr, (fun n => !([1000003].contains n)), ⟨⟨Tryz.f254, _, Tryz.func254, rfl, rfl, kr, kr⟩⟩⟩
def d_206 : Fd := ⟨24, (.seq (.ops 1 [oo 2 (.box 266) [.t 0]]) (.seq (.ops 6 [oo 7 (.fldA 3) [.t 1], oo 8 .ld1 [.t 7], oo 9 .len [.t 8], oo 10 (.mk 3 1 8 [li 0]) [.t 9, .t 9], ⟨(some 3), none, (.alloc 23 [(.sl 0 [] .exact)]), [], none⟩, ⟨none, none, (.st 1), [.t 3, .t 10], none⟩]) (.seq (.ops 1 [oo 4 (.alloc 267 [(.lit .nilFunc)]) []]) (.seq (.ops 0 [oo 11 (.mkfn 207) [.t 3, .t 2, .t 1, .t 4], ⟨none, none, (.st 1), [.t 4, .t 11], none⟩]) (.seq (.ops 0 [oo 12 (.fldA 2) [.t 1], oo 13 .ld1 [.t 12], oo 14 .len [.t 13], oo 15 .mv [kk 0]]) (.block 0 (.loop (.seq (.ops 0 [oo 16 (.bin .lss) [.t 15, .t 14]]) (.seq (.cond (.t 16) .skip (.exit 0)) (.seq (.block 1 (.seq (.ops 4 [oo 17 (.ixA 3) [.t 13, .t 15], oo 18 (.ldA 3) [.t 17], oo 6 (.alloc 110 [li 0, (.lit (.bool false)), (.lit (.bool false))]) [], ⟨none, none, (.st 3), [.t 6, .t 18], none⟩]) (.seq (.ops 0 [oo 19 .ld1 [.t 4], oo 20 (.ldA 3) [.t 6], oo 21 .callv [.t 19, .t 20, kk 0], oo 22 (.un .not) [.t 21]]) (.cond (.t 22) .ret .skip)))) (.ops 0 [oo 23 (.bin .add) [.t 15, kk 1], oo 15 .mv [.t 23]]))))))))))), []⟩
theorem dk_206 : callable Tryz.prog 206 = true ∧ ∃ bx, Comp Tryz.prog bx gtab 206 d_206.nt d_206.c d_206.rs := ⟨kr, (fun n => !([1000002].contains n)), ⟨⟨Tryz.f206, _, Tryz.func206, rfl, rfl, kr, kr⟩⟩⟩
def d_143 : Fd := ⟨27, (.seq (.ops 0 [oo 4 .mv [(.c (.lit (.bool false)))]]) (.seq (.seq (.ops 0 [oo 5 .mv [kk 1]]) (.block 0 (.loop (.seq (.seq (.ops 0 [oo 6 .mv [.t 5], oo 7 .mv [.t 0], oo 8 .len [.t 7], oo 9 (.bin .lss) [.t 6, .t 8]]) (.cond (.t 9) .skip (.exit 0))) (.seq (.block 1 (.seq (.ops 0 [oo 12 .mv [.t 1], oo 13 .mv [.t 0], oo 14 .mv [.t 5], oo 15 (.bin .sub) [.t 14, kk 1], oo 16 (.ixA 3) [.t 13, .t 15], od 17 (.ldA 3) [.t 16] [1, 2, 3, 4], oo 18 .mv [.t 0], oo 19 .mv [.t 5], oo 20 (.ixA 3) [.t 18, .t 19], od 21 (.ldA 3) [.t 20] [6, 7, 8], oo 22 .callv [.t 12, .t 17, .t 21], oo 23 (.bin .geq) [.t 22, kk 0]]) (.cond (.t 23) (.seq (.ops 0 [oo 4 .mv [(.c (.lit (.bool false)))]]) .ret) .skip))) (.ops 0 [oo 10 .mv [.t 5], oo 11 (.bin .add) [.t 10, kk 1], oo 5 .mv [.t 11]])))))) (.seq (.ops 0 [oo 24 .mv [.t 0], oo 25 .len [.t 24], oo 26 (.bin .gtr) [.t 25, kk 0], oo 4 .mv [.t 26]]) .ret))), [.t 4]⟩
theorem dk_143 : callable Tryz.prog 143 = true ∧ ∃ bx, Comp Tryz.prog bx gtab 143 d_143.nt d_143.c d_143.rs := ⟨kr, allbx, ⟨⟨Tryz.f143, _, Tryz.func143, rfl, rfl, kr, kr⟩⟩⟩
def d_121 : Fd := ⟨20, (.seq (.ops 0 [oo 4 .mv [kk 0]]) (.seq (.ops 0 [oo 7 .mv [.t 0], oo 8 (.call 182) [.t 7], oo 5 .mv [.t 8]]) (.seq (.ops 0 [oo 9 .mv [.t 1], oo 10 (.call 182) [.t 9], oo 6 .mv [.t 10]]) (.seq (.seq (.ops 0 [oo 11 .mv [.t 5]]) (.cond (.t 11) (.seq (.seq (.ops 0 [oo 12 .mv [.t 6]]) (.cond (.t 12) (.seq (.ops 0 [oo 4 .mv [kk 0]]) .ret) .skip)) (.seq (.ops 0 [oo 4 .mv [kk (-1)]]) .ret)) .skip)) (.seq (.seq (.ops 0 [oo 13 .mv [.t 6]]) (.cond (.t 13) (.seq (.ops 0 [oo 4 .mv [kk 1]]) .ret) .skip)) (.seq (.seq (.ops 0 [oo 14 .mv [.t 0], oo 15 .mv [.t 1], oo 16 (.bin .lss) [.t 14, .t 15]]) (.cond (.t 16) (.seq (.ops 0 [oo 4 .mv [kk (-1)]]) .ret) .skip)) (.seq (.seq (.ops 0 [oo 17 .mv [.t 0], oo 18 .mv [.t 1], oo 19 (.bin .gtr) [.t 17, .t 18]]) (.cond (.t 19) (.seq (.ops 0 [oo 4 .mv [kk 1]]) .ret) .skip)) (.seq (.ops 0 [oo 4 .mv [kk 0]]) .ret)))))))), [.t 4]⟩
theorem dk_121 : callable Tryz.prog 121 = true ∧ ∃ bx, Comp Tryz.prog bx gtab 121 d_121.nt d_121.c d_121.rs := ⟨kr, allbx, ⟨⟨Tryz.f121, _, Tryz.func121, rfl, rfl, kr, kr⟩⟩⟩
def d_342 : Fd := ⟨20, (.seq (.ops 0 [oo 2 .mv [(.c (.lit (.bool false)))]]) (.seq (.seq (.ops 0 [oo 3 .mv [kk 1]]) (.block 0 (.loop (.seq (.seq (.ops 0 [oo 4 .mv [.t 3], oo 5 .mv [.t 0], oo 6 .len [.t 5], oo 7 (.bin .lss) [.t 4, .t 6]]) (.cond (.t 7) .skip (.exit 0))) (.seq (.block 1 (.seq (.ops 0 [oo 10 .mv [.t 0], oo 11 .mv [.t 3], oo 12 (.ixA 1) [.t 10, .t 11], od 13 .ld1 [.t 12] [0, 1, 2], oo 14 .mv [.t 0], oo 15 .mv [.t 3], oo 16 (.bin .sub) [.t 15, kk 1], oo 17 (.ixA 1) [.t 14, .t 16], od 18 .ld1 [.t 17] [4, 5, 6, 7], oo 19 (.bin .leq) [.t 13, .t 18]]) (.cond (.t 19) (.seq (.ops 0 [oo 2 .mv [(.c (.lit (.bool false)))]]) .ret) .skip))) (.ops 0 [oo 8 .mv [.t 3], oo 9 (.bin .add) [.t 8, kk 1], oo 3 .mv [.t 9]])))))) (.seq (.ops 0 [oo 2 .mv [(.c (.lit (.bool true)))]]) .ret))), [.t 2]⟩
theorem dk_342 : callable Tryz.prog 342 = true ∧ ∃ bx, Comp Tryz.prog bx gtab 342 d_342.nt d_342.c d_342.rs := ⟨kr, allbx, ⟨⟨Tryz.f342, _, Tryz.func342, rfl, rfl, kr, kr⟩⟩⟩
def d_287 : Fd := ⟨27, (.seq (.ops 2 [oo 4 (.box 31) [.t 0], oo 8 .mv [(.c (.lit (.bool false)))]]) (.seq (.ops 0 [oo 9 .mv [.t 3], oo 10 .mv [.t 1], oo 11 (.fldA 0) [.t 4], od 12 .ld1 [.t 11] [2], oo 13 .mv [.t 2], oo 14 (.bin .sub) [.t 13, kk 1], oo 15 (.ixA 1) [.t 12, .t 14], od 16 .ld1 [.t 15] [2, 3, 4, 5, 6], oo 17 (.bin .add) [.t 10, .t 16], oo 18 .mv [.t 1], oo 19 (.fldA 1) [.t 4], od 20 .ld1 [.t 19] [10], oo 21 .mv [.t 2], oo 22 (.bin .sub) [.t 21, kk 1], oo 23 (.ixA 1) [.t 20, .t 22], od 24 .ld1 [.t 23] [10, 11, 12, 13, 14], oo 25 (.bin .add) [.t 18, .t 24], oo 26 (.call 149) [.t 9, .t 17, .t 25], oo 8 .mv [.t 26]]) .ret)), [.t 8]⟩
theorem dk_287 : callable Tryz.prog 287 = true ∧ ∃ bx, Comp Tryz.prog bx gtab 287 d_287.nt d_287.c d_287.rs := ⟨kr, (fun n => !([1000004].contains n)), ⟨⟨Tryz.f287, _, Tryz.func287, rfl, rfl, kr, kr⟩⟩⟩
def d_203 : Fd := ⟨19, (.seq (.ops 0 [oo 4 .mv [kk 0]]) (.seq (.seq (.ops 0 [oo 6 .mv [.t 0], oo 7 .len [.t 6], oo 8 .mv [kk 0]]) (.block 0 (.loop (.seq (.ops 0 [oo 9 (.bin .lss) [.t 8, .t 7]]) (.seq (.cond (.t 9) .skip (.exit 0)) (.seq (.block 1 (.seq (.ops 0 [oo 10 .mv [.t 8], oo 5 .mv [.t 10]]) (.seq (.ops 0 [oo 11 .mv [.t 1], oo 12 .mv [.t 0], oo 13 .mv [.t 5], oo 14 (.ixA 3) [.t 12, .t 13], oo 15 (.ldA 3) [.t 14], oo 16 .callv [.t 11, .t 15]]) (.cond (.t 16) (.seq (.ops 0 [oo 17 .mv [.t 5], oo 4 .mv [.t 17]]) .ret) .skip)))) (.ops 0 [oo 18 (.bin .add) [.t 8, kk 1], oo 8 .mv [.t 18]]))))))) (.seq (.ops 0 [oo 4 .mv [kk (-1)]]) .ret))), [.t 4]⟩
theorem dk_203 : callable Tryz.prog 203 = true ∧ ∃ bx, Comp Tryz.prog bx gtab 203 d_203.nt d_203.c d_203.rs := ⟨kr, allbx, ⟨⟨Tryz.f203, _, Tryz.func203, rfl, rfl, kr, kr⟩⟩⟩
def d_311 : Fd := ⟨19, (.seq (.ops 0 [oo 4 .mv [kk 0]]) (.seq (.seq (.ops 0 [oo 6 .mv [.t 0], oo 7 .len [.t 6], oo 8 .mv [kk 0]]) (.block 0 (.loop (.seq (.ops 0 [oo 9 (.bin .lss) [.t 8, .t 7]]) (.seq (.cond (.t 9) .skip (.exit 0)) (.seq (.block 1 (.seq (.ops 0 [oo 10 .mv [.t 8], oo 5 .mv [.t 10]]) (.seq (.ops 0 [oo 11 .mv [.t 1], oo 12 .mv [.t 0], oo 13 .mv [.t 5], oo 14 (.ixA 2) [.t 12, .t 13], oo 15 (.ldA 2) [.t 14], oo 16 .callv [.t 11, .t 15]]) (.cond (.t 16) (.seq (.ops 0 [oo 17 .mv [.t 5], oo 4 .mv [.t 17]]) .ret) .skip)))) (.ops 0 [oo 18 (.bin .add) [.t 8, kk 1], oo 8 .mv [.t 18]]))))))) (.seq (.ops 0 [oo 4 .mv [kk (-1)]]) .ret))), [.t 4]⟩
theorem dk_311 : callable Tryz.prog 311 = true ∧ ∃ bx, Comp Tryz.prog bx gtab 311 d_311.nt d_311.c d_311.rs := ⟨kr, allbx, ⟨⟨Tryz.f311, _, Tryz.func311, rfl, rfl, kr, kr⟩⟩⟩
def d_228 : Fd := ⟨20, (.seq (.ops 0 [oo 3 .boxE [.t 0], oo 4 .boxE [.t 1], oo 6 .mv [kk 0]]) (.seq (.seq (.ops 0 [oo 7 .mv [.t 2], oo 8 (.bin .eql) [.t 7, kk 0]]) (.cond (.t 8) (.seq (.ops 0 [oo 9 (.fldA 0) [.t 4], oo 10 .ld1 [.t 9], oo 6 .mv [.t 10]]) .ret) .skip)) (.seq (.ops 0 [oo 11 (.fldA 0) [.t 4], od 12 .ld1 [.t 11] [0], oo 13 (.fldA 1) [.t 3], od 14 .ld1 [.t 13] [2], oo 15 .mv [.t 2], oo 16 (.bin .sub) [.t 15, kk 1], oo 17 (.ixA 1) [.t 14, .t 16], od 18 .ld1 [.t 17] [2, 3, 4, 5, 6], oo 19 (.bin .add) [.t 12, .t 18], oo 6 .mv [.t 19]]) .ret))), [.t 6]⟩
theorem dk_228 : callable Tryz.prog 228 = true ∧ ∃ bx, Comp Tryz.prog bx gtab 228 d_228.nt d_228.c d_228.rs := ⟨kr, allbx, ⟨⟨Tryz.f228, _, Tryz.func228, rfl, rfl, kr, kr⟩⟩⟩
def d_205 : Fd := ⟨17, (.seq (.ops 0 [oo 4 .mv [(.c (.lit (.bool false)))]]) (.seq (.ops 0 [oo 5 .mv [.t 0], oo 6 (.call 182) [.t 5], oo 7 .mv [.t 6], og 8 7 true .mv [.t 1], og 9 7 true (.call 182) [.t 8], og 10 7 true (.un .not) [.t 9], oo 11 .pick [.t 7, .t 10, (.c (.lit (.bool false)))], oo 12 .mv [.t 11], og 13 12 false .mv [.t 0], og 14 12 false .mv [.t 1], og 15 12 false (.bin .lss) [.t 13, .t 14], oo 16 .pick [.t 12, (.c (.lit (.bool true))), .t 15], oo 4 .mv [.t 16]]) .ret)), [.t 4]⟩
theorem dk_205 : callable Tryz.prog 205 = true ∧ ∃ bx, Comp Tryz.prog bx gtab 205 d_205.nt d_205.c d_205.rs := ⟨kr, allbx, ⟨⟨Tryz.f205, _, Tryz.func205, rfl, rfl, kr, kr⟩⟩⟩
def d_134 : Fd := ⟨8, (.seq (.ops 0 [oo 2 .mv [(.c (.sl 0 [] .exact))]]) (.seq (.seq (.ops 0 [oo 3 .mv [.t 0], oo 4 (.eqN false) [.t 3]]) (.cond (.t 4) (.seq (.ops 0 [oo 2 .mv [(.c (.sl 0 [] .exact))]]) .ret) .skip)) (.seq (.ops 4 [oo 5 (.mkslB 188 0 3 [] []) [], oo 6 .mv [.t 0], oo 7 (.appM 188 3 24) [.t 5, .t 6], oo 2 .mv [.t 7]]) .ret))), [.t 2]⟩
theorem dk_134 : callable Tryz.prog 134 = true ∧ ∃ bx, Comp Tryz.prog bx gtab 134 d_134.nt d_134.c d_134.rs := ⟨kr, allbx, ⟨⟨Tryz.f134, _, Tryz.func134, rfl, rfl, kr, kr⟩⟩⟩
def d_290 : Fd := ⟨12, (.seq (.ops 0 [oo 4 .mv [kk 0]]) (.seq (.ops 0 [oo 5 .mv [.t 0], oo 6 .mv [.t 1], oo 7 (.bin .sub) [.t 5, .t 6], oo 8 .mv [.t 1], oo 9 .mv [.t 0], oo 10 (.bin .sub) [.t 8, .t 9], oo 11 .mx [.t 7, .t 10], oo 4 .mv [.t 11]]) .ret)), [.t 4]⟩
theorem dk_290 : callable Tryz.prog 290 = true ∧ ∃ bx, Comp Tryz.prog bx gtab 290 d_290.nt d_290.c d_290.rs := ⟨kr, allbx, ⟨⟨Tryz.f290, _, Tryz.func290, rfl, rfl, kr, kr⟩⟩⟩
def d_345 : Fd := ⟨9, (.seq (.ops 2 [oo 3 (.box 242) [.t 1], oo 4 .mv [(.c (.lit (.bool false)))]]) (.seq (.ops 0 [oo 5 .mv [.t 0], oo 6 (.ldA 2) [.t 3], oo 7 (.call 355) [.t 5, .t 6], oo 8 (.bin .geq) [.t 7, kk 0], oo 4 .mv [.t 8]]) .ret)), [.t 4]⟩
theorem dk_345 : callable Tryz.prog 345 = true ∧ ∃ bx, Comp Tryz.prog bx gtab 345 d_345.nt d_345.c d_345.rs := ⟨kr, (fun n => !([1000003].contains n)), ⟨⟨Tryz.f345, _, Tryz.func345, rfl, rfl, kr, kr⟩⟩⟩
def d_354 : Fd := ⟨8, (.seq (.ops 2 [oo 2 (.box 242) [.t 0], oo 3 .mv [(.c (.lit (.bool false)))]]) (.seq (.ops 0 [oo 4 (.fldA 0) [.t 2], oo 5 .ld1 [.t 4], oo 6 .ld1 [.t 1], oo 7 (.bin .eql) [.t 5, .t 6], oo 3 .mv [.t 7]]) .ret)), [.t 3]⟩
theorem dk_354 : callable Tryz.prog 354 = true ∧ ∃ bx, Comp Tryz.prog bx gtab 354 d_354.nt d_354.c d_354.rs := ⟨kr, (fun n => !([1000002].contains n)), ⟨⟨Tryz.f354, _, Tryz.func354, rfl, rfl, kr, kr⟩⟩⟩
def d_336 : Fd := ⟨9, (.seq (.ops 0 [oo 4 .mv [(.c (.lit (.bool false)))]]) (.seq (.ops 0 [oo 5 .mv [.t 0], oo 6 .mv [.t 1], oo 7 (.call 352) [.t 5, .t 6], oo 8 (.bin .geq) [.t 7, kk 0], oo 4 .mv [.t 8]]) .ret)), [.t 4]⟩
theorem dk_336 : callable Tryz.prog 336 = true ∧ ∃ bx, Comp Tryz.prog bx gtab 336 d_336.nt d_336.c d_336.rs := ⟨kr, allbx, ⟨⟨Tryz.f336, _, Tryz.func336, rfl, rfl, kr, kr⟩⟩⟩
def d_182 : Fd := ⟨6, (.seq (.ops 0 [oo 2 .mv [(.c (.lit (.bool false)))]]) (.seq (.ops 0 [oo 3 .mv [.t 0], oo 4 .mv [.t 0], oo 5 (.bin .neq) [.t 3, .t 4], oo 2 .mv [.t 5]]) .ret)), [.t 2]⟩
theorem dk_182 : callable Tryz.prog 182 = true ∧ ∃ bx, Comp Tryz.prog bx gtab 182 d_182.nt d_182.c d_182.rs := ⟨kr, allbx, ⟨⟨Tryz.f182, _, Tryz.func182, rfl, rfl, kr, kr⟩⟩⟩
end Go.Proofs.YtdefefeifcdogaaGreat
