/- The completion with some readings, by the reference. -/
import Derived.Test.YtdefefeifcdogaaGreatLG
namespace Go.Proofs.YtdefefeifcdogaaGreat
open Go.RowKit
set_option linter.unusedSimpArgs false
set_option linter.unusedVariables false

/-- The events of the first readings. -/
def cmpE (f : Lf) (l : List Rdg) (k : Nat) : List Evt := (List.range k).map fun i => evtR (f.cols.getD i default) (l.getD i default)
theorem cmpE_succ (f : Lf) (l : List Rdg) (k : Nat) : cmpE f l (k + 1) = cmpE f l k ++ [evtR (f.cols.getD k default) (l.getD k default)] := by rw [cmpE, List.range_succ, List.map_append]; rfl
theorem cmpE_len (f : Lf) (l : List Rdg) (k : Nat) : (cmpE f l k).length = k := by rw [cmpE, List.length_map, List.length_range]
set_option maxHeartbeats 2000000 in
theorem complete_fn (f : Lf) (l : List Rdg) (hl : l.length ≤ f.cols.length) (h4 : l.length ≤ 1000000) (hi1 : f.ins.cs.length ≤ 1099511627776) (hi2 : f.ins.st.length ≤ 1099511627776) (hr : ∀ i, i < l.length → (l.getD i default).ns.length ≤ 1000000) :
    Fn Tryz.prog Gd 81 [f.val, tL Rdg.cells l] (Pce.mk f.ins (cmpE f l l.length)).val := by
  refine Fn.of_vx0 k_theorboref10_Complete (by simp) (by rw [V.pures, pure_lf, V.pures, pure_tL]; rfl) ?_
  have C := rcopy_fn f.ins hi1 hi2
  have hr0 := Hid.mk hr
  unfold c_theorboref10_Complete tL
  clear hr hi1 hi2
  repeat' (with_reducible first | refine x_ops ?_ | refine wk ?_ | (with_reducible refine xc (C) ?_) | ((first | refine gd1 ?_ ?_ | refine gd2 ?_ ?_ | refine gd3 ?_ ?_) <;> (first | exact @False.elim _ | intro hc)))
  clear C
  refine x_loopW w_theorboref10_Complete_p3 kr l.length (fun k t m => t 6 = vint k ∧ (m.obj 0 = some (.box [.sl f.ins.cs.length (f.ins.cs.flatMap Crs.cells) .no, .sl f.ins.st.length (f.ins.st.map vint) .no, .sl f.cols.length (f.cols.flatMap Clm.cells) .no] 28) ∧ m.obj 1 = some (.box [.sl 0 [] .exact, .sl 0 [] .exact, .sl 0 [] .exact] 49) ∧ 6 < m.next) ∧ ∃ tok, m.obj 6 = some (.box [.sl f.ins.cs.length (f.ins.cs.flatMap Crs.cells) .no, .sl f.ins.st.length (f.ins.st.map vint) .no, .sl k ((cmpE f l k).flatMap Evt.cells) tok] 49) ∧ Apb m tok k 136 6) ?_ ?_
  · exact ⟨vv, ⟨vv, vv, by show 6 < 8; omega⟩, .exact, vv, .inl rfl⟩
  rintro k t m hk ⟨h6, ⟨hm, hm1, hn⟩, tok, h9, hap⟩
  replace hap := Hid.mk hap
  by_cases hlt : k < l.length
  case neg =>
    have c1 : ¬ (k : Int) < (l.length : Int) := by omega
    have hkl : k = l.length := by omega
    subst hkl
    clear hlt hk
    repeat' (with_reducible first | refine x_ops ?_ | refine wk ?_ | ((first | refine gd1 ?_ ?_ | refine gd2 ?_ ?_ | refine gd3 ?_ ?_) <;> (first | exact @False.elim _ | intro hc)))
    refine finV_ret vv ?_
    rw [cmpE_len]
    exact .agg (.cons (.sl _ _ _) (.cons (.sl _ _ _) (.cons (.sl _ _ _) .nil)))
  have hlt0 := Hid.mk hlt
  have g1 := clm_take (l := f.cols) (k := k) (by omega)
  have g2 := rdg_take (l := l) (k := k) hlt
  have hL1 := clms_len f.cols
  have hL2 := rdgs_len l
  have c1 : (k : Int) < (l.length : Int) := by omega
  have c2 : (k : Int) < (f.cols.length : Int) := by omega
  have c3 : k * 4 + 4 ≤ f.cols.length * 4 := by omega
  have c4 : k * 4 + 4 ≤ l.length * 4 := by omega
  have w1 := w_add1 (k := k) (by omega)
  have E := revent_fn (f.cols.getD k default) (l.getD k default) (by have := hr0.out k hlt; omega)
  have hsl := evts_len (cmpE f l k)
  rw [cmpE_len] at hsl
  have hev := cmpE_succ f l k
  have n0 : 0 < m.next := by omega
  have h40 := Hid.mk h4
  generalize evtR (f.cols.getD k default) (l.getD k default) = ev at *
  generalize f.cols.getD k default = cl at *
  generalize l.getD k default = rd at *
  generalize hL : cmpE f l k = L at *
  obtain ⟨ebar, ⟨ev1, ev2, ev3⟩, etie, ess⟩ := ev
  replace hL := Hid.mk hL
  replace hev := Hid.mk hev
  replace hsl := Hid.mk hsl
  clear hlt hk h4 hl
  repeat' (with_reducible first | refine x_ops ?_ | refine wk ?_ | (with_reducible refine xc (E) ?_) | ((first | refine gd1 ?_ ?_ | refine gd2 ?_ ?_ | refine gd3 ?_ ?_) <;> (first | exact @False.elim _ | intro hc)))
  refine x_appc (n := k) (xs := L.flatMap Evt.cells) (j := 1) (ys := [vbool ebar, vint ev1, vbool ev2, vbool ev3, vbool etie, .sl ess.length (ess.flatMap Stp.cells) .no]) (k := tok) (k2 := .exact) vw vw (hap.out.mono (fun _ _ _ => rfl) (Nat.le_add_right _ _)) hsl.out rfl (by have := hlt0.out; have := h40.out; omega) (by have := hlt0.out; have := h40.out; unfold Go.maxLen; omega) (by show m.next + 13 < m.next + 16; omega) ?_
  intro tok3 m3 hap3 hn3 hf3 hq3
  have hnn : m3.next = m.next + 16 := hn3
  have hm3 : m3.obj 0 = some (.box [.sl f.ins.cs.length (f.ins.cs.flatMap Crs.cells) .no, .sl f.ins.st.length (f.ins.st.map vint) .no, .sl f.cols.length (f.cols.flatMap Clm.cells) .no] 28) := (hf3 0 (by show ¬ 0 = m.next + 13; omega) (hap.out.box hm)).trans hm
  have hm13 : m3.obj 1 = some (.box [.sl 0 [] .exact, .sl 0 [] .exact, .sl 0 [] .exact] 49) := (hf3 1 (by show ¬ 1 = m.next + 13; omega) (hap.out.box hm1)).trans hm1
  have h9' : m3.obj 6 = some (.box [.sl f.ins.cs.length (f.ins.cs.flatMap Crs.cells) .no, .sl f.ins.st.length (f.ins.st.map vint) .no, .sl k (L.flatMap Evt.cells) tok] 49) := (hf3 6 (by show ¬ 6 = m.next + 13; omega) (hap.out.box h9)).trans h9
  replace hap3 := Hid.mk hap3
  clear hm hm1 h9 hf3 hq3 hn3
  repeat' (with_reducible first | refine x_ops ?_ | refine wk ?_ | ((first | refine gd1 ?_ ?_ | refine gd2 ?_ ?_ | refine gd3 ?_ ?_) <;> (first | exact @False.elim _ | intro hc)))
  refine nx hlt0.out ⟨vv, ⟨hm3, hm13, by show 6 < m.next + 16; omega⟩, tok3, ?_, ?_⟩
  · rw [hev.out, List.flatMap_append]
    first
      | exact vv
      | exact if_pos rfl
      | rfl
  · show Apb ⟨(m3.put 6 _).obj, _⟩ tok3 (k + 1) 136 6
    exact (hap3.out.put h9').mono (fun _ _ _ => rfl) (by show m3.next ≤ m.next + 16; omega)
end Go.Proofs.YtdefefeifcdogaaGreat
