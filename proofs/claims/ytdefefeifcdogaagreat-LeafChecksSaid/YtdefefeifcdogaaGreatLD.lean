/- The event of a reading, of both. -/
import Derived.Test.YtdefefeifcdogaaGreatLC
namespace Go.Proofs.YtdefefeifcdogaaGreat
open Go.RowKit
set_option linter.unusedSimpArgs false
set_option linter.unusedVariables false

/-- A reading. -/
structure Rdg where
  sg : Sg
  ns : List Int
deriving Inhabited, DecidableEq
def Rdg.cells (r : Rdg) : List V := [vint r.sg.v, vbool r.sg.d, vbool r.sg.t, tIs r.ns]
def Rdg.val (r : Rdg) : V := .agg r.cells
attribute [go_sem] Rdg.cells Rdg.val
theorem rdg_len (x : Rdg) : x.cells.length = 4 := rfl
theorem rdgs_len (l : List Rdg) : (l.flatMap Rdg.cells).length = l.length * 4 := flat_len rdg_len l
theorem rdg_take {l : List Rdg} {k : Nat} (h : k < l.length) : ((l.flatMap Rdg.cells).drop (k * 4)).take 4 = [V.lit (.int .i64 (l.getD k default).sg.v), V.lit (.bool (l.getD k default).sg.d), V.lit (.bool (l.getD k default).sg.t), .sl (l.getD k default).ns.length ((l.getD k default).ns.map vint) .no] := by
  rw [flat_take rdg_len default h]; rfl
theorem pure_rdg (r : Rdg) : r.val.pure = true := by
  rw [Rdg.val, Rdg.cells, V.pure]; simp only [V.pures, vint, vbool, V.pure, pure_tIs, Bool.and_self]
def stpA (ns : List Int) (i : Nat) : List Stp := if 0 ≤ ns.getD i 0 then [⟨(i + 1 : Nat), ns.getD i 0, 0, 0, 0⟩] else []
def evK (ns : List Int) (k : Nat) : List Stp := (List.range k).flatMap (stpA ns)
theorem evK_succ (ns : List Int) (k : Nat) : evK ns (k + 1) = evK ns k ++ stpA ns k := by rw [evK, List.range_succ, List.flatMap_append, List.flatMap_singleton]; rfl
theorem evK_len (ns : List Int) : ∀ k, (evK ns k).length ≤ k
  | 0 => Nat.le_refl _
  | k + 1 => by
    have := evK_len ns k
    rw [evK_succ, List.length_append, stpA]
    split <;> simp <;> omega
/-- The event of a reading of a column. -/
def evtR (c : Clm) (r : Rdg) : Evt := ⟨c.bar, r.sg, c.tie, evK r.ns r.ns.length⟩
set_option maxHeartbeats 1000000 in
theorem event_fn (c : Clm) (s : Sg) (ns : List Int) (hl : ns.length ≤ 1099511627) : Fn Tryz.prog Gd 78 [c.val, s.val, tIs ns] (evtR c ⟨s, ns⟩).val := by
  refine Fn.of_vx0 k_leaf_event (by simp) (by rw [V.pures, pure_clm, V.pures, pure_sg, V.pures, pure_tIs]; rfl) ?_
  obtain ⟨bar, tie, sgs, ce⟩ := c
  obtain ⟨v, d, tt⟩ := s
  unfold c_leaf_event
  repeat' (with_reducible first | refine x_ops ?_ | refine wk ?_ | ((first | refine gd1 ?_ ?_ | refine gd2 ?_ ?_ | refine gd3 ?_ ?_) <;> (first | exact @False.elim _ | intro hc)))
  refine x_loopW w_leaf_event_p5 kr ns.length (fun k t m => t 18 = vint k ∧ (m.obj 2 = some (.box [vbool false, vint 0, vbool false, vbool false, vbool false, .sl 0 [] .exact] 136) ∧ 9 < m.next) ∧ ∃ tok, m.obj 9 = some (.box [vbool bar, vint v, vbool d, vbool tt, vbool tie, .sl (evK ns k).length ((evK ns k).flatMap Stp.cells) tok] 136) ∧ Apb m tok (evK ns k).length 152 5) ?_ ?_
  · exact ⟨vv, ⟨vv, by show 9 < 11; omega⟩, .exact, vv, .inl rfl⟩
  rintro k t m hk ⟨h18, ⟨h2, hn⟩, tok, h9, hap⟩
  replace hap := Hid.mk hap
  have hn0 := Hid.mk hn
  by_cases hlt : k < ns.length
  case neg =>
    have c1 : ¬ ((k : Int) < (ns.length : Int)) := by omega
    have hkl : k = ns.length := by omega
    replace hkl := Hid.mk hkl
    clear hlt hk hn
    repeat' (with_reducible first | refine x_ops ?_ | refine wk ?_ | ((first | refine gd1 ?_ ?_ | refine gd2 ?_ ?_ | refine gd3 ?_ ?_) <;> (first | exact @False.elim _ | intro hc)))
    refine finV_ret vv ?_
    rw [hkl.out]
    exact .agg (.cons (.lit _) (.cons (.lit _) (.cons (.lit _) (.cons (.lit _) (.cons (.lit _) (.cons (.sl _ _ _) .nil))))))
  have g1 := ints_at (l := ns) (k := k) hlt
  have c1 : (k : Int) < (ns.length : Int) := by omega
  have w2 := w_add1 (k := k) (by omega)
  have hlt0 := Hid.mk hlt
  have hev := evK_succ ns k
  have hle := evK_len ns k
  have hsl := stps_len (evK ns k)
  rw [stpA] at hev
  have hl0 := Hid.mk hl
  clear hlt hk hn hl
  by_cases h0 : 0 ≤ ns.getD k 0
  · rw [if_pos h0] at hev
    replace hev := Hid.mk hev
    replace hle := Hid.mk hle
    replace hsl := Hid.mk hsl
    generalize ns.getD k 0 = y at *
    generalize hK : evK ns k = L at *
    replace hK := Hid.mk hK
    repeat' (with_reducible first | refine x_ops ?_ | refine wk ?_ | ((first | refine gd1 ?_ ?_ | refine gd2 ?_ ?_ | refine gd3 ?_ ?_) <;> (first | exact @False.elim _ | intro hc)))
    refine x_appc (n := L.length) (xs := L.flatMap Stp.cells) (j := 1) (ys := [vint ((k + 1 : Nat) : Int), vint y, vint 0, vint 0, vint 0]) (k := tok) (k2 := .exact) vw vw (hap.out.mono (fun _ _ _ => rfl) (Nat.le_add_right _ _)) hsl.out rfl (by have := hle.out; have := hlt0.out; have := hl0.out; omega) (by have := hle.out; have := hlt0.out; have := hl0.out; unfold Go.maxLen; omega) (by show m.next + 7 < m.next + 10; omega) ?_
    intro tok' m' hap' hn' hf' hq'
    have hn9 := hn0.out
    have h9' : m'.obj 9 = some (.box [vbool bar, vint v, vbool d, vbool tt, vbool tie, .sl L.length (L.flatMap Stp.cells) tok] 136) := (hf' 9 (by show ¬ 9 = m.next + 7; omega) (hap.out.box h9)).trans h9
    have h2' : m'.obj 2 = some (.box [vbool false, vint 0, vbool false, vbool false, vbool false, .sl 0 [] .exact] 136) := (hf' 2 (by show ¬ 2 = m.next + 7; omega) (hap.out.box h2)).trans h2
    have hnn : m'.next = m.next + 10 := hn'
    replace hap' := Hid.mk hap'
    clear h9 h2 hf' hq' hn' hn9
    repeat' (with_reducible first | refine x_ops ?_ | refine wk ?_ | ((first | refine gd1 ?_ ?_ | refine gd2 ?_ ?_ | refine gd3 ?_ ?_) <;> (first | exact @False.elim _ | intro hc)))
    refine nx hlt0.out ⟨vv, ⟨h2', by have h99 := hn0.out; dsimp only [Mm.put]; omega⟩, tok', ?_, ?_⟩
    · rw [hev.out, List.length_append, List.flatMap_append]
      first
        | exact vv
        | exact if_pos rfl
        | rfl
    · rw [hev.out, List.length_append]
      show Apb ⟨(m'.put 9 _).obj, _⟩ tok' (L.length + 1) 152 5
      exact (hap'.out.put h9').mono (fun _ _ _ => rfl) (by show m'.next ≤ m.next + 10; omega)
  · rw [if_neg h0, List.append_nil] at hev
    replace hev := Hid.mk hev
    clear hle hsl
    repeat' (with_reducible first | refine x_ops ?_ | refine wk ?_ | ((first | refine gd1 ?_ ?_ | refine gd2 ?_ ?_ | refine gd3 ?_ ?_) <;> (first | exact @False.elim _ | intro hc)))
    refine nx hlt0.out ⟨vv, ⟨h2, hn0.out⟩, tok, ?_, ?_⟩
    · rw [hev.out]; exact h9
    · rw [hev.out]; exact hap.out
set_option maxHeartbeats 1000000 in
theorem revent_fn (c : Clm) (r : Rdg) (hl : r.ns.length ≤ 1099511627) : Fn Tryz.prog Gd 137 [c.val, r.val] (evtR c r).val := by
  refine Fn.of_vx0 k_theorboref10_event (by simp) (by rw [V.pures, pure_clm, V.pures, pure_rdg]; rfl) ?_
  obtain ⟨bar, tie, sgs, ce⟩ := c
  obtain ⟨⟨v, d, tt⟩, ns⟩ := r
  have hl : ns.length ≤ 1099511627 := hl
  unfold c_theorboref10_event
  repeat' (with_reducible first | refine x_ops ?_ | refine wk ?_ | ((first | refine gd1 ?_ ?_ | refine gd2 ?_ ?_ | refine gd3 ?_ ?_) <;> (first | exact @False.elim _ | intro hc)))
  refine x_loopW w_theorboref10_event_p4 kr ns.length (fun k t m => t 6 = vint k ∧ (m.obj 4 = none ∧ m.obj 2 = some (.box [vbool false, vint 0, vbool false, vbool false, vbool false, .sl 0 [] .exact] 136) ∧ m.obj 1 = some (.box [vint v, vbool d, vbool tt, .sl ns.length (ns.map vint) .no] 123) ∧ 10 < m.next) ∧ ∃ tok, m.obj 10 = some (.box [vbool bar, vint v, vbool d, vbool tt, vbool tie, .sl (evK ns k).length ((evK ns k).flatMap Stp.cells) tok] 136) ∧ Apb m tok (evK ns k).length 152 5) ?_ ?_
  · exact ⟨vv, ⟨rfl, vv, vv, by show 10 < 12; omega⟩, .exact, vv, .inl rfl⟩
  rintro k t m hk ⟨h18, ⟨hnn4, h2, h1, hn⟩, tok, h9, hap⟩
  replace hap := Hid.mk hap
  replace hnn4 := Hid.mk hnn4
  have hn0 := Hid.mk hn
  by_cases hlt : k < ns.length
  case neg =>
    have c1 : ¬ ((k : Int) < (ns.length : Int)) := by omega
    have hkl : k = ns.length := by omega
    replace hkl := Hid.mk hkl
    clear hlt hk hn
    repeat' (with_reducible first | refine x_ops ?_ | refine wk ?_ | ((first | refine gd1 ?_ ?_ | refine gd2 ?_ ?_ | refine gd3 ?_ ?_) <;> (first | exact @False.elim _ | intro hc)))
    refine finV_ret vv ?_
    rw [hkl.out]
    exact .agg (.cons (.lit _) (.cons (.lit _) (.cons (.lit _) (.cons (.lit _) (.cons (.lit _) (.cons (.sl _ _ _) .nil))))))
  have g1 := ints_at (l := ns) (k := k) hlt
  have c1 : (k : Int) < (ns.length : Int) := by omega
  have w2 := w_add1 (k := k) (by omega)
  have hlt0 := Hid.mk hlt
  have hev := evK_succ ns k
  have hle := evK_len ns k
  have hsl := stps_len (evK ns k)
  rw [stpA] at hev
  have hl0 := Hid.mk hl
  have n1 : 1 < m.next := by omega
  clear hlt hk hl
  by_cases h0 : 0 ≤ ns.getD k 0
  · rw [if_pos h0] at hev
    replace hev := Hid.mk hev
    replace hle := Hid.mk hle
    replace hsl := Hid.mk hsl
    generalize ns.getD k 0 = y at *
    generalize hK : evK ns k = L at *
    replace hK := Hid.mk hK
    repeat' (with_reducible first | refine x_ops ?_ | refine wk ?_ | ((first | refine gd1 ?_ ?_ | refine gd2 ?_ ?_ | refine gd3 ?_ ?_) <;> (first | exact @False.elim _ | intro hc)))
    refine x_appc (n := L.length) (xs := L.flatMap Stp.cells) (j := 1) (ys := [vint ((k + 1 : Nat) : Int), vint y, vint 0, vint 0, vint 0]) (k := tok) (k2 := .exact) vw vw (hap.out.mono (fun _ _ _ => rfl) (Nat.le_add_right _ _)) hsl.out rfl (by have := hle.out; have := hlt0.out; have := hl0.out; omega) (by have := hle.out; have := hlt0.out; have := hl0.out; unfold Go.maxLen; omega) (by show m.next + 11 < m.next + 14; omega) ?_
    intro tok' m' hap' hn' hf' hq'
    have hn9 := hn0.out
    have h9' : m'.obj 10 = some (.box [vbool bar, vint v, vbool d, vbool tt, vbool tie, .sl L.length (L.flatMap Stp.cells) tok] 136) := (hf' 10 (by show ¬ 10 = m.next + 11; omega) (hap.out.box h9)).trans h9
    have h2' : m'.obj 2 = some (.box [vbool false, vint 0, vbool false, vbool false, vbool false, .sl 0 [] .exact] 136) := (hf' 2 (by show ¬ 2 = m.next + 11; omega) (hap.out.box h2)).trans h2
    have h1' : m'.obj 1 = some (.box [vint v, vbool d, vbool tt, .sl ns.length (ns.map vint) .no] 123) := (hf' 1 (by show ¬ 1 = m.next + 11; omega) (hap.out.box h1)).trans h1
    have hnn : m'.next = m.next + 14 := hn'
    have h4' : tok ≠ .own 4 → m'.obj 4 = none := fun h => (hf' 4 (by show ¬ 4 = m.next + 11; omega) h).trans hnn4.out
    have h4o : tok ≠ .own 4 := fun e => by
      rcases hap.out with h | ⟨q, h5, _, h6⟩
      · rw [h] at e; cases e
      · rw [h5] at e; injection e with e; subst e; rw [hnn4.out] at h6; cases h6
    replace h4' := Hid.mk (h4' h4o)
    replace hap' := Hid.mk hap'
    clear h9 h2 h1 hf' hq' hn' hn9 h4o
    repeat' (with_reducible first | refine x_ops ?_ | refine wk ?_ | ((first | refine gd1 ?_ ?_ | refine gd2 ?_ ?_ | refine gd3 ?_ ?_) <;> (first | exact @False.elim _ | intro hc)))
    refine nx hlt0.out ⟨vv, ⟨h4'.out, h2', h1', by have h99 := hn0.out; dsimp only [Mm.put]; omega⟩, tok', ?_, ?_⟩
    · rw [hev.out, List.length_append, List.flatMap_append]
      first
        | exact vv
        | exact if_pos rfl
        | rfl
    · rw [hev.out, List.length_append]
      show Apb ⟨(m'.put 10 _).obj, _⟩ tok' (L.length + 1) 152 5
      exact (hap'.out.put h9').mono (fun _ _ _ => rfl) (by show m'.next ≤ m.next + 14; omega)
  · rw [if_neg h0, List.append_nil] at hev
    replace hev := Hid.mk hev
    clear hle hsl
    repeat' (with_reducible first | refine x_ops ?_ | refine wk ?_ | ((first | refine gd1 ?_ ?_ | refine gd2 ?_ ?_ | refine gd3 ?_ ?_) <;> (first | exact @False.elim _ | intro hc)))
    refine nx hlt0.out ⟨vv, ⟨hnn4.out, h2, h1, hn0.out⟩, tok, ?_, ?_⟩
    · rw [hev.out]; exact h9
    · rw [hev.out]; exact hap.out
end Go.Proofs.YtdefefeifcdogaaGreat
