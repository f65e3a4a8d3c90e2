/- The readings of a column, by the reference. -/
import Derived.Test.YtdefefeifcdogaaGreatLF
namespace Go.Proofs.YtdefefeifcdogaaGreat
open Go.RowKit
set_option linter.unusedSimpArgs false
set_option linter.unusedVariables false

theorem crsK_row {ce : List (List Int)} : ∀ {k : Nat} {r : List Int}, r ∈ crsK ce k → r.length = k
  | 0, r, h => by rw [crsK, List.mem_singleton] at h; rw [h]; rfl
  | k + 1, r, h => by
    rw [crsK, List.mem_flatMap] at h
    obtain ⟨r', h1, h2⟩ := h
    obtain ⟨x, _, rfl⟩ := List.mem_map.1 h2
    rw [List.length_append, crsK_row h1]; rfl
/-- The readings with the first signs, and some with the next one. -/
def rdT (c : Clm) (k i : Nat) : List Rdg := ((c.sgs.take k).flatMap fun s => (crsK c.ce c.ce.length).map fun r => ⟨s, r⟩) ++ ((crsK c.ce c.ce.length).take i).map fun r => ⟨c.sgs.getD k default, r⟩
theorem rdT_i {c : Clm} {k i : Nat} (hi : i < (crsK c.ce c.ce.length).length) : rdT c k (i + 1) = rdT c k i ++ [⟨c.sgs.getD k default, (crsK c.ce c.ce.length).getD i []⟩] := by
  rw [rdT, rdT, List.append_assoc, List.take_add_one, List.getElem?_eq_getElem hi, List.map_append, List.getD_eq_getElem?_getD (l := crsK c.ce c.ce.length), List.getElem?_eq_getElem hi]; rfl
theorem rdT_k {c : Clm} {k : Nat} (hk : k < c.sgs.length) : rdT c (k + 1) 0 = rdT c k (crsK c.ce c.ce.length).length := by
  rw [rdT, rdT, List.take_zero, List.map_nil, List.append_nil, List.take_add_one, List.getElem?_eq_getElem hk, List.flatMap_append, List.take_length, List.getD_eq_getElem?_getD, List.getElem?_eq_getElem hk]
  simp
theorem rdT_len {c : Clm} {k i : Nat} (hk : k ≤ c.sgs.length) (hi : i ≤ (crsK c.ce c.ce.length).length) : (rdT c k i).length = k * (crsK c.ce c.ce.length).length + i := by
  rw [rdT, List.length_append, List.length_map, List.length_take, List.length_flatMap]
  have : ∀ l : List Sg, (l.map fun s => ((crsK c.ce c.ce.length).map fun r => (⟨s, r⟩ : Rdg)).length).sum = l.length * (crsK c.ce c.ce.length).length := fun l => by
    induction l with
    | nil => simp
    | cons a l ih => rw [List.map_cons, List.sum_cons, ih, List.length_map, List.length_cons, Nat.add_mul]; omega
  rw [this, List.length_take, Nat.min_eq_left hk, Nat.min_eq_left hi]
theorem rdT_all (c : Clm) : rdT c c.sgs.length 0 = rdgs c := by
  rw [rdT, List.take_zero, List.map_nil, List.append_nil, List.take_length, rdgs]
/-- Readings that fit in memory. -/
structure RdSm (c : Clm) : Prop where
  ls : c.sgs.length ≤ 1000000
  lc : c.ce.length ≤ 1000000
  le : ∀ i, i < c.ce.length → (c.ce.getD i []).length ≤ 1000000
  lk : ∀ i, i ≤ c.ce.length → (crsK c.ce i).length ≤ 1000000
set_option maxHeartbeats 2000000 in
theorem readings_fn (c : Clm) (hs : RdSm c) : Fn Tryz.prog Gd 80 [c.val] (tL Rdg.cells (rdgs c)) := by
  refine Fn.of_vx0 k_theorboref10_readings (by simp) (by rw [V.pures, pure_clm]; rfl) ?_
  have hsl := hs.ls
  have hsc := hs.lc
  have hse := Hid.mk hs.le
  have hsk := Hid.mk hs.lk
  unfold c_theorboref10_readings tL
  clear hs
  repeat' (with_reducible first | refine x_ops ?_ | refine wk ?_ | ((first | refine gd1 ?_ ?_ | refine gd2 ?_ ?_ | refine gd3 ?_ ?_) <;> (first | exact @False.elim _ | intro hc)))
  refine x_loopW w_theorboref10_readings_p23 kr c.sgs.length (fun k t m => t 4 = vint k ∧ (m.obj 0 = some (.box [vbool c.bar, vbool c.tie, .sl c.sgs.length (c.sgs.flatMap Sg.cells) .no, .sl c.ce.length (c.ce.map tIs) .no] 84) ∧ 0 < m.next) ∧ ∃ tok, t 3 = .sl (rdT c k 0).length ((rdT c k 0).flatMap Rdg.cells) tok ∧ Apb m tok (rdT c k 0).length 123 4) ?_ ?_
  · exact ⟨vv, ⟨vv, by show 0 < 2; omega⟩, .exact, vv, .inl rfl⟩
  rintro k t m hk ⟨h4, ⟨hm, hn⟩, tok, h3, hap⟩
  replace hap := Hid.mk hap
  by_cases hlt : k < c.sgs.length
  case neg =>
    have c1 : ¬ (k : Int) < (c.sgs.length : Int) := by omega
    have hkl : k = c.sgs.length := by omega
    subst hkl
    rw [rdT_all] at h3
    clear hlt hk
    repeat' (with_reducible first | refine x_ops ?_ | refine wk ?_ | ((first | refine gd1 ?_ ?_ | refine gd2 ?_ ?_ | refine gd3 ?_ ?_) <;> (first | exact @False.elim _ | intro hc)))
    exact finV_ret vv (.sl _ _ _)
  have g1 := sg_take (l := c.sgs) (k := k) hlt
  have hL := sgs_len c.sgs
  have c1 : (k : Int) < (c.sgs.length : Int) := by omega
  have c4 : k * 3 + 3 ≤ c.sgs.length * 3 := by omega
  have w1 := w_add1 (k := k) (by omega)
  have hlt0 := Hid.mk hlt
  clear hlt hk
  repeat' (with_reducible first | refine x_ops ?_ | refine wk ?_ | ((first | refine gd1 ?_ ?_ | refine gd2 ?_ ?_ | refine gd3 ?_ ?_) <;> (first | exact @False.elim _ | intro hc)))
  refine x_loopW w_theorboref10_readings_p13 kr c.ce.length (fun i t' m' => t' 6 = vint i ∧ (m'.obj 0 = some (.box [vbool c.bar, vbool c.tie, .sl c.sgs.length (c.sgs.flatMap Sg.cells) .no, .sl c.ce.length (c.ce.map tIs) .no] 84) ∧ 0 < m'.next) ∧ ((∀ q, q < m.next → m'.obj q = m.obj q) ∧ m.next ≤ m'.next) ∧ ∃ tok, t' 5 = .sl (crsK c.ce i).length ((crsK c.ce i).map tIs) tok) ?_ ?_
  · exact ⟨vv, ⟨hm, hn⟩, ⟨fun _ _ => rfl, Nat.le_refl _⟩, .exact, vv⟩
  clear hm hn
  rintro i t1 m1 hi ⟨h6, ⟨hm, hn⟩, hfr, tk5, h5⟩
  replace hfr := Hid.mk hfr
  by_cases hil : i < c.ce.length
  · have c2 : (i : Int) < (c.ce.length : Int) := by omega
    have w2 := w_add1 (k := i) (by omega)
    have hil0 := Hid.mk hil
    have h7 : 0 ≤ 0 := Nat.le_refl _
    clear hi
    repeat' (with_reducible first | refine x_ops ?_ | refine wk ?_ | ((first | refine gd1 ?_ ?_ | refine gd2 ?_ ?_ | refine gd3 ?_ ?_) <;> (first | exact @False.elim _ | intro hc)))
    refine x_sum 2305843009146586016 kr (R := fun e t m => RdQ m1 (crsK c.ce (i + 1)) 5 e ⟨t, m⟩) (read_step (k5 := tk5) hil (hsk.out i (by omega)) (fun r hr => by rw [crsK_row hr]; omega) (hse.out i hil) hm hn vw vw vw vw) ?_
    rintro e t2 m2 ⟨rfl, ⟨tk, h5'⟩, hf, hnx⟩
    have h5' : t2 5 = .sl (crsK c.ce (i + 1)).length ((crsK c.ce (i + 1)).map tIs) tk := h5'
    have hf : ∀ q, q < m1.next → m2.obj q = m1.obj q := hf
    have hnx : m1.next ≤ m2.next := hnx
    replace hf := Hid.mk hf
    clear hil
    repeat' (with_reducible first | refine x_ops ?_ | refine wk ?_ | ((first | refine gd1 ?_ ?_ | refine gd2 ?_ ?_ | refine gd3 ?_ ?_) <;> (first | exact @False.elim _ | intro hc)))
    refine nx hil0.out ⟨vv, ⟨(hf.out 0 hn).trans hm, by show 0 < m2.next; omega⟩, ⟨fun q hq => (hf.out q (by have := hfr.out.2; omega)).trans (hfr.out.1 q hq), by have := hfr.out.2; show m.next ≤ m2.next; omega⟩, tk, vw⟩
  have c2 : ¬ (i : Int) < (c.ce.length : Int) := by omega
  have hie : i = c.ce.length := by omega
  subst hie
  clear hi hil
  have hapm : Apb m1 tok (rdT c k 0).length 123 4 := hap.out.keep hfr.out.2 fun q hq _ => hfr.out.1 q hq
  have hcr := hsk.out c.ce.length (Nat.le_refl _)
  replace hapm := Hid.mk hapm
  clear hap hfr
  repeat' (with_reducible first | refine x_ops ?_ | refine wk ?_ | ((first | refine gd1 ?_ ?_ | refine gd2 ?_ ?_ | refine gd3 ?_ ?_) <;> (first | exact @False.elim _ | intro hc)))
  refine x_loopW w_theorboref10_readings_p17 kr (crsK c.ce c.ce.length).length (fun j t' m' => t' 10 = vint j ∧ (m'.obj 0 = some (.box [vbool c.bar, vbool c.tie, .sl c.sgs.length (c.sgs.flatMap Sg.cells) .no, .sl c.ce.length (c.ce.map tIs) .no] 84) ∧ 0 < m'.next) ∧ ∃ tok, t' 3 = .sl (rdT c k j).length ((rdT c k j).flatMap Rdg.cells) tok ∧ Apb m' tok (rdT c k j).length 123 4) ?_ ?_
  · exact ⟨vv, ⟨hm, hn⟩, tok, vw, hapm.out⟩
  clear hm hn hapm h3
  rintro j t2 m2 hj ⟨h10, ⟨hm, hn⟩, tok2, h3, hap⟩
  by_cases hjl : j < (crsK c.ce c.ce.length).length
  case neg =>
    have c3 : ¬ (j : Int) < ((crsK c.ce c.ce.length).length : Int) := by omega
    have hje : j = (crsK c.ce c.ce.length).length := by omega
    subst hje
    rw [← rdT_k hlt0.out] at h3 hap
    replace hap := Hid.mk hap
    clear hjl hj
    repeat' (with_reducible first | refine x_ops ?_ | refine wk ?_ | ((first | refine gd1 ?_ ?_ | refine gd2 ?_ ?_ | refine gd3 ?_ ?_) <;> (first | exact @False.elim _ | intro hc)))
    exact nx hlt0.out ⟨vv, ⟨hm, hn⟩, tok2, vw, hap.out⟩
  have gA := iss_at (l := crsK c.ce c.ce.length) (k := j) hjl
  have c3 : (j : Int) < ((crsK c.ce c.ce.length).length : Int) := by omega
  have w3 := w_add1 (k := j) (by omega)
  have hjl0 := Hid.mk hjl
  have hsn : (rdT c k (j + 1)).length = (rdT c k j).length + 1 := by rw [rdT_i hjl]; simp
  have hmn : (rdT c k (j + 1)).flatMap Rdg.cells = (rdT c k j).flatMap Rdg.cells ++ [vint (c.sgs.getD k default).v, vbool (c.sgs.getD k default).d, vbool (c.sgs.getD k default).t, .sl ((crsK c.ce c.ce.length).getD j []).length (((crsK c.ce c.ce.length).getD j []).map vint) .no] := by rw [rdT_i hjl, List.flatMap_append, List.flatMap_singleton]; rfl
  have hle : (rdT c k j).length ≤ 1000000 * 1000000 + 1000000 := by
    rw [rdT_len (by have := hlt0.out; omega) (by omega)]
    have h1 := hlt0.out
    have := Nat.mul_le_mul (show k ≤ 1000000 by omega) hcr
    omega
  have hrl := rdgs_len (rdT c k j)
  generalize hL1 : rdT c k (j + 1) = L1 at *
  generalize hL0 : rdT c k j = L at *
  generalize (crsK c.ce c.ce.length).getD j [] = r at *
  generalize c.sgs.getD k default = sg at *
  replace hL1 := Hid.mk hL1
  replace hL0 := Hid.mk hL0
  replace hap := Hid.mk hap
  replace hsn := Hid.mk hsn
  replace hmn := Hid.mk hmn
  replace hle := Hid.mk hle
  replace hrl := Hid.mk hrl
  clear hjl hj
  repeat' (with_reducible first | refine x_ops ?_ | refine wk ?_ | ((first | refine gd1 ?_ ?_ | refine gd2 ?_ ?_ | refine gd3 ?_ ?_) <;> (first | exact @False.elim _ | intro hc)))
  refine x_appc (n := L.length) (xs := L.flatMap Rdg.cells) (j := 1) (ys := [vint sg.v, vbool sg.d, vbool sg.t, .sl r.length (r.map vint) .no]) (k := tok2) (k2 := .exact) vw vw (hap.out.mono (fun _ _ _ => rfl) (Nat.le_add_right _ _)) hrl.out rfl (by have := hle.out; omega) (by have := hle.out; unfold Go.maxLen; omega) (by show m2.next + 12 < m2.next + 14; omega) ?_
  intro tok3 m3 hap3 hn3 hf3 hq3
  have hnn : m3.next = m2.next + 14 := hn3
  have hm3 : m3.obj 0 = some (.box [vbool c.bar, vbool c.tie, .sl c.sgs.length (c.sgs.flatMap Sg.cells) .no, .sl c.ce.length (c.ce.map tIs) .no] 84) := (hf3 0 (by show ¬ 0 = m2.next + 12; omega) (hap.out.box hm)).trans hm
  replace hm3 := Hid.mk hm3
  replace hap3 := Hid.mk hap3
  clear hm hf3 hq3 hn3
  repeat' (with_reducible first | refine x_ops ?_ | refine wk ?_ | ((first | refine gd1 ?_ ?_ | refine gd2 ?_ ?_ | refine gd3 ?_ ?_) <;> (first | exact @False.elim _ | intro hc)))
  refine nx hjl0.out ⟨vv, ⟨hm3.out, by show 0 < m2.next + 14; omega⟩, tok3, ?_, ?_⟩
  · rw [hL1.out, hsn.out, hmn.out]; exact vv
  · rw [hL1.out, hsn.out]; exact hap3.out.mono (fun _ _ _ => rfl) (by show m3.next ≤ m2.next + 14; omega)
end Go.Proofs.YtdefefeifcdogaaGreat
