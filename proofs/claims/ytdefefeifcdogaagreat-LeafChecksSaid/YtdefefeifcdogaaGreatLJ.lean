/- Piece of the reference. -/
import Derived.Test.YtdefefeifcdogaaGreatLI
namespace Go.Proofs.YtdefefeifcdogaaGreat
open Go.RowKit
set_option linter.unusedSimpArgs false
set_option linter.unusedVariables false

theorem chkI_small {x : Ins} (h : chkI x = 0) : x.cs.length ≤ 14 ∧ x.st.length ≤ 18 ∧ 0 < x.cs.length ∧ stB x.st = true ∧ ∀ i, i < x.cs.length → crsE x.st (x.cs.getD i default) = 0 := by
  unfold chkI at h
  split at h
  · cases h
  · split at h
    · cases h
    · split at h
      · rename_i h1 h2 h3
        exact ⟨by omega, by omega, by omega, h3, firE_zero h⟩
      · cases h
theorem lchk_zero {f : Lf} (h : lchk f = 0) : chkI f.ins = 0 ∧ f.cols.length ≤ 400 ∧ ColsOk f := by
  unfold lchk at h
  split at h
  · rename_i h1; exact absurd h h1
  · split at h
    · cases h
    · split at h
      · rename_i h1 h2 h3
        exact ⟨by omega, by omega, h3⟩
      · cases h
theorem RdSm.of_one {x : Ins} {c : Clm} (hx : x.cs.length ≤ 14) (h : ClmOk x c) (h1 : oneC c = true) : RdSm c := by
  obtain ⟨a, b⟩ := oneC_iff.1 h1
  have := h.len
  exact ⟨by omega, by omega, fun i hi => by rw [b i hi]; decide, fun i hi => by rw [crsK_one b i hi]; show 1 ≤ 1000000; decide⟩
theorem cmpE_all (f : Lf) : cmpE f (f.cols.map frR) f.cols.length = f.cols.map fun c => evtR c (frR c) := by
  apply List.ext_getElem
  · rw [cmpE_len, List.length_map]
  · intro i h1 h2
    rw [cmpE_len] at h1
    unfold cmpE
    simp [h1]
def eZ : List V := [.sl 0 [] .no, .sl 0 [] .no, .sl 0 [] .no]
set_option maxHeartbeats 2000000 in
theorem rpiece_fn (f : Lf) (hs : LfSm f) : Fn Tryz.prog Gd 32 [f.val] (.tup [(pieR f).1.val, vint (pieR f).2]) := by
  refine Fn.of_vx0 k_theorboref10_Piece (by simp) (by rw [V.pures, pure_lf]; rfl) ?_
  have K := rlcheck_fn f hs
  unfold c_theorboref10_Piece
  by_cases h0 : lchk f = 0
  case neg =>
    have c1 : (lchk f == 0) = false := by rw [beq_eq_false_iff_ne]; exact h0
    have hq : pieR f = (noP, lchk f) := by rw [pieR, if_pos h0]
    rw [hq]
    replace hq := Hid.mk hq
    clear h0 hs
    repeat' (with_reducible first | refine x_ops ?_ | refine wk ?_ | (with_reducible refine xc (K) ?_) | ((first | refine gd1 ?_ ?_ | refine gd2 ?_ ?_ | refine gd3 ?_ ?_) <;> (first | exact @False.elim _ | intro hc)))
    refine finV_ret vv ?_
    exact .tup (.cons (.agg (.cons (.sl _ _ _) (.cons (.sl _ _ _) (.cons (.sl _ _ _) .nil)))) (.cons (.lit _) .nil))
  have c1 : (lchk f == 0) = true := by rw [h0]; rfl
  obtain ⟨q1, q2, q3⟩ := lchk_zero h0
  obtain ⟨q4, q5, _⟩ := chkI_small q1
  have hq : pieR f = if oneL f = true then (thP f, 0) else (noP, 101) := by rw [pieR, if_neg (by omega)]
  replace hq := Hid.mk hq
  have hc := Hid.mk hs.c
  have q30 := Hid.mk q3
  clear h0 hs q1 q3
  repeat' (with_reducible first | refine x_ops ?_ | refine wk ?_ | (with_reducible refine xc (K) ?_) | ((first | refine gd1 ?_ ?_ | refine gd2 ?_ ?_ | refine gd3 ?_ ?_) <;> (first | exact @False.elim _ | intro hc)))
  clear K c1
  have CM := complete_fn f (f.cols.map frR) (by simp) (by simp; omega) (by omega) (by omega) (fun i hi => by
    rw [List.length_map] at hi
    have h5 := (q30.out i hi).1.len
    rw [List.getD_eq_getElem?_getD, List.getElem?_map, List.getElem?_eq_getElem hi]
    rw [List.getD_eq_getElem?_getD, List.getElem?_eq_getElem hi] at h5
    show (List.map _ _).length ≤ _
    rw [List.length_map]
    simp only [Option.getD_some] at h5
    omega)
  rw [List.length_map, cmpE_all] at CM
  replace CM := Hid.mk CM
  refine x_loopW w_theorboref10_Piece_p7 kr f.cols.length (fun k t m => t 6 = vint k ∧ (m.obj 0 = some (.box [.sl f.ins.cs.length (f.ins.cs.flatMap Crs.cells) .no, .sl f.ins.st.length (f.ins.st.map vint) .no, .sl f.cols.length (f.cols.flatMap Clm.cells) .no] 28) ∧ m.obj 1 = some (.box [.sl 0 [] .exact, .sl 0 [] .exact, .sl 0 [] .exact] 49) ∧ 1 < m.next) ∧ (∃ tok, t 5 = .sl k (((f.cols.map frR).take k).flatMap Rdg.cells) tok ∧ Apb m tok k 123 4) ∧ ∀ i, i < k → oneC (f.cols.getD i default) = true) ?_ ?_
  · exact ⟨vv, ⟨vv, vv, by show 1 < 3; omega⟩, ⟨.exact, vv, .inl rfl⟩, fun i hi => by omega⟩
  rintro k t m hk ⟨h6, ⟨hm, hm1, hn⟩, ⟨tok, h5, hap⟩, hI⟩
  replace hap := Hid.mk hap
  replace hI := Hid.mk hI
  by_cases hlt : k < f.cols.length
  case neg =>
    have c1 : ¬ (k : Int) < (f.cols.length : Int) := by omega
    have hkl : k = f.cols.length := by omega
    subst hkl
    have hol : oneL f = true := oneL_iff.2 fun i hi => hI.out i hi
    have hqq := hq.out
    rw [if_pos hol] at hqq
    have e1 : (pieR f).1 = thP f := by rw [hqq]
    have e2 : (pieR f).2 = 0 := by rw [hqq]
    have e3 : (thP f).es.length = f.cols.length := List.length_map ..
    rw [e1, e2, e3]
    have ht : (f.cols.map frR).take f.cols.length = f.cols.map frR := List.take_of_length_le (by simp)
    rw [ht] at h5
    have CM0 := CM.out
    rw [tL, List.length_map] at CM0
    clear hlt hk hqq ht e1 e2 e3
    repeat' (with_reducible first | refine x_ops ?_ | refine wk ?_ | (with_reducible refine xc (CM0) ?_) | ((first | refine gd1 ?_ ?_ | refine gd2 ?_ ?_ | refine gd3 ?_ ?_) <;> (first | exact @False.elim _ | intro hc)))
    refine finV_ret vv ?_
    exact .tup (.cons (.agg (.cons (.sl _ _ _) (.cons (.sl _ _ _) (.cons (.sl _ _ _) .nil)))) (.cons (.lit _) .nil))
  have hlt0 := Hid.mk hlt
  have g1 := clm_take (l := f.cols) (k := k) hlt
  have hL1 := clms_len f.cols
  have c1 : (k : Int) < (f.cols.length : Int) := by omega
  have c3 : k * 4 + 4 ≤ f.cols.length * 4 := by omega
  have w1 := w_add1 (k := k) (by omega)
  have hcl := (q30.out k hlt).1
  have hmo := many_one hcl
  have MA := many_fn (f.cols.getD k default) (hc.out k hlt)
  have hgk : f.cols[k] = f.cols.getD k default := by rw [List.getD_eq_getElem?_getD, List.getElem?_eq_getElem hlt]; rfl
  by_cases h1 : oneC (f.cols.getD k default) = true
  case neg =>
    have c4 : (1 : Int) < ((manyC (f.cols.getD k default) : Nat) : Int) := by
      have := mt hmo.1 h1
      omega
    have hol : oneL f = false := by
      cases ho : oneL f with
      | false => rfl
      | true => exact absurd (oneL_iff.1 ho k hlt) h1
    have hqq := hq.out
    rw [if_neg (by rw [hol]; decide)] at hqq
    rw [hqq]
    clear hlt hk hqq hol h1 hmo hgk
    generalize f.cols.getD k default = c at *
    obtain ⟨bar, tie, sgs, ce⟩ := c
    repeat' (with_reducible first | refine x_ops ?_ | refine wk ?_ | (with_reducible refine xc (MA) ?_) | ((first | refine gd1 ?_ ?_ | refine gd2 ?_ ?_ | refine gd3 ?_ ?_) <;> (first | exact @False.elim _ | intro hc)))
    refine finV_ret vv ?_
    exact .tup (.cons (.agg (.cons (.sl _ _ _) (.cons (.sl _ _ _) (.cons (.sl _ _ _) .nil)))) (.cons (.lit _) .nil))
  have c4 : ¬ (1 : Int) < ((manyC (f.cols.getD k default) : Nat) : Int) := by
    have := hmo.2 h1
    omega
  have RD := readings_fn (f.cols.getD k default) (RdSm.of_one q4 hcl h1)
  rw [rdgs_one h1, tL, List.flatMap_singleton] at RD
  have htk : ((f.cols.map frR).take (k + 1)).flatMap Rdg.cells = ((f.cols.map frR).take k).flatMap Rdg.cells ++ (frR (f.cols.getD k default)).cells := by
    rw [List.take_add_one, List.getElem?_map, List.getElem?_eq_getElem hlt, List.flatMap_append, hgk]
    simp
  have hsl : (((f.cols.map frR).take k).flatMap Rdg.cells).length = k * 4 := by
    rw [rdgs_len, List.length_take, List.length_map, Nat.min_eq_left (by omega)]
  have hst : ∀ i, i < k + 1 → oneC (f.cols.getD i default) = true := fun i hi => by
    by_cases e : i = k
    · subst e; exact h1
    · exact hI.out i (by omega)
  have q20 := Hid.mk q2
  clear hlt hk hmo hgk hcl h1 q2
  generalize f.cols.getD k default = c at *
  generalize hL9 : ((f.cols.map frR).take (k + 1)).flatMap Rdg.cells = L9 at *
  generalize ((f.cols.map frR).take k).flatMap Rdg.cells = L8 at *
  generalize hfr : frR c = rd at *
  obtain ⟨⟨v, d, tt⟩, ns⟩ := rd
  obtain ⟨bar, tie, sgs, ce⟩ := c
  replace hfr := Hid.mk hfr
  replace hL9 := Hid.mk hL9
  replace htk := Hid.mk htk
  replace hsl := Hid.mk hsl
  replace hst := Hid.mk hst
  repeat' (with_reducible first | refine x_ops ?_ | refine wk ?_ | (with_reducible refine xc (MA) ?_) | (with_reducible refine xc (RD) ?_) | ((first | refine gd1 ?_ ?_ | refine gd2 ?_ ?_ | refine gd3 ?_ ?_) <;> (first | exact @False.elim _ | intro hc)))
  refine x_appc (n := k) (xs := L8) (j := 1) (ys := [vint v, vbool d, vbool tt, .sl ns.length (ns.map vint) .no]) (k := tok) (k2 := .exact) vw vw (hap.out.mono (fun _ _ _ => rfl) (Nat.le_add_right _ _)) hsl.out rfl (by have := hlt0.out; have := q20.out; omega) (by have := hlt0.out; have := q20.out; unfold Go.maxLen; omega) (by show m.next + 10 < m.next + 12; omega) ?_
  intro tok3 m3 hap3 hn3 hf3 hq3
  have hnn : m3.next = m.next + 12 := hn3
  have hm3 : m3.obj 0 = some (.box [.sl f.ins.cs.length (f.ins.cs.flatMap Crs.cells) .no, .sl f.ins.st.length (f.ins.st.map vint) .no, .sl f.cols.length (f.cols.flatMap Clm.cells) .no] 28) := (hf3 0 (by show ¬ 0 = m.next + 10; omega) (hap.out.box hm)).trans hm
  have hm13 : m3.obj 1 = some (.box [.sl 0 [] .exact, .sl 0 [] .exact, .sl 0 [] .exact] 49) := (hf3 1 (by show ¬ 1 = m.next + 10; omega) (hap.out.box hm1)).trans hm1
  replace hap3 := Hid.mk hap3
  clear hm hm1 hf3 hq3 hn3
  repeat' (with_reducible first | refine x_ops ?_ | refine wk ?_ | ((first | refine gd1 ?_ ?_ | refine gd2 ?_ ?_ | refine gd3 ?_ ?_) <;> (first | exact @False.elim _ | intro hc)))
  refine nx hlt0.out ⟨vv, ⟨hm3, hm13, by show 1 < m.next + 12; omega⟩, ⟨tok3, ?_, ?_⟩, hst.out⟩
  · rw [hL9.out, htk.out]; exact vv
  · exact hap3.out.mono (fun _ _ _ => rfl) (by show m3.next ≤ m.next + 12; omega)
end Go.Proofs.YtdefefeifcdogaaGreat
