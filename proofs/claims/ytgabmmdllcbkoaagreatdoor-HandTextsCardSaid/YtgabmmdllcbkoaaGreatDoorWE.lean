/- A text of grips is read: the reference, on values. -/
import Derived.Test.YtgabmmdllcbkoaaGreatDoorWD
set_option linter.unusedSimpArgs false
set_option linter.unusedVariables false
set_option maxRecDepth 100000
namespace Go.Proofs.YtgabmmdllcbkoaaGreatDoor
open Go.RowKit
theorem nl_step {s : List UInt8} {k : Nat} (h : k < s.length) : nl (s.drop k) = (if s.getD k 0 = 10 ∨ k + 1 = s.length then 1 else 0) + nl (s.drop (k + 1)) := by
  rw [drop_getD h]
  cases hr : s.drop (k + 1) with
  | nil =>
    have : k + 1 = s.length := by have := List.drop_eq_nil_iff.1 hr; omega
    rw [if_pos (.inr this)]; rfl
  | cons y r =>
    have : ¬ k + 1 = s.length := by
      intro e
      rw [List.drop_eq_nil_iff.2 (by omega)] at hr; cases hr
    rw [nl]
    simp only [this, or_false]
/-- What is read at byte k, a line from fr on. -/
structure RdI (s : List UInt8) (k fr : Nat) (acc : List Grip) : Prop where
  le : fr ≤ k
  go : k ≤ s.length → goL [] [] s = goL acc (cur s fr k) (s.drop k)
  len : acc.length ≤ k
theorem RdI.start (s : List UInt8) : RdI s 0 0 [] := ⟨Nat.le_refl _, fun _ => by rw [cur_self]; rfl, by decide⟩
theorem RdI.skip {s : List UInt8} {k fr : Nat} {acc : List Grip} (h : RdI s k fr acc) (hk : k < s.length) (hx : s.getD k 0 ≠ 10) : RdI s (k + 1) fr acc :=
  ⟨by have := h.le; omega, fun _ => by rw [h.go (by omega), drop_getD hk, goL, if_neg hx, ← cur_succ h.le hk], by have := h.len; omega⟩
theorem RdI.none {s : List UInt8} {k fr : Nat} {acc : List Grip} (h : RdI s k fr acc) (hk : k < s.length) (hx : s.getD k 0 = 10) (hs : lineG (cur s fr k) = none) : goL [] [] s = ([], 4) := by
  rw [h.go (by omega), drop_getD hk, goL, if_pos hx, hs]
theorem RdI.line {s : List UInt8} {k fr : Nat} {acc : List Grip} {g : Grip} (h : RdI s k fr acc) (hk : k < s.length) (hx : s.getD k 0 = 10) (hs : lineG (cur s fr k) = some g) : RdI s (k + 1) (k + 1) (acc ++ [g]) :=
  ⟨Nat.le_refl _, fun _ => by rw [h.go (by omega), drop_getD hk, goL, if_pos hx, hs, cur_self], by have := h.len; simp only [List.length_append, List.length_cons, List.length_nil]; omega⟩
theorem RdI.last {s : List UInt8} {fr : Nat} {acc : List Grip} (h : RdI s s.length fr acc) : goL [] [] s = if fr < s.length then ([], 4) else (acc, 0) := by
  rw [h.go (Nat.le_refl _), List.drop_length, goL, cur, List.take_length]
  by_cases hf : fr < s.length
  · rw [if_pos hf, if_neg]
    intro e
    rw [List.drop_eq_nil_iff] at e; omega
  · rw [if_neg hf, if_pos (List.drop_eq_nil_iff.2 (by omega))]
theorem bigS_len {s : List UInt8} (h : 65536 < s.length) : rdR s = ([], 2) := by rw [rdR, if_pos (.inl h)]
theorem bigS_nl {s : List UInt8} (h : 400 < nl s) : rdR s = ([], 2) := by rw [rdR, if_pos (.inr h)]
theorem rdR_go {s : List UInt8} (h1 : ¬ 65536 < s.length) (h : ¬ 400 < nl s) : rdR s = goL [] [] s := by rw [rdR, if_neg (fun hb => hb.elim h1 h)]
/-- The words' own form of an answer. -/
def rgV (p : List Grip × Int) : V := .tup [tGs p.1, vint p.2]
theorem vw_rd {m : Mm} {S : Nat → Bool} (l : List Grip) (e : Int) (k : Tok) : Vw m S (.tup [.sl l.length (l.flatMap Grip.cells) k, vint e]) (rgV (l, e)) :=
  .tup (.cons (.sl _ _ _) (.cons (.lit _) .nil))
theorem fin_no {s' : St} {e : Int} (h : resV s' [.t 2, .t 3] = some (.tup [.sl 0 [] .exact, vint e])) : FinV [.t 2, .t 3] (rgV ([], e)) .ret s' := finV_ret h (vw_rd [] e .exact)
theorem gs_snoc (l : List Grip) (g : Grip) : (l ++ [g]).flatMap Grip.cells = l.flatMap Grip.cells ++ [vint g.pos, tIs g.fingers] := by simp [Grip.cells]
theorem lnV_cases (w : List UInt8) : (lineG w = none ∧ lnV w = .tup [.agg [vint 0, tIs []], vbool false]) ∨ ∃ g, lineG w = some g ∧ lnV w = .tup [.agg [vint g.pos, tIs g.fingers], vbool true] := by
  cases h : lineG w with
  | none => exact .inl ⟨rfl, lnV_none h⟩
  | some g => exact .inr ⟨g, rfl, lnV_some h⟩
set_option maxHeartbeats 8000000 in
theorem rread_fn {s : List UInt8} (hs : s.length ≤ 1000000) : Fn Tryz.prog Gd 9 [str s] (rgV (rdR s)) := by
  refine Fn.of_vx0 k_theorboref06_Read (by simp) rfl ?_
  unfold c_theorboref06_Read
  have hsz := bsz s
  by_cases hbig : 65536 < s.length
  · have c0 : (65536 : Int) < (s.length : Int) := by omega
    have c1 : ¬ (s.length : Int) ≤ 65536 := by omega
    rw [bigS_len hbig]
    clear hbig
    repeat' (with_reducible first | refine x_ops ?_ | simp only [go_sem, Nat.reduceAdd, Nat.reduceEqDiff, Nat.reduceLT, Nat.reduceLeDiff, Nat.reduceMul, Nat.reduceSub, Nat.reducePow, Nat.reduceDiv, Nat.reduceMod, Nat.reduceBEq, Int.reduceBEq, Int.reduceLT, reduceIte, tIs, tBs, tPs, str, *] | ((first | refine gd1 ?_ ?_ | refine gd2 ?_ ?_ | refine gd3 ?_ ?_) <;> (first | exact @False.elim _ | intro hc)))
    refine x_loopF w_theorboref06_Read_p4 (by kernel_rfl) 0 (fun k t => t 5 = vint 0) vv ?_
    rintro k t hk h5
    have c2 : (0 : Int) < (s.length : Int) := by omega
    repeat' (with_reducible first | refine x_ops ?_ | simp only [go_sem, Nat.reduceAdd, Nat.reduceEqDiff, Nat.reduceLT, Nat.reduceLeDiff, Nat.reduceMul, Nat.reduceSub, Nat.reducePow, Nat.reduceDiv, Nat.reduceMod, Nat.reduceBEq, Int.reduceBEq, Int.reduceLT, reduceIte, tIs, tBs, tPs, str, *] | ((first | refine gd1 ?_ ?_ | refine gd2 ?_ ?_ | refine gd3 ?_ ?_) <;> (first | exact @False.elim _ | intro hc)))
    exact fin_no vv
  have c0 : ¬ (65536 : Int) < (s.length : Int) := by omega
  have c1 : (s.length : Int) ≤ 65536 := by omega
  repeat' (with_reducible first | refine x_ops ?_ | simp only [go_sem, Nat.reduceAdd, Nat.reduceEqDiff, Nat.reduceLT, Nat.reduceLeDiff, Nat.reduceMul, Nat.reduceSub, Nat.reducePow, Nat.reduceDiv, Nat.reduceMod, Nat.reduceBEq, Int.reduceBEq, Int.reduceLT, reduceIte, tIs, tBs, tPs, str, *] | ((first | refine gd1 ?_ ?_ | refine gd2 ?_ ?_ | refine gd3 ?_ ?_) <;> (first | exact @False.elim _ | intro hc)))
  refine x_loopF w_theorboref06_Read_p4 (by kernel_rfl) s.length (fun k t => t 5 = vint (k : Int) ∧ ∃ c : Nat, t 4 = vint (c : Int) ∧ c + nl (s.drop k) = nl s ∧ c ≤ k) ⟨vv, 0, vv, by simp, Nat.le_refl _⟩ ?_
  rintro k t hk ⟨h5, c, h4, hc, hck⟩
  have hc0 := Hid.mk hc
  clear hc
  by_cases hlt : k < s.length
  · have c2 : (k : Int) < (s.length : Int) := by omega
    have hb := bat hlt
    have w1 := w_add1 (k := k) (by omega)
    have w2 := w_add1 (k := c) (by omega)
    have w3 := w_sub1 (k := s.length) (by omega) (by omega)
    have hst := Hid.mk (nl_step hlt)
    have hu := u8_eq (s.getD k 0) 10
    by_cases hx : s.getD k 0 = 10
    · have hb2 : (((s.getD k 0).toNat : Int) == 10) = true := hu.2 hx
      have hx0 := Hid.mk hx
      clear hx hu
      repeat' (with_reducible first | refine x_ops ?_ | simp only [go_sem, Nat.reduceAdd, Nat.reduceEqDiff, Nat.reduceLT, Nat.reduceLeDiff, Nat.reduceMul, Nat.reduceSub, Nat.reducePow, Nat.reduceDiv, Nat.reduceMod, Nat.reduceBEq, Int.reduceBEq, Int.reduceLT, reduceIte, tIs, tBs, tPs, str, *] | ((first | refine gd1 ?_ ?_ | refine gd2 ?_ ?_ | refine gd3 ?_ ?_) <;> (first | exact @False.elim _ | intro hc)))
      refine nf hlt ⟨vv, c + 1, vv, ?_, by omega⟩ rfl
      have := hst.out
      rw [if_pos (.inl hx0.out)] at this
      have := hc0.out
      omega
    · have hb2 : (((s.getD k 0).toNat : Int) == 10) = false := by rw [Bool.eq_false_iff]; exact fun h => hx (hu.1 h)
      have hx0 := Hid.mk hx
      clear hx hu
      by_cases hl : k + 1 = s.length
      · have hb3 : ((k : Int) == ((s.length - 1 : Nat) : Int)) = true := by rw [beq_iff_eq]; omega
        have hl0 := Hid.mk hl
        clear hl
        repeat' (with_reducible first | refine x_ops ?_ | simp only [go_sem, Nat.reduceAdd, Nat.reduceEqDiff, Nat.reduceLT, Nat.reduceLeDiff, Nat.reduceMul, Nat.reduceSub, Nat.reducePow, Nat.reduceDiv, Nat.reduceMod, Nat.reduceBEq, Int.reduceBEq, Int.reduceLT, reduceIte, tIs, tBs, tPs, str, *] | ((first | refine gd1 ?_ ?_ | refine gd2 ?_ ?_ | refine gd3 ?_ ?_) <;> (first | exact @False.elim _ | intro hc)))
        refine nf hlt ⟨vv, c + 1, vv, ?_, by omega⟩ rfl
        have := hst.out
        rw [if_pos (.inr hl0.out)] at this
        have := hc0.out
        omega
      · have hb3 : ((k : Int) == ((s.length - 1 : Nat) : Int)) = false := by rw [Bool.eq_false_iff]; intro h; rw [beq_iff_eq] at h; omega
        have hl0 := Hid.mk hl
        clear hl
        repeat' (with_reducible first | refine x_ops ?_ | simp only [go_sem, Nat.reduceAdd, Nat.reduceEqDiff, Nat.reduceLT, Nat.reduceLeDiff, Nat.reduceMul, Nat.reduceSub, Nat.reducePow, Nat.reduceDiv, Nat.reduceMod, Nat.reduceBEq, Int.reduceBEq, Int.reduceLT, reduceIte, tIs, tBs, tPs, str, *] | ((first | refine gd1 ?_ ?_ | refine gd2 ?_ ?_ | refine gd3 ?_ ?_) <;> (first | exact @False.elim _ | intro hc)))
        refine nf hlt ⟨vv, c, vw, ?_, by omega⟩ rfl
        have := hst.out
        rw [if_neg (fun h => h.elim hx0.out hl0.out)] at this
        have := hc0.out
        omega
  have hke : k = s.length := by omega
  subst hke
  have c2 : ¬ (s.length : Int) < (s.length : Int) := by omega
  have hcn : c = nl s := by have := hc0.out; rw [List.drop_length] at this; simpa [nl] using this
  clear hc0
  subst hcn
  by_cases hn : 400 < nl s
  · have c3 : (400 : Int) < (nl s : Int) := by omega
    rw [bigS_nl hn]
    clear hn
    repeat' (with_reducible first | refine x_ops ?_ | simp only [go_sem, Nat.reduceAdd, Nat.reduceEqDiff, Nat.reduceLT, Nat.reduceLeDiff, Nat.reduceMul, Nat.reduceSub, Nat.reducePow, Nat.reduceDiv, Nat.reduceMod, Nat.reduceBEq, Int.reduceBEq, Int.reduceLT, reduceIte, tIs, tBs, tPs, str, *] | ((first | refine gd1 ?_ ?_ | refine gd2 ?_ ?_ | refine gd3 ?_ ?_) <;> (first | exact @False.elim _ | intro hc)))
    exact fin_no vv
  have c3 : ¬ (400 : Int) < (nl s : Int) := by omega
  rw [rdR_go hbig hn]
  clear hn hbig hk hlt
  repeat' (with_reducible first | refine x_ops ?_ | simp only [go_sem, Nat.reduceAdd, Nat.reduceEqDiff, Nat.reduceLT, Nat.reduceLeDiff, Nat.reduceMul, Nat.reduceSub, Nat.reducePow, Nat.reduceDiv, Nat.reduceMod, Nat.reduceBEq, Int.reduceBEq, Int.reduceLT, reduceIte, tIs, tBs, tPs, str, *] | ((first | refine gd1 ?_ ?_ | refine gd2 ?_ ?_ | refine gd3 ?_ ?_) <;> (first | exact @False.elim _ | intro hc)))
  refine x_loopW w_theorboref06_Read_p14 (by kernel_rfl) s.length (fun k t m => t 8 = vint (k : Int) ∧ ∃ (fr : Nat) (acc : List Grip) (tok : Tok), t 7 = vint (fr : Int) ∧ t 6 = .sl acc.length (acc.flatMap Grip.cells) tok ∧ Apb m tok acc.length 47 2 ∧ RdI s k fr acc) ⟨vv, 0, [], .exact, vv, vv, .inl rfl, RdI.start s⟩ ?_
  clear c2
  rintro k t2 m hk ⟨h8, fr, acc, tok, h7, h6, hap, hI⟩
  have hI0 := Hid.mk hI
  have hap0 := Hid.mk hap
  have hle := hI.le
  have hal := hI.len
  clear hI hap
  by_cases hlt : k < s.length
  · have c2 : (k : Int) < (s.length : Int) := by omega
    have hb := bat hlt
    have w1 := w_add1 (k := k) (by omega)
    have E1 := sl2 (s := s) hle hk
    simp only [vint] at E1
    have hu := u8_eq (s.getD k 0) 10
    by_cases hx : s.getD k 0 = 10
    · have hb2 : (((s.getD k 0).toNat : Int) == 10) = true := hu.2 hx
      have hx0 := Hid.mk hx
      clear hx hu
      have RL := rline_fn (s := cur s fr k) (by rw [cur, List.length_drop, List.length_take]; omega)
      rcases lnV_cases (cur s fr k) with ⟨hno, hv⟩ | ⟨g, hg, hv⟩
      · rw [hv] at RL
        rw [hI0.out.none hlt hx0.out hno]
        clear hno hv
        simp only [str, vint, vbool] at RL
        repeat' (with_reducible first | refine x_ops ?_ | simp only [go_sem, Nat.reduceAdd, Nat.reduceEqDiff, Nat.reduceLT, Nat.reduceLeDiff, Nat.reduceMul, Nat.reduceSub, Nat.reducePow, Nat.reduceDiv, Nat.reduceMod, Nat.reduceBEq, Int.reduceBEq, Int.reduceLT, reduceIte, tIs, tBs, tPs, str, *] | (with_reducible refine xc (RL) ?_) | ((first | refine gd1 ?_ ?_ | refine gd2 ?_ ?_ | refine gd3 ?_ ?_) <;> (first | exact @False.elim _ | intro hc)))
        exact fin_no vv
      · rw [hv] at RL
        have hJ := Hid.mk (hI0.out.line hlt hx0.out hg)
        clear hg hv
        simp only [str, vint, vbool] at RL
        repeat' (with_reducible first | refine x_ops ?_ | simp only [go_sem, Nat.reduceAdd, Nat.reduceEqDiff, Nat.reduceLT, Nat.reduceLeDiff, Nat.reduceMul, Nat.reduceSub, Nat.reducePow, Nat.reduceDiv, Nat.reduceMod, Nat.reduceBEq, Int.reduceBEq, Int.reduceLT, reduceIte, tIs, tBs, tPs, str, *] | (with_reducible refine xc (RL) ?_) | ((first | refine gd1 ?_ ?_ | refine gd2 ?_ ?_ | refine gd3 ?_ ?_) <;> (first | exact @False.elim _ | intro hc)))
        have gl := gs_len acc
        refine x_appc vv vv (hap0.out.keep (by show m.next ≤ m.next + 11 + 5; omega) fun q hq _ => ?_) gl rfl (by omega) (by unfold maxLen; omega) (by show m.next + 11 + 3 < m.next + 11 + 5; omega) fun k' m' hA hnx hold howned => ?_
        · (simp only [put_obj]; repeat rw [if_neg (by omega)])
        have hA0 := Hid.mk hA
        clear hA hold howned hnx
        repeat' (with_reducible first | refine x_ops ?_ | simp only [go_sem, Nat.reduceAdd, Nat.reduceEqDiff, Nat.reduceLT, Nat.reduceLeDiff, Nat.reduceMul, Nat.reduceSub, Nat.reducePow, Nat.reduceDiv, Nat.reduceMod, Nat.reduceBEq, Int.reduceBEq, Int.reduceLT, reduceIte, tIs, tBs, tPs, str, *] | ((first | refine gd1 ?_ ?_ | refine gd2 ?_ ?_ | refine gd3 ?_ ?_) <;> (first | exact @False.elim _ | intro hc)))
        refine nx hlt ⟨vv, k + 1, acc ++ [g], k', vv, ?_, ?_, hJ.out⟩
        · rw [gs_snoc, List.length_append]; exact vv
        · rw [List.length_append]; exact hA0.out
    · have hb2 : (((s.getD k 0).toNat : Int) == 10) = false := by rw [Bool.eq_false_iff]; exact fun h => hx (hu.1 h)
      have hx0 := Hid.mk hx
      clear hx hu
      repeat' (with_reducible first | refine x_ops ?_ | simp only [go_sem, Nat.reduceAdd, Nat.reduceEqDiff, Nat.reduceLT, Nat.reduceLeDiff, Nat.reduceMul, Nat.reduceSub, Nat.reducePow, Nat.reduceDiv, Nat.reduceMod, Nat.reduceBEq, Int.reduceBEq, Int.reduceLT, reduceIte, tIs, tBs, tPs, str, *] | ((first | refine gd1 ?_ ?_ | refine gd2 ?_ ?_ | refine gd3 ?_ ?_) <;> (first | exact @False.elim _ | intro hc)))
      exact nx hlt ⟨vv, fr, acc, tok, vw, vw, hap0.out, hI0.out.skip hlt hx0.out⟩
  have hke : k = s.length := by omega
  subst hke
  have c2 : ¬ (s.length : Int) < (s.length : Int) := by omega
  rw [hI0.out.last]
  by_cases hf : fr < s.length
  · have c4 : (fr : Int) < (s.length : Int) := by omega
    rw [if_pos hf]
    clear hf
    repeat' (with_reducible first | refine x_ops ?_ | simp only [go_sem, Nat.reduceAdd, Nat.reduceEqDiff, Nat.reduceLT, Nat.reduceLeDiff, Nat.reduceMul, Nat.reduceSub, Nat.reducePow, Nat.reduceDiv, Nat.reduceMod, Nat.reduceBEq, Int.reduceBEq, Int.reduceLT, reduceIte, tIs, tBs, tPs, str, *] | ((first | refine gd1 ?_ ?_ | refine gd2 ?_ ?_ | refine gd3 ?_ ?_) <;> (first | exact @False.elim _ | intro hc)))
    exact fin_no vv
  · have c4 : ¬ (fr : Int) < (s.length : Int) := by omega
    rw [if_neg hf]
    clear hf
    repeat' (with_reducible first | refine x_ops ?_ | simp only [go_sem, Nat.reduceAdd, Nat.reduceEqDiff, Nat.reduceLT, Nat.reduceLeDiff, Nat.reduceMul, Nat.reduceSub, Nat.reducePow, Nat.reduceDiv, Nat.reduceMod, Nat.reduceBEq, Int.reduceBEq, Int.reduceLT, reduceIte, tIs, tBs, tPs, str, *] | ((first | refine gd1 ?_ ?_ | refine gd2 ?_ ?_ | refine gd3 ?_ ?_) <;> (first | exact @False.elim _ | intro hc)))
    exact finV_ret (r' := .tup [.sl acc.length (acc.flatMap Grip.cells) tok, vint 0]) vw (vw_rd _ _ _)
end Go.Proofs.YtgabmmdllcbkoaaGreatDoor
