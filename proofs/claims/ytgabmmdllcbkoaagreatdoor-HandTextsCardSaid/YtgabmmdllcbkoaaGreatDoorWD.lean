/- A line of a text of grips is read, and all of them: the reference, on values. -/
import Derived.Test.YtgabmmdllcbkoaaGreatDoorWC
set_option linter.unusedSimpArgs false
set_option linter.unusedVariables false
set_option maxRecDepth 100000
namespace Go.Proofs.YtgabmmdllcbkoaaGreatDoor
open Go.RowKit
/-- The word that stands before k. -/
def cur (s : List UInt8) (fr k : Nat) : List UInt8 := (s.take k).drop fr
theorem cur_succ {s : List UInt8} {fr k : Nat} (hf : fr ≤ k) (hk : k < s.length) : cur s fr (k + 1) = cur s fr k ++ [s.getD k 0] := by
  rw [cur, cur, take_getD 0 hk, List.drop_append_of_le_length (by rw [List.length_take]; omega)]
theorem cur_self (s : List UInt8) (k : Nat) : cur s k k = [] := by
  rw [cur, List.drop_eq_nil_iff, List.length_take]; omega
theorem drop_getD {s : List UInt8} {k : Nat} (hk : k < s.length) : s.drop k = s.getD k 0 :: s.drop (k + 1) := by
  rw [List.drop_eq_getElem_cons hk, List.getD_eq_getElem?_getD, List.getElem?_eq_getElem hk]; rfl
/-- What a grip that may be none yet is. -/
def gOf : Option Grip → Grip
  | none => noG
  | some g => g
/-- What is read at byte k, a word from fr on. -/
structure LnI (s : List UInt8) (k fr : Nat) (st : Option Grip) : Prop where
  le : fr ≤ k
  fs : fr = 0 ↔ st = none
  go : k ≤ s.length → lineG s = goW st (cur s fr k) (s.drop k)
  fin : k = s.length + 1 → st ≠ none ∧ lineG s = st
  l14 : (gOf st).fingers.length ≤ 14
theorem LnI.start (s : List UInt8) : LnI s 0 0 none := ⟨Nat.le_refl _, by simp, fun _ => by rw [cur_self]; rfl, fun h => by omega, by decide⟩
theorem LnI.skip {s : List UInt8} {k fr : Nat} {st : Option Grip} (h : LnI s k fr st) (hk : k < s.length) (hx : s.getD k 0 ≠ 32) : LnI s (k + 1) fr st :=
  ⟨by have := h.le; omega, h.fs, fun _ => by rw [h.go (by omega), drop_getD hk, goW, if_neg hx, ← cur_succ h.le hk], fun e => by omega, h.l14⟩
theorem LnI.none {s : List UInt8} {k fr : Nat} {st : Option Grip} (h : LnI s k fr st) (hk : k ≤ s.length) (hx : k < s.length → s.getD k 0 = 32) (hs : stepW st (cur s fr k) = none) : lineG s = none := by
  rw [h.go hk]
  rcases Nat.lt_or_ge k s.length with hlt | hge
  · rw [drop_getD hlt, goW, if_pos (hx hlt), hs]; rfl
  · rw [List.drop_eq_nil_of_le hge, goW, hs]
theorem LnI.word {s : List UInt8} {k fr : Nat} {st : Option Grip} {g : Grip} (h : LnI s k fr st) (hk : k ≤ s.length) (hx : k < s.length → s.getD k 0 = 32) (hs : stepW st (cur s fr k) = some g) (hl : g.fingers.length ≤ 14) : LnI s (k + 1) (k + 1) (some g) := by
  refine ⟨Nat.le_refl _, by simp, fun h1 => ?_, fun h1 => ?_, hl⟩
  · rw [h.go hk, drop_getD (by omega), goW, if_pos (hx (by omega)), hs, cur_self]; rfl
  · exact ⟨by simp, by rw [h.go hk, List.drop_eq_nil_of_le (by omega), goW, hs]⟩
/-- What a line comes to. -/
def lnV (s : List UInt8) : V := match lineG s with
  | some g => .tup [g.val, vbool true]
  | none => .tup [noG.val, vbool false]
theorem vw_g {m : Mm} {S : Nat → Bool} (p : Int) (l : List Int) (k : Tok) : Vw m S (.agg [vint p, .sl l.length (l.map vint) k]) (Grip.val ⟨p, l⟩) :=
  .agg (.cons (.lit _) (.cons (.sl _ _ _) .nil))
theorem lnV_none {s : List UInt8} (h : lineG s = none) : lnV s = .tup [noG.val, vbool false] := by rw [lnV, h]
theorem lnV_some {s : List UInt8} {g : Grip} (h : lineG s = some g) : lnV s = .tup [g.val, vbool true] := by rw [lnV, h]

theorem sl2 {s : List UInt8} {i j : Nat} (h1 : i ≤ j) (h2 : j ≤ s.length) : vslS true true ⟨s.toArray⟩ [vint i, vint j] = some (str (cur s i j)) := by
  have e : vslS true true ⟨s.toArray⟩ [vint i, vint j] = if (0 : Int) ≤ i ∧ (i : Int) ≤ j ∧ (j : Int) ≤ ((s.length : Nat) : Int) then some (.lit (.string ((⟨s.toArray⟩ : ByteArray).extract (i : Int).toNat (j : Int).toNat))) else none := rfl
  rw [e, if_pos (by omega), Int.toNat_natCast, Int.toNat_natCast, bext]; rfl
theorem sl1 {s : List UInt8} {j : Nat} (h2 : j ≤ s.length) : vslS false true ⟨s.toArray⟩ [vint j] = some (str (cur s 0 j)) := by
  have e : vslS false true ⟨s.toArray⟩ [vint j] = if (0 : Int) ≤ 0 ∧ (0 : Int) ≤ j ∧ (j : Int) ≤ ((s.length : Nat) : Int) then some (.lit (.string ((⟨s.toArray⟩ : ByteArray).extract (0 : Int).toNat (j : Int).toNat))) else none := rfl
  rw [e, if_pos (by omega), Int.toNat_natCast, bext]; rfl
theorem u8_eq (a b : UInt8) : ((a.toNat : Int) == (b.toNat : Int)) = true ↔ a = b := by
  rw [beq_iff_eq]
  exact ⟨fun h => UInt8.toNat_inj.1 (by omega), fun h => by rw [h]⟩
/-- What stands when a word is read. -/
def LwR (s : List UInt8) (k : Nat) : VX → (Nat → V) → Mm → Prop := fun e t m =>
  (e = .nrm ∧ t 5 = vint ((k + 1 : Nat) : Int) ∧ (∃ g tok, LnI s (k + 1) (k + 1) (some g) ∧ m.obj 3 = some (.box [vint g.pos, .sl g.fingers.length (g.fingers.map vint) tok] 47) ∧ Apb m tok g.fingers.length 3 1) ∧ 5 ≤ m.next ∧ m.obj 0 = some (.box [vint 0, .sl 0 [] .exact] 47)) ∨
  (e = .ret ∧ t 3 = vbool false ∧ lineG s = none ∧ m.obj 0 = some (.box [vint 0, .sl 0 [] .exact] 47))
theorem wordN_le (w : List UInt8) (m : Nat) : 0 ≤ wordN w m ∧ wordN w m ≤ m := by
  rcases wordN_cases w m with ⟨h, _⟩ | ⟨h1, h2, _⟩ <;> omega
set_option maxHeartbeats 4000000 in
theorem line_word {s : List UInt8} {k fr : Nat} {st : Option Grip} {tok : Tok} {t : Nat → V} {m : Mm} (hs : s.length ≤ 1000000) (h0 : t 0 = str s) (h5 : t 5 = vint (fr : Int)) (h6 : t 6 = vint (k : Int)) (h4 : t 4 = .ptr 3 0) (h2 : t 2 = .ptr 0 0)
    (hI : LnI s k fr st) (hk : k ≤ s.length) (hx : k < s.length → s.getD k 0 = 32) (o3 : m.obj 3 = some (.box [vint (gOf st).pos, .sl (gOf st).fingers.length ((gOf st).fingers.map vint) tok] 47)) (hap : Apb m tok (gOf st).fingers.length 3 1)
    (hn : 5 ≤ m.next) (o0 : m.obj 0 = some (.box [vint 0, .sl 0 [] .exact] 47)) : c_theorboref06_line_p10.vx Tryz.prog Gd (fun e s' => LwR s k e s'.t s'.m) ⟨t, m⟩ := by
  unfold c_theorboref06_line_p10
  have hI0 := Hid.mk hI
  have hle := hI.le
  have hx0 := Hid.mk hx
  have hap0 := Hid.mk hap
  clear hI hx hap
  have hsz := bsz s
  have w1 := w_add1 (k := k) (by omega)
  have hcut : (fr : Int) ≤ (k : Int) ∧ (k : Int) ≤ (s.length : Int) := by omega
  have x3 : ¬ (3 : Nat) = 0 := by decide
  cases st with
  | none =>
    have hfr : fr = 0 := hI0.out.fs.2 rfl
    subst hfr
    have W : Fn Tryz.prog Gd 28 [str (cur s 0 k), vint 18] (vint (wordN (cur s 0 k) 18)) := word_fn (cur s 0 k) 18 (by decide)
    have E1 := sl1 (s := s) (j := k) hk
    simp only [vint] at E1
    have hstep : stepW none (cur s 0 k) = if wordN (cur s 0 k) 18 = 0 then none else some ⟨wordN (cur s 0 k) 18, []⟩ := rfl
    simp only [str, vint] at W
    generalize wordN (cur s 0 k) 18 = n at W hstep
    simp only [gOf, noG] at o3
    have hcut2 : (k : Int) ≤ (s.length : Int) := hcut.2
    by_cases hn0 : n = 0
    · subst hn0
      have hres := Hid.mk (hI0.out.none hk hx0.out (by rw [hstep]; simp))
      clear hstep
      repeat' (with_reducible first | refine x_ops ?_ | simp only [go_sem, Nat.reduceAdd, Nat.reduceEqDiff, Nat.reduceLT, Nat.reduceLeDiff, Nat.reduceMul, Nat.reduceSub, Nat.reducePow, Nat.reduceDiv, Nat.reduceMod, Nat.reduceBEq, Int.reduceBEq, Int.reduceLT, reduceIte, tIs, tBs, tPs, str, *] | (with_reducible refine xc (W) ?_) | ((first | refine gd1 ?_ ?_ | refine gd2 ?_ ?_ | refine gd3 ?_ ?_) <;> (first | exact @False.elim _ | intro hc)))
      exact .inr ⟨rfl, vv, hres.out, put_same _ _ _⟩
    · have hres := Hid.mk (hI0.out.word hk hx0.out (by rw [hstep, if_neg hn0]) (by simp))
      have hb : (n == 0) = false := by simpa using hn0
      clear hstep
      repeat' (with_reducible first | refine x_ops ?_ | simp only [go_sem, Nat.reduceAdd, Nat.reduceEqDiff, Nat.reduceLT, Nat.reduceLeDiff, Nat.reduceMul, Nat.reduceSub, Nat.reducePow, Nat.reduceDiv, Nat.reduceMod, Nat.reduceBEq, Int.reduceBEq, Int.reduceLT, reduceIte, tIs, tBs, tPs, str, *] | (with_reducible refine xc (W) ?_) | ((first | refine gd1 ?_ ?_ | refine gd2 ?_ ?_ | refine gd3 ?_ ?_) <;> (first | exact @False.elim _ | intro hc)))
      refine .inl ⟨rfl, vv, ⟨_, tok, hres.out, ?_, ?_⟩, hn, ?_⟩
      · exact put_same _ _ _
      · exact hap0.out.put (o := .box _ _) o3
      · exact (put_other _ _ (by decide)).trans o0
  | some g =>
    have hg0 : ¬ (fr : Int) = 0 := by
      intro e
      have := hI0.out.fs.1 (by omega)
      cases this
    have hgb : ((fr : Int) == 0) = false := by simpa using hg0
    have W : Fn Tryz.prog Gd 28 [str (cur s fr k), vint 4] (vint (wordN (cur s fr k) 4)) := word_fn (cur s fr k) 4 (by decide)
    have E1 := sl2 (s := s) hle hk
    simp only [vint] at E1
    have hstep : stepW (some g) (cur s fr k) = if wordN (cur s fr k) 4 = 0 ∨ g.fingers.length = 14 then none else some ⟨g.pos, g.fingers ++ [wordN (cur s fr k) 4]⟩ := rfl
    simp only [str, vint] at W
    generalize wordN (cur s fr k) 4 = n at W hstep
    simp only [gOf] at o3 hap0
    have hcut1 := hcut.1
    have hcut2 : (k : Int) ≤ (s.length : Int) := hcut.2
    by_cases hn0 : n = 0
    · subst hn0
      have hres := Hid.mk (hI0.out.none hk hx0.out (by rw [hstep]; simp))
      clear hstep
      repeat' (with_reducible first | refine x_ops ?_ | simp only [go_sem, Nat.reduceAdd, Nat.reduceEqDiff, Nat.reduceLT, Nat.reduceLeDiff, Nat.reduceMul, Nat.reduceSub, Nat.reducePow, Nat.reduceDiv, Nat.reduceMod, Nat.reduceBEq, Int.reduceBEq, Int.reduceLT, reduceIte, tIs, tBs, tPs, str, *] | (with_reducible refine xc (W) ?_) | ((first | refine gd1 ?_ ?_ | refine gd2 ?_ ?_ | refine gd3 ?_ ?_) <;> (first | exact @False.elim _ | intro hc)))
      exact .inr ⟨rfl, vv, hres.out, put_same _ _ _⟩
    · have hb : (n == 0) = false := by simpa using hn0
      by_cases hn14 : g.fingers.length = 14
      · have hres := Hid.mk (hI0.out.none hk hx0.out (by rw [hstep]; simp [hn14]))
        have hb14 : ((g.fingers.length : Int) == 14) = true := by simp [hn14]
        clear hstep hn14
        repeat' (with_reducible first | refine x_ops ?_ | simp only [go_sem, Nat.reduceAdd, Nat.reduceEqDiff, Nat.reduceLT, Nat.reduceLeDiff, Nat.reduceMul, Nat.reduceSub, Nat.reducePow, Nat.reduceDiv, Nat.reduceMod, Nat.reduceBEq, Int.reduceBEq, Int.reduceLT, reduceIte, tIs, tBs, tPs, str, *] | (with_reducible refine xc (W) ?_) | ((first | refine gd1 ?_ ?_ | refine gd2 ?_ ?_ | refine gd3 ?_ ?_) <;> (first | exact @False.elim _ | intro hc)))
        exact .inr ⟨rfl, vv, hres.out, put_same _ _ _⟩
      · have hl14 := hI0.out.l14
        have hb14 : ((g.fingers.length : Int) == 14) = false := by simp; omega
        have hres := Hid.mk (hI0.out.word hk hx0.out (by rw [hstep, if_neg (by simp [hn0, hn14])]) (by simp only [gOf, List.length_append, List.length_cons, List.length_nil] at hl14 ⊢; omega))
        clear hstep
        replace hl14 := Hid.mk hl14
        replace hn14 := Hid.mk hn14
        repeat' (with_reducible first | refine x_ops ?_ | simp only [go_sem, Nat.reduceAdd, Nat.reduceEqDiff, Nat.reduceLT, Nat.reduceLeDiff, Nat.reduceMul, Nat.reduceSub, Nat.reducePow, Nat.reduceDiv, Nat.reduceMod, Nat.reduceBEq, Int.reduceBEq, Int.reduceLT, reduceIte, tIs, tBs, tPs, str, *] | (with_reducible refine xc (W) ?_) | ((first | refine gd1 ?_ ?_ | refine gd2 ?_ ?_ | refine gd3 ?_ ?_) <;> (first | exact @False.elim _ | intro hc)))
        refine x_appc vv vv (hap0.out.keep (Nat.le_add_right _ _) fun _ _ _ => rfl) (by simp) rfl (by have := hl14.out; simp only [gOf] at this; omega) (by have := hl14.out; simp only [gOf] at this; unfold maxLen; omega) (by show m.next + 4 < m.next + 7; omega) fun k' m' hA hnx hold howned => ?_
        have p3 := (hold 3 (by show 3 ≠ m.next + 4; omega) (hap0.out.box o3)).trans o3
        have p0 := (hold 0 (by show 0 ≠ m.next + 4; omega) (hap0.out.box o0)).trans o0
        have hA2 := Hid.mk (hA.put p3 (o := .box [vint g.pos, .sl (g.fingers.length + 1) (g.fingers.map vint ++ [vint n]) k'] 47))
        replace hA := Hid.mk hA
        replace hold := Hid.mk hold
        replace howned := Hid.mk howned
        replace hnx : m'.next = m.next + 7 := hnx
        clear o3 o0 hap0
        repeat' (with_reducible first | refine x_ops ?_ | simp only [go_sem, Nat.reduceAdd, Nat.reduceEqDiff, Nat.reduceLT, Nat.reduceLeDiff, Nat.reduceMul, Nat.reduceSub, Nat.reducePow, Nat.reduceDiv, Nat.reduceMod, Nat.reduceBEq, Int.reduceBEq, Int.reduceLT, reduceIte, tIs, tBs, tPs, str, *] | (with_reducible refine xc (W) ?_) | ((first | refine gd1 ?_ ?_ | refine gd2 ?_ ?_ | refine gd3 ?_ ?_) <;> (first | exact @False.elim _ | intro hc)))
        refine .inl ⟨rfl, vv, ⟨_, k', hres.out, ?_, ?_⟩, ?_, ?_⟩
        · show some (AObj.box [vint g.pos, .sl (g.fingers.length + 1) (g.fingers.map vint ++ [vint n]) k'] 47) = some (AObj.box [vint g.pos, .sl (g.fingers ++ [n]).length ((g.fingers ++ [n]).map vint) k'] 47)
          rw [List.map_append, List.length_append]; rfl
        · show Apb _ k' (g.fingers ++ [n]).length _ _
          rw [List.length_append]
          exact hA2.out.keep (by show m'.next ≤ m.next + 7; omega) fun _ _ _ => rfl
        · show 5 ≤ m.next + 7; omega
        · show m'.obj 0 = _; exact p0

set_option maxHeartbeats 4000000 in
theorem rline_fn {s : List UInt8} (hs : s.length ≤ 1000000) : Fn Tryz.prog Gd 20 [str s] (lnV s) := by
  refine Fn.of_vx0 k_theorboref06_line (by simp) rfl ?_
  unfold c_theorboref06_line
  have hsz := bsz s
  repeat' (with_reducible first | refine x_ops ?_ | simp only [go_sem, Nat.reduceAdd, Nat.reduceEqDiff, Nat.reduceLT, Nat.reduceLeDiff, Nat.reduceMul, Nat.reduceSub, Nat.reducePow, Nat.reduceDiv, Nat.reduceMod, Nat.reduceBEq, Int.reduceBEq, Int.reduceLT, reduceIte, tIs, tBs, tPs, str, *] | ((first | refine gd1 ?_ ?_ | refine gd2 ?_ ?_ | refine gd3 ?_ ?_) <;> (first | exact @False.elim _ | intro hc)))
  refine x_loopW w_theorboref06_line_p13 (by kernel_rfl) (s.length + 1) (fun k t m => t 6 = vint (k : Int) ∧ ∃ (fr : Nat) (st : Option Grip) (tok : Tok), t 5 = vint (fr : Int) ∧ LnI s k fr st ∧ m.obj 3 = some (.box [vint (gOf st).pos, .sl (gOf st).fingers.length ((gOf st).fingers.map vint) tok] 47) ∧ Apb m tok (gOf st).fingers.length 3 1 ∧ 5 ≤ m.next ∧ m.obj 0 = some (.box [vint 0, .sl 0 [] .exact] 47)) ?_ ?_
  · exact ⟨vv, 0, none, .exact, vv, LnI.start s, vv, .inl rfl, by show 5 ≤ 5; omega, vv⟩
  rintro k t m hk ⟨h6, fr, st, tok, h5, hI, o3, hap, hn, o0⟩
  have hI0 := Hid.mk hI
  have o30 := Hid.mk o3
  have o00 := Hid.mk o0
  have hap0 := Hid.mk hap
  clear hI o3 o0 hap
  by_cases hle : k ≤ s.length
  · have c1 : (k : Int) ≤ (s.length : Int) := by omega
    have w1 := w_add1 (k := k) (by omega)
    by_cases hlt : k < s.length
    · have c2 : (k : Int) < (s.length : Int) := by omega
      have hb := bat hlt
      have hu := u8_eq (s.getD k 0) 32
      by_cases hx : s.getD k 0 = 32
      · have hb2 : (((s.getD k 0).toNat : Int) == 32) = true := hu.2 hx
        have hx0 := Hid.mk hx
        clear hx hu
        repeat' (with_reducible first | refine x_ops ?_ | simp only [go_sem, Nat.reduceAdd, Nat.reduceEqDiff, Nat.reduceLT, Nat.reduceLeDiff, Nat.reduceMul, Nat.reduceSub, Nat.reducePow, Nat.reduceDiv, Nat.reduceMod, Nat.reduceBEq, Int.reduceBEq, Int.reduceLT, reduceIte, tIs, tBs, tPs, str, *] | ((first | refine gd1 ?_ ?_ | refine gd2 ?_ ?_ | refine gd3 ?_ ?_) <;> (first | exact @False.elim _ | intro hc)))
        refine x_sum 288230376118157480 kr (R := LwR s k) (line_word hs vw vw vw vw vw hI0.out hle (fun _ => hx0.out) o30.out (hap0.out.keep (Nat.le_refl _) fun _ _ _ => rfl) hn o00.out) ?_
        rintro e te me (⟨rfl, q5, ⟨g, tok', J, z3, zap⟩, zn, z0⟩ | ⟨rfl, q3, hno, z0⟩)
        · have J0 := Hid.mk J
          have z30 := Hid.mk z3
          have zap0 := Hid.mk zap
          have z00 := Hid.mk z0
          clear J z3 zap z0
          repeat' (with_reducible first | refine x_ops ?_ | simp only [go_sem, Nat.reduceAdd, Nat.reduceEqDiff, Nat.reduceLT, Nat.reduceLeDiff, Nat.reduceMul, Nat.reduceSub, Nat.reducePow, Nat.reduceDiv, Nat.reduceMod, Nat.reduceBEq, Int.reduceBEq, Int.reduceLT, reduceIte, tIs, tBs, tPs, str, *] | ((first | refine gd1 ?_ ?_ | refine gd2 ?_ ?_ | refine gd3 ?_ ?_) <;> (first | exact @False.elim _ | intro hc)))
          exact nx (by omega) ⟨vw, k + 1, some g, tok', vw, J0.out, z30.out, zap0.out, zn, z00.out⟩
        · rw [lnV_none hno]
          repeat' (with_reducible first | refine x_ops ?_ | simp only [go_sem, Nat.reduceAdd, Nat.reduceEqDiff, Nat.reduceLT, Nat.reduceLeDiff, Nat.reduceMul, Nat.reduceSub, Nat.reducePow, Nat.reduceDiv, Nat.reduceMod, Nat.reduceBEq, Int.reduceBEq, Int.reduceLT, reduceIte, tIs, tBs, tPs, str, *] | ((first | refine gd1 ?_ ?_ | refine gd2 ?_ ?_ | refine gd3 ?_ ?_) <;> (first | exact @False.elim _ | intro hc)))
          exact finV_ret (r' := .tup [.agg [vint 0, .sl 0 [] .exact], vbool false]) vw (.tup (.cons (vw_g 0 [] _) (.cons (.lit _) .nil)))
      · have hb2 : (((s.getD k 0).toNat : Int) == 32) = false := by rw [Bool.eq_false_iff]; exact fun h => hx (hu.1 h)
        have hx0 := Hid.mk hx
        clear hx hu
        repeat' (with_reducible first | refine x_ops ?_ | simp only [go_sem, Nat.reduceAdd, Nat.reduceEqDiff, Nat.reduceLT, Nat.reduceLeDiff, Nat.reduceMul, Nat.reduceSub, Nat.reducePow, Nat.reduceDiv, Nat.reduceMod, Nat.reduceBEq, Int.reduceBEq, Int.reduceLT, reduceIte, tIs, tBs, tPs, str, *] | ((first | refine gd1 ?_ ?_ | refine gd2 ?_ ?_ | refine gd3 ?_ ?_) <;> (first | exact @False.elim _ | intro hc)))
        exact nx (by omega) ⟨vw, fr, st, tok, vw, hI0.out.skip hlt hx0.out, o30.out, hap0.out, hn, o00.out⟩
    · have c2 : ¬ (k : Int) < (s.length : Int) := by omega
      repeat' (with_reducible first | refine x_ops ?_ | simp only [go_sem, Nat.reduceAdd, Nat.reduceEqDiff, Nat.reduceLT, Nat.reduceLeDiff, Nat.reduceMul, Nat.reduceSub, Nat.reducePow, Nat.reduceDiv, Nat.reduceMod, Nat.reduceBEq, Int.reduceBEq, Int.reduceLT, reduceIte, tIs, tBs, tPs, str, *] | ((first | refine gd1 ?_ ?_ | refine gd2 ?_ ?_ | refine gd3 ?_ ?_) <;> (first | exact @False.elim _ | intro hc)))
      refine x_sum 288230376118157480 kr (R := LwR s k) (line_word hs vw vw vw vw vw hI0.out hle (fun h => absurd h hlt) o30.out (hap0.out.keep (Nat.le_refl _) fun _ _ _ => rfl) hn o00.out) ?_
      rintro e te me (⟨rfl, q5, ⟨g, tok', J, z3, zap⟩, zn, z0⟩ | ⟨rfl, q3, hno, z0⟩)
      · have J0 := Hid.mk J
        have z30 := Hid.mk z3
        have zap0 := Hid.mk zap
        have z00 := Hid.mk z0
        clear J z3 zap z0
        repeat' (with_reducible first | refine x_ops ?_ | simp only [go_sem, Nat.reduceAdd, Nat.reduceEqDiff, Nat.reduceLT, Nat.reduceLeDiff, Nat.reduceMul, Nat.reduceSub, Nat.reducePow, Nat.reduceDiv, Nat.reduceMod, Nat.reduceBEq, Int.reduceBEq, Int.reduceLT, reduceIte, tIs, tBs, tPs, str, *] | ((first | refine gd1 ?_ ?_ | refine gd2 ?_ ?_ | refine gd3 ?_ ?_) <;> (first | exact @False.elim _ | intro hc)))
        exact nx (by omega) ⟨vw, k + 1, some g, tok', vw, J0.out, z30.out, zap0.out, zn, z00.out⟩
      · rw [lnV_none hno]
        repeat' (with_reducible first | refine x_ops ?_ | simp only [go_sem, Nat.reduceAdd, Nat.reduceEqDiff, Nat.reduceLT, Nat.reduceLeDiff, Nat.reduceMul, Nat.reduceSub, Nat.reducePow, Nat.reduceDiv, Nat.reduceMod, Nat.reduceBEq, Int.reduceBEq, Int.reduceLT, reduceIte, tIs, tBs, tPs, str, *] | ((first | refine gd1 ?_ ?_ | refine gd2 ?_ ?_ | refine gd3 ?_ ?_) <;> (first | exact @False.elim _ | intro hc)))
        exact finV_ret (r' := .tup [.agg [vint 0, .sl 0 [] .exact], vbool false]) vw (.tup (.cons (vw_g 0 [] _) (.cons (.lit _) .nil)))
  · have c1 : ¬ (k : Int) ≤ (s.length : Int) := by omega
    have hke : k = s.length + 1 := by omega
    obtain ⟨hf1, hf2⟩ := hI0.out.fin hke
    cases st with
    | none => exact absurd rfl hf1
    | some g =>
      rw [lnV_some hf2]
      have o3 := o30.out
      have o0 := o00.out
      simp only [gOf] at o3
      clear hke hf1 hf2
      repeat' (with_reducible first | refine x_ops ?_ | simp only [go_sem, Nat.reduceAdd, Nat.reduceEqDiff, Nat.reduceLT, Nat.reduceLeDiff, Nat.reduceMul, Nat.reduceSub, Nat.reducePow, Nat.reduceDiv, Nat.reduceMod, Nat.reduceBEq, Int.reduceBEq, Int.reduceLT, reduceIte, tIs, tBs, tPs, str, *] | ((first | refine gd1 ?_ ?_ | refine gd2 ?_ ?_ | refine gd3 ?_ ?_) <;> (first | exact @False.elim _ | intro hc)))
      exact finV_ret (r' := .tup [.agg [vint g.pos, .sl g.fingers.length (g.fingers.map vint) tok], vbool true]) vw (.tup (.cons (vw_g _ _ _) (.cons (.lit _) .nil)))
end Go.Proofs.YtgabmmdllcbkoaaGreatDoor
