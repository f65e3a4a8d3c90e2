/- A word and a line of a text of grips are read: the reference, on values. -/
import Derived.Test.YtgabmmdllcbkoaaGreatDoorWA
set_option linter.unusedSimpArgs false
set_option linter.unusedVariables false
set_option maxRecDepth 100000
namespace Go.Proofs.YtgabmmdllcbkoaaGreatDoor
open Go.RowKit
theorem bl (l : List UInt8) : (⟨l.toArray⟩ : ByteArray).toList = l := by rw [ByteArray.toList_eq]
theorem veql (a b : List UInt8) : vbinS .eql ⟨a.toArray⟩ ⟨b.toArray⟩ = some (.bool (decide (a = b))) := by
  rw [vbinS, bl, bl]
  by_cases h : a = b
  · subst h; simp
  · simp [h]
theorem vneq (a b : List UInt8) : vbinS .neq ⟨a.toArray⟩ ⟨b.toArray⟩ = some (.bool (!decide (a = b))) := by
  rw [vbinS, bl, bl]
  by_cases h : a = b
  · subst h; simp
  · simp [h]
theorem bsz (l : List UInt8) : (⟨l.toArray⟩ : ByteArray).size = l.length := rfl
theorem bat {l : List UInt8} {k : Nat} (h : k < l.length) : (⟨l.toArray⟩ : ByteArray)[k]? = some (l.getD k 0) := by
  rw [List.getD_eq_getElem?_getD, List.getElem?_eq_getElem h]
  show (if _ : k < l.toArray.size then _ else _) = _
  rw [dif_pos (by simpa using h)]; rfl
theorem bext (l : List UInt8) (i j : Nat) : (⟨l.toArray⟩ : ByteArray).extract i j = ⟨((l.take j).drop i).toArray⟩ := by
  apply ByteArray.ext
  simp [ByteArray.data_extract, List.extract_toArray, List.extract_eq_take_drop]
  rw [List.drop_take]
theorem word_fn (w : List UInt8) (most : Nat) (hm : most ≤ 18) : Fn Tryz.prog Gd 28 [str w, vint most] (vint (wordN w most)) := by
  refine Fn.of_vx0 k_theorboref06_word (by simp) rfl ?_
  unfold c_theorboref06_word
  repeat' (with_reducible first | refine x_ops ?_ | refine wk ?_ | ((first | refine gd1 ?_ ?_ | refine gd2 ?_ ?_ | refine gd3 ?_ ?_) <;> (first | exact @False.elim _ | intro hc)))
  refine x_loopF w_theorboref06_word_p4 (by kernel_rfl) most (fun k t => t 5 = vint ((k : Int) + 1) ∧ ∀ n : Int, 1 ≤ n → n ≤ k → Lib.itoa n ≠ w) ?_ ?_
  · exact ⟨vv, fun n h1 h2 => by omega⟩
  rintro k t hk ⟨h5, hI⟩
  replace hI := Hid.mk hI
  by_cases hlt : k < most
  · have c2 : (k : Int) + 1 ≤ (most : Int) := by omega
    have w2 : IntKind.i64.wrap ((k : Int) + 1 + 1) = (((k + 1 : Nat) : Int) + 1) := by rw [w_in (by omega)]; omega
    have I1 := itoa_fn (n := (k : Int) + 1) (by omega) (by omega)
    have E1 := veql (Lib.itoa ((k : Int) + 1)) w
    have hgood := Hid.mk fun (e : Lib.itoa ((k : Int) + 1) = w) => wordN_at (w := w) (n := (k : Int) + 1) hm (by omega) (by omega) e
    have hnext := Hid.mk fun (e : Lib.itoa ((k : Int) + 1) ≠ w) (n : Int) (h1 : 1 ≤ n) (h2 : n ≤ ((k + 1 : Nat) : Int)) => show Lib.itoa n ≠ w by
      by_cases h : n = (k : Int) + 1
      · subst h; exact e
      · exact hI.out n h1 (by omega)
    by_cases e : Lib.itoa ((k : Int) + 1) = w
    · rw [decide_eq_true e] at E1
      rw [hgood.out e]
      clear e
      repeat' (with_reducible first | refine x_ops ?_ | simp only [go_sem, Nat.reduceAdd, Nat.reduceEqDiff, Nat.reduceLT, Nat.reduceLeDiff, Nat.reduceMul, Nat.reduceSub, Nat.reducePow, Nat.reduceDiv, Nat.reduceMod, Nat.reduceBEq, Int.reduceBEq, Int.reduceLT, reduceIte, tIs, tBs, tPs, str, *] | (with_reducible refine xc (I1) ?_) | ((first | refine gd1 ?_ ?_ | refine gd2 ?_ ?_ | refine gd3 ?_ ?_) <;> (first | exact @False.elim _ | intro hc)))
      exact finV_lit vv rfl
    · rw [decide_eq_false e] at E1
      replace hnext := Hid.mk (hnext.out e)
      clear e
      repeat' (with_reducible first | refine x_ops ?_ | simp only [go_sem, Nat.reduceAdd, Nat.reduceEqDiff, Nat.reduceLT, Nat.reduceLeDiff, Nat.reduceMul, Nat.reduceSub, Nat.reducePow, Nat.reduceDiv, Nat.reduceMod, Nat.reduceBEq, Int.reduceBEq, Int.reduceLT, reduceIte, tIs, tBs, tPs, str, *] | (with_reducible refine xc (I1) ?_) | ((first | refine gd1 ?_ ?_ | refine gd2 ?_ ?_ | refine gd3 ?_ ?_) <;> (first | exact @False.elim _ | intro hc)))
      exact nf hlt ⟨vv, hnext.out⟩ rfl
  · have c2 : ¬ (k : Int) + 1 ≤ (most : Int) := by omega
    have hz : wordN w most = 0 := by
      rcases wordN_cases w most with ⟨h, _⟩ | ⟨h1, h2, h3⟩
      · exact h
      · exact absurd h3 (hI.out _ h1 (by omega))
    rw [hz]
    repeat' (with_reducible first | refine x_ops ?_ | refine wk ?_ | ((first | refine gd1 ?_ ?_ | refine gd2 ?_ ?_ | refine gd3 ?_ ?_) <;> (first | exact @False.elim _ | intro hc)))
    exact finV_lit vv rfl
end Go.Proofs.YtgabmmdllcbkoaaGreatDoor
