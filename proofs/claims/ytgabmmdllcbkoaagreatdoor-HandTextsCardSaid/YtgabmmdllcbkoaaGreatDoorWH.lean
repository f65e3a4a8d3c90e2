/- A text of grips is read: the program, on values. -/
import Derived.Test.YtgabmmdllcbkoaaGreatDoorWG
set_option linter.unusedSimpArgs false
set_option linter.unusedVariables false
set_option maxRecDepth 100000
namespace Go.Proofs.YtgabmmdllcbkoaaGreatDoor
open Go.RowKit
theorem last_getD {α : Type} (l : List α) (d : α) : l.getLastD d = l.getD (l.length - 1) d := by
  rw [List.getLastD_eq_getLast?, List.getLast?_eq_getElem?, List.getD_eq_getElem?_getD]
theorem drop_last {L : List (List UInt8)} : vslc 1 false true (.sl L.length (L.map str) .no) [.lit (.int .i64 ((L.length - 1 : Nat) : Int))] = some (.sl L.dropLast.length (L.dropLast.map str) .no) := by
  have e : vslc 1 false true (.sl L.length (L.map str) .no) [.lit (.int .i64 ((L.length - 1 : Nat) : Int))] = if (0 : Int) ≤ 0 ∧ (0 : Int) ≤ ((L.length - 1 : Nat) : Int) ∧ ((L.length - 1 : Nat) : Int) ≤ (L.length : Int) then some (.sl (((L.length - 1 : Nat) : Int).toNat - 0) (((L.map str).drop (0 * 1)).take ((((L.length - 1 : Nat) : Int).toNat - 0) * 1)) .no) else none := rfl
  rw [e, if_pos (by omega), Int.toNat_natCast, Nat.sub_zero, Nat.mul_one, List.length_dropLast, List.dropLast_eq_take, List.map_take]; rfl
set_option maxHeartbeats 8000000 in
theorem read_fn {s : List UInt8} (hs : s.length ≤ 1000000) : Fn Tryz.prog Gd 7 [str s] (rgV (rdR s)) := by
  rw [← rd_eq]
  refine Fn.of_vx0 k_hand_Read (by simp) rfl ?_
  unfold c_hand_Read
  have SP := split_fn 10 s (by omega)
  have RR : ∀ {t : Nat → V} {m : Mm}, t 0 = str s → t 4 = .sl (lnsP s).length ((lnsP s).map str) .no → t 2 = .sl 0 [] .exact → (c_hand_Read_p25).vx Tryz.prog Gd (FinV [.t 2, .t 3] (rgV (rdP s))) ⟨t, m⟩ := fun a b c => read_rest hs a b c
  have hln : lnsP s = if (splitC 10 s).getD ((splitC 10 s).length - 1) [] = [] then (splitC 10 s).dropLast else splitC 10 s := by rw [← last_getD]; rfl
  have hL1 := (splitC_le 10 s).1
  have hL0 : 0 < (splitC 10 s).length := List.length_pos_iff.2 (splitC_ne 10 s)
  generalize splitC 10 s = L at *
  have hRR := Hid.mk @RR
  clear RR
  have w1 := w_sub1 (k := L.length) hL0 (by omega)
  have hat := strs_at (l := L) (k := L.length - 1) (by omega)
  generalize hw : L.getD (L.length - 1) [] = w at *
  have V1 : vbinS .eql ⟨w.toArray⟩ ⟨#[]⟩ = some (.bool (decide (w = []))) := veql w []
  have hln0 := Hid.mk hln
  clear hln hw
  simp only [str, tSs] at SP
  have hcl := strs_clean L
  have c1 : (L.length - 1) * 1 + 1 ≤ L.length := by omega
  have c2 : ((L.length - 1 : Nat) : Int) ≤ (L.length : Int) := by omega
  have c3 : L.length - 1 < L.length := by omega
  have c4 : ((L.length - 1 : Nat) : Int) < (L.length : Int) := by omega
  by_cases he : w = []
  · rw [decide_eq_true he] at V1
    have he0 := Hid.mk he
    clear he
    have DL := drop_last (L := L)
    repeat' (with_reducible first | refine x_ops ?_ | simp only [go_sem, Nat.reduceAdd, Nat.reduceEqDiff, Nat.reduceLT, Nat.reduceLeDiff, Nat.reduceMul, Nat.reduceSub, Nat.reducePow, Nat.reduceDiv, Nat.reduceMod, Nat.reduceBEq, Int.reduceBEq, Int.reduceLT, reduceIte, tIs, tBs, tPs, str, *] | (with_reducible refine xc (SP) ?_) | ((first | refine gd1 ?_ ?_ | refine gd2 ?_ ?_ | refine gd3 ?_ ?_) <;> (first | exact @False.elim _ | intro hc)))
    refine hRR.out vv ?_ vv
    rw [hln0.out, if_pos he0.out]
    exact vv
  · rw [decide_eq_false he] at V1
    repeat' (with_reducible first | refine x_ops ?_ | simp only [go_sem, Nat.reduceAdd, Nat.reduceEqDiff, Nat.reduceLT, Nat.reduceLeDiff, Nat.reduceMul, Nat.reduceSub, Nat.reducePow, Nat.reduceDiv, Nat.reduceMod, Nat.reduceBEq, Int.reduceBEq, Int.reduceLT, reduceIte, tIs, tBs, tPs, str, *] | (with_reducible refine xc (SP) ?_) | ((first | refine gd1 ?_ ?_ | refine gd2 ?_ ?_ | refine gd3 ?_ ?_) <;> (first | exact @False.elim _ | intro hc)))
    refine hRR.out vv ?_ vv
    rw [hln0.out, if_neg he]
    exact vv
end Go.Proofs.YtgabmmdllcbkoaaGreatDoor
