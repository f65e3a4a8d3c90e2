/- Contracts on values: names of notes; the law Sounds. -/
import Derived.Test.YtbdhjpdjbogggaaDoorX24
namespace Go.Proofs.YtbdhjpdjbogggaaDoor
open Go.RowKit
attribute [local go_sem] vx_skip vx_ret vx_exit vx_seq vx_block vx_scope vx_cond vx_condT vx_condF gR_nil gR_cons VO.stops beq_self_eq_true Bool.false_beq Bool.true_beq Bool.not_true Bool.not_false Bool.false_eq_true if_false exo VI.on if_true exoOp pureSem List.map_cons List.map_nil St.ev initT Option.map_some putT_get putT_none put_obj put_next M0_next freeze_obj freeze_next List.getD_cons_zero List.getD_cons_succ List.getD_nil V.cells rdable Nat.add_assoc Nat.add_zero Nat.add_left_cancel_iff Nat.add_eq_left Nat.left_eq_add decide_true Bool.true_or ite_self onB vbinI vint vbool List.drop_zero List.take_succ_cons List.drop_succ_cons List.take_zero List.length_cons List.length_nil List.getElem?_cons_zero List.getElem?_cons_succ decide_eq_true_eq true_and and_true Nat.le_refl List.zip_cons_cons List.zip_nil_left V.pubs V.pub Option.bind_some List.all_cons List.all_nil V.one Bool.and_self List.cons_append List.nil_append then_nrm then_ret then_exit inB_nrm inB_ret inB_exit Int.toNat_natCast Int.natCast_nonneg eq_self Nat.zero_add Nat.mul_one
set_option linter.unusedSimpArgs false
set_option linter.unusedVariables false

def letL (k : Nat) : List UInt8 := [([67, 68, 69, 70, 71, 65, 66] : List UInt8).getD k 0]
theorem lets_fin : ∀ d : Fin 7, (⟨#[67, 68, 69, 70, 71, 65, 66]⟩ : ByteArray).extract d.val (d.val + 1) = ⟨(letL d.val).toArray⟩ := by decide +kernel
theorem lets_at {k : Nat} (h : k < 7) : (⟨#[67, 68, 69, 70, 71, 65, 66]⟩ : ByteArray).extract k (k + 1) = ⟨(letL k).toArray⟩ := lets_fin ⟨k, h⟩
def sgn (a : Int) : List UInt8 := if a = 1 then [35] else if a = -1 then [98] else []
def nmL (l a o : Int) : List UInt8 := letL l.toNat ++ sgn a ++ Lib.itoa o
def nameV (l a o : Int) : V := if right l a o = true then .tup [str (nmL l a o), vint 0] else .tup [str [], vint 10]
theorem vw_strp {m : Mm} {S : Nat → Bool} (s : List UInt8) (e : Int) : Vw m S (.tup [str s, vint e]) (.tup [str s, vint e]) := .tup (.cons (.lit _) (.cons (.lit _) .nil))
theorem right_in {l a o : Int} (h : right l a o = true) : 0 ≤ l ∧ l ≤ 6 ∧ -1 ≤ a ∧ a ≤ 1 ∧ -1 ≤ o ∧ o ≤ 9 := by
  simp [right, inb] at h
  omega
theorem name_fn (l a o : Int) : Fn Tryd.prog Gp 58 [tSp l a o] (nameV l a o) := by
  refine Fn.of_vx0 k_instrument_Name (by simp) (pures1 (pure_tSp l a o)) ?_
  unfold c_instrument_Name tSp
  have S := up (sounding_fn l a o)
  repeat (first | with_reducible refine x_ops ?_ | (simp only [go_sem, Nat.reduceAdd, Nat.reduceEqDiff, Nat.reduceLT, Nat.reduceLeDiff, Nat.reduceMul, Nat.reduceSub, reduceIte, splice, vfill]))
  refine x_call none S (by (simp only [go_sem, reduceIte, Nat.reduceEqDiff, V.norms, V.norm]); try rfl) ?_
  by_cases h : right l a o = true
  · rw [nameV, if_pos h, sndE, if_pos h]
    obtain ⟨l0, l6, a0, a1, o0, o1⟩ := right_in h
    have hw : IntKind.i64.wrap (l + 1) = l + 1 := IntWalk.i64_in _ (by omega)
    have hL := lets_at (k := l.toNat) (by omega)
    have e1 : (l + 1).toNat = l.toNat + 1 := by omega
    have c1 : 0 ≤ l ∧ l ≤ l + 1 ∧ l + 1 ≤ (((#[67, 68, 69, 70, 71, 65, 66] : Array UInt8).size : Nat) : Int) := by
      have : (((#[67, 68, 69, 70, 71, 65, 66] : Array UInt8).size : Nat) : Int) = 7 := rfl
      rw [this]; omega
    have z1 : (0 ≤ l) := l0
    have z2 : (l ≤ l + 1) := by omega
    have z3 := c1.2.2
    have hi := itoa_le (n := o) (by omega) (by omega)
    have I := itoa_fn o (by omega) (by omega)
    unfold nmL
    have ha : a = 1 ∨ a = -1 ∨ a = 0 := by omega
    rcases ha with rfl | rfl | rfl
    · have v1 := vadd (a := letL l.toNat) (b := [35]) (by simp [letL])
      have v2 := vadd (a := letL l.toNat ++ [35]) (b := Lib.itoa o) (by simp [letL]; omega)
      have b0 : ((1 : Int) == 1) = true := rfl
      repeat (first | with_reducible refine x_ops ?_ | (simp only [go_sem, Nat.reduceAdd, Nat.reduceEqDiff, Nat.reduceLT, Nat.reduceLeDiff, Nat.reduceMul, Nat.reduceSub, reduceIte, splice, vfill, bne_self_eq_false, b0]))
      repeat (first | with_reducible refine x_ops ?_ | (simp only [go_sem, Nat.reduceAdd, Nat.reduceEqDiff, Nat.reduceLT, Nat.reduceLeDiff, Nat.reduceMul, Nat.reduceSub, reduceIte, splice, vfill, bnds, vslS, hw, z1, z2, z3, e1, hL, v1]))
      refine x_call _ I (by (simp only [go_sem, reduceIte, Nat.reduceEqDiff, V.norms, V.norm]); try rfl) ?_
      repeat (first | with_reducible refine x_ops ?_ | (simp only [go_sem, Nat.reduceAdd, Nat.reduceEqDiff, Nat.reduceLT, Nat.reduceLeDiff, Nat.reduceMul, Nat.reduceSub, reduceIte, splice, vfill, str, v2]))
      exact finV_ret (r' := _) (by (simp only [go_sem, Nat.reduceAdd, Nat.reduceEqDiff, Nat.reduceLT, Nat.reduceLeDiff, Nat.reduceMul, Nat.reduceSub, reduceIte, resV, resAll, resOne, oneOr]); try rfl) (vw_strp _ _)
    · have v1 := vadd (a := letL l.toNat) (b := [98]) (by simp [letL])
      have v2 := vadd (a := letL l.toNat ++ [98]) (b := Lib.itoa o) (by simp [letL]; omega)
      have b0 : ((-1 : Int) == 1) = false := rfl
      have b1 : ((-1 : Int) == -1) = true := rfl
      repeat (first | with_reducible refine x_ops ?_ | (simp only [go_sem, Nat.reduceAdd, Nat.reduceEqDiff, Nat.reduceLT, Nat.reduceLeDiff, Nat.reduceMul, Nat.reduceSub, reduceIte, splice, vfill, bne_self_eq_false, b0, b1]))
      repeat (first | with_reducible refine x_ops ?_ | (simp only [go_sem, Nat.reduceAdd, Nat.reduceEqDiff, Nat.reduceLT, Nat.reduceLeDiff, Nat.reduceMul, Nat.reduceSub, reduceIte, splice, vfill, bnds, vslS, hw, z1, z2, z3, e1, hL, v1]))
      refine x_call _ I (by (simp only [go_sem, reduceIte, Nat.reduceEqDiff, V.norms, V.norm]); try rfl) ?_
      repeat (first | with_reducible refine x_ops ?_ | (simp only [go_sem, Nat.reduceAdd, Nat.reduceEqDiff, Nat.reduceLT, Nat.reduceLeDiff, Nat.reduceMul, Nat.reduceSub, reduceIte, splice, vfill, str, v2]))
      exact finV_ret (r' := _) (by (simp only [go_sem, Nat.reduceAdd, Nat.reduceEqDiff, Nat.reduceLT, Nat.reduceLeDiff, Nat.reduceMul, Nat.reduceSub, reduceIte, resV, resAll, resOne, oneOr]); try rfl) (vw_strp _ _)
    · have v1 := vadd (a := letL l.toNat) (b := []) (by simp [letL])
      have v2 := vadd (a := letL l.toNat ++ []) (b := Lib.itoa o) (by simp [letL]; omega)
      have b0 : ((0 : Int) == 1) = false := rfl
      have b1 : ((0 : Int) == -1) = false := rfl
      repeat (first | with_reducible refine x_ops ?_ | (simp only [go_sem, Nat.reduceAdd, Nat.reduceEqDiff, Nat.reduceLT, Nat.reduceLeDiff, Nat.reduceMul, Nat.reduceSub, reduceIte, splice, vfill, bne_self_eq_false, b0, b1]))
      repeat (first | with_reducible refine x_ops ?_ | (simp only [go_sem, Nat.reduceAdd, Nat.reduceEqDiff, Nat.reduceLT, Nat.reduceLeDiff, Nat.reduceMul, Nat.reduceSub, reduceIte, splice, vfill, bnds, vslS, hw, z1, z2, z3, e1, hL, v1]))
      refine x_call _ I (by (simp only [go_sem, reduceIte, Nat.reduceEqDiff, V.norms, V.norm]); try rfl) ?_
      repeat (first | with_reducible refine x_ops ?_ | (simp only [go_sem, Nat.reduceAdd, Nat.reduceEqDiff, Nat.reduceLT, Nat.reduceLeDiff, Nat.reduceMul, Nat.reduceSub, reduceIte, splice, vfill, str, v2]))
      exact finV_ret (r' := _) (by (simp only [go_sem, Nat.reduceAdd, Nat.reduceEqDiff, Nat.reduceLT, Nat.reduceLeDiff, Nat.reduceMul, Nat.reduceSub, reduceIte, resV, resAll, resOne, oneOr]); try rfl) (vw_strp _ _)
  · rw [nameV, if_neg h, sndE, if_neg h]
    have e : ((10 : Int) != 0) = true := rfl
    repeat (first | with_reducible refine x_ops ?_ | (simp only [go_sem, Nat.reduceAdd, Nat.reduceEqDiff, Nat.reduceLT, Nat.reduceLeDiff, Nat.reduceMul, Nat.reduceSub, reduceIte, splice, vfill, e]))
    exact finV_ret (r' := _) (by (simp only [go_sem, Nat.reduceAdd, Nat.reduceEqDiff, Nat.reduceLT, Nat.reduceLeDiff, Nat.reduceMul, Nat.reduceSub, reduceIte, resV, resAll, resOne, oneOr]); try rfl) (vw_strp _ _)
theorem rname_fn (l a o : Int) : Fn Tryd.prog Gp 59 [tSp l a o] (nameV l a o) := by
  refine Fn.of_vx0 k_theorboref01_Name (by simp) (pures1 (pure_tSp l a o)) ?_
  unfold c_theorboref01_Name tSp
  have S := up (rright_fn l a o)
  repeat (first | with_reducible refine x_ops ?_ | (simp only [go_sem, Nat.reduceAdd, Nat.reduceEqDiff, Nat.reduceLT, Nat.reduceLeDiff, Nat.reduceMul, Nat.reduceSub, reduceIte, splice, vfill]))
  refine x_call none S (by (simp only [go_sem, reduceIte, Nat.reduceEqDiff, V.norms, V.norm]); try rfl) ?_
  by_cases h : right l a o = true
  · rw [nameV, if_pos h, h]
    obtain ⟨l0, l6, a0, a1, o0, o1⟩ := right_in h
    have hw : IntKind.i64.wrap (l + 1) = l + 1 := IntWalk.i64_in _ (by omega)
    have hL := lets_at (k := l.toNat) (by omega)
    have e1 : (l + 1).toNat = l.toNat + 1 := by omega
    have z1 : (0 ≤ l) := l0
    have z2 : (l ≤ l + 1) := by omega
    have z3 : l + 1 ≤ (((#[67, 68, 69, 70, 71, 65, 66] : Array UInt8).size : Nat) : Int) := by
      have : (((#[67, 68, 69, 70, 71, 65, 66] : Array UInt8).size : Nat) : Int) = 7 := rfl
      rw [this]; omega
    have hi := itoa_le (n := o) (by omega) (by omega)
    have I := decimal_fn o (by omega) (by omega)
    unfold nmL
    have ha : a = 1 ∨ a = -1 ∨ a = 0 := by omega
    rcases ha with rfl | rfl | rfl
    · have v1 := vadd (a := letL l.toNat) (b := [35]) (by simp [letL])
      have v2 := vadd (a := letL l.toNat ++ [35]) (b := Lib.itoa o) (by simp [letL]; omega)
      have b0 : ((1 : Int) == 1) = true := rfl
      have b1 : ((1 : Int) == -1) = false := rfl
      repeat (first | with_reducible refine x_ops ?_ | (simp only [go_sem, Nat.reduceAdd, Nat.reduceEqDiff, Nat.reduceLT, Nat.reduceLeDiff, Nat.reduceMul, Nat.reduceSub, reduceIte, splice, vfill, bnds, vslS, hw, z1, z2, z3, e1, hL, v1, b0, b1]))
      refine x_call _ I (by (simp only [go_sem, reduceIte, Nat.reduceEqDiff, V.norms, V.norm]); try rfl) ?_
      repeat (first | with_reducible refine x_ops ?_ | (simp only [go_sem, Nat.reduceAdd, Nat.reduceEqDiff, Nat.reduceLT, Nat.reduceLeDiff, Nat.reduceMul, Nat.reduceSub, reduceIte, splice, vfill, str, v2]))
      exact finV_ret (r' := _) (by (simp only [go_sem, Nat.reduceAdd, Nat.reduceEqDiff, Nat.reduceLT, Nat.reduceLeDiff, Nat.reduceMul, Nat.reduceSub, reduceIte, resV, resAll, resOne, oneOr]); try rfl) (vw_strp _ _)
    · have v1 := vadd (a := letL l.toNat) (b := [98]) (by simp [letL])
      have v2 := vadd (a := letL l.toNat ++ [98]) (b := Lib.itoa o) (by simp [letL]; omega)
      have b0 : ((-1 : Int) == 1) = false := rfl
      have b1 : ((-1 : Int) == -1) = true := rfl
      repeat (first | with_reducible refine x_ops ?_ | (simp only [go_sem, Nat.reduceAdd, Nat.reduceEqDiff, Nat.reduceLT, Nat.reduceLeDiff, Nat.reduceMul, Nat.reduceSub, reduceIte, splice, vfill, bnds, vslS, hw, z1, z2, z3, e1, hL, v1, b0, b1]))
      refine x_call _ I (by (simp only [go_sem, reduceIte, Nat.reduceEqDiff, V.norms, V.norm]); try rfl) ?_
      repeat (first | with_reducible refine x_ops ?_ | (simp only [go_sem, Nat.reduceAdd, Nat.reduceEqDiff, Nat.reduceLT, Nat.reduceLeDiff, Nat.reduceMul, Nat.reduceSub, reduceIte, splice, vfill, str, v2]))
      exact finV_ret (r' := _) (by (simp only [go_sem, Nat.reduceAdd, Nat.reduceEqDiff, Nat.reduceLT, Nat.reduceLeDiff, Nat.reduceMul, Nat.reduceSub, reduceIte, resV, resAll, resOne, oneOr]); try rfl) (vw_strp _ _)
    · have v2 := vadd (a := letL l.toNat) (b := Lib.itoa o) (by simp [letL]; omega)
      have b0 : ((0 : Int) == 1) = false := rfl
      have b1 : ((0 : Int) == -1) = false := rfl
      repeat (first | with_reducible refine x_ops ?_ | (simp only [go_sem, Nat.reduceAdd, Nat.reduceEqDiff, Nat.reduceLT, Nat.reduceLeDiff, Nat.reduceMul, Nat.reduceSub, reduceIte, splice, vfill, bnds, vslS, hw, z1, z2, z3, e1, hL, b0, b1]))
      refine x_call _ I (by (simp only [go_sem, reduceIte, Nat.reduceEqDiff, V.norms, V.norm]); try rfl) ?_
      repeat (first | with_reducible refine x_ops ?_ | (simp only [go_sem, Nat.reduceAdd, Nat.reduceEqDiff, Nat.reduceLT, Nat.reduceLeDiff, Nat.reduceMul, Nat.reduceSub, reduceIte, splice, vfill, str, v2]))
      exact finV_ret (r' := _) (by (simp only [go_sem, Nat.reduceAdd, Nat.reduceEqDiff, Nat.reduceLT, Nat.reduceLeDiff, Nat.reduceMul, Nat.reduceSub, reduceIte, resV, resAll, resOne, oneOr]); try rfl) (vw_strp _ _)
  · have h' : right l a o = false := by simpa using h
    rw [nameV, if_neg h, h']
    repeat (first | with_reducible refine x_ops ?_ | (simp only [go_sem, Nat.reduceAdd, Nat.reduceEqDiff, Nat.reduceLT, Nat.reduceLeDiff, Nat.reduceMul, Nat.reduceSub, reduceIte, splice, vfill]))
    exact finV_ret (r' := _) (by (simp only [go_sem, Nat.reduceAdd, Nat.reduceEqDiff, Nat.reduceLT, Nat.reduceLeDiff, Nat.reduceMul, Nat.reduceSub, reduceIte, resV, resAll, resOne, oneOr]); try rfl) (vw_strp _ _)
theorem nameV_is (l a o : Int) : ∃ s e, nameV l a o = .tup [str s, vint e] := by
  unfold nameV
  split <;> exact ⟨_, _, rfl⟩
theorem sounds_fn (l a o : Int) : Fn Tryd.prog Gp 17 [tSp l a o] (vbool true) := by
  refine Fn.of_vx0 k_theorbolaw01_InstrumentSounds (by simp) (pures1 (pure_tSp l a o)) ?_
  unfold c_theorbolaw01_InstrumentSounds tSp
  have S1 := up (sounding_fn l a o)
  have S2 := up (rsounding_fn l a o)
  have O := up (own_fn l a o)
  have N1 := name_fn l a o
  have N2 := rname_fn l a o
  obtain ⟨s, e, hs⟩ := nameV_is l a o
  rw [hs] at N1 N2
  unfold tSp at O S1 S2 N1 N2
  repeat (first | with_reducible refine x_ops ?_ | (simp only [go_sem, Nat.reduceAdd, Nat.reduceEqDiff, Nat.reduceLT, Nat.reduceLeDiff, Nat.reduceMul, Nat.reduceSub, reduceIte, splice, vfill]))
  refine x_call none S1 (by (simp only [go_sem, reduceIte, Nat.reduceEqDiff, V.norms, V.norm]); try rfl) ?_
  repeat (first | with_reducible refine x_ops ?_ | (simp only [go_sem, Nat.reduceAdd, Nat.reduceEqDiff, Nat.reduceLT, Nat.reduceLeDiff, Nat.reduceMul, Nat.reduceSub, reduceIte, splice, vfill]))
  refine x_call none O (by (simp only [go_sem, reduceIte, Nat.reduceEqDiff, V.norms, V.norm]); try rfl) ?_
  repeat (first | with_reducible refine x_ops ?_ | (simp only [go_sem, Nat.reduceAdd, Nat.reduceEqDiff, Nat.reduceLT, Nat.reduceLeDiff, Nat.reduceMul, Nat.reduceSub, reduceIte, splice, vfill]))
  refine x_call none S2 (by (simp only [go_sem, reduceIte, Nat.reduceEqDiff, V.norms, V.norm]); try rfl) ?_
  repeat (first | with_reducible refine x_ops ?_ | (simp only [go_sem, Nat.reduceAdd, Nat.reduceEqDiff, Nat.reduceLT, Nat.reduceLeDiff, Nat.reduceMul, Nat.reduceSub, reduceIte, splice, vfill]))
  refine x_call none N1 (by (simp only [go_sem, reduceIte, Nat.reduceEqDiff, V.norms, V.norm]); try rfl) ?_
  repeat (first | with_reducible refine x_ops ?_ | (simp only [go_sem, Nat.reduceAdd, Nat.reduceEqDiff, Nat.reduceLT, Nat.reduceLeDiff, Nat.reduceMul, Nat.reduceSub, reduceIte, splice, vfill]))
  refine x_call none O (by (simp only [go_sem, reduceIte, Nat.reduceEqDiff, V.norms, V.norm]); try rfl) ?_
  repeat (first | with_reducible refine x_ops ?_ | (simp only [go_sem, Nat.reduceAdd, Nat.reduceEqDiff, Nat.reduceLT, Nat.reduceLeDiff, Nat.reduceMul, Nat.reduceSub, reduceIte, splice, vfill]))
  refine x_call none N2 (by (simp only [go_sem, reduceIte, Nat.reduceEqDiff, V.norms, V.norm]); try rfl) ?_
  repeat (first | with_reducible refine x_ops ?_ | (simp only [go_sem, Nat.reduceAdd, Nat.reduceEqDiff, Nat.reduceLT, Nat.reduceLeDiff, Nat.reduceMul, Nat.reduceSub, reduceIte, splice, vfill, str, vbinS]))
  refine x_on rfl ?_
  refine x_call none (up works_fn) (by (simp only [go_sem, reduceIte, Nat.reduceEqDiff, V.norms, V.norm]); try rfl) ?_
  repeat (first | with_reducible refine x_ops ?_ | (simp only [go_sem, Nat.reduceAdd, Nat.reduceEqDiff, Nat.reduceLT, Nat.reduceLeDiff, Nat.reduceMul, Nat.reduceSub, reduceIte, splice, vfill]))
  exact finV_ret (r' := _) (by (simp only [go_sem, Nat.reduceAdd, Nat.reduceEqDiff, Nat.reduceLT, Nat.reduceLeDiff, Nat.reduceMul, Nat.reduceSub, reduceIte, resV, resAll, resOne, oneOr]); try rfl) (.lit _)
end Go.Proofs.YtbdhjpdjbogggaaDoor
