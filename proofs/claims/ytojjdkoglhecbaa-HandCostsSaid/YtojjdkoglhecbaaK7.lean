/- The law HandCosts, on values. -/
import Derived.Test.YtojjdkoglhecbaaK6
import Derived.Test.YtojjdkoglhecbaaXw
namespace Go.Proofs.Ytojjdkoglhecbaa
open Go.RowKit
attribute [local go_sem] vx_skip vx_ret vx_exit vx_seq vx_block vx_scope vx_cond vx_condT vx_condF gR_nil gR_cons VO.stops beq_self_eq_true Bool.false_beq Bool.true_beq Bool.not_true Bool.not_false Bool.false_eq_true if_false exo VI.on if_true exoOp pureSem List.map_cons List.map_nil St.ev initT Option.map_some putT_get putT_none put_obj put_next M0_next freeze_obj freeze_next List.getD_cons_zero List.getD_cons_succ List.getD_nil V.cells rdable Nat.add_assoc Nat.add_zero Nat.add_left_cancel_iff Nat.add_eq_left Nat.left_eq_add decide_true Bool.true_or ite_self onB vbinI vint vbool List.drop_zero List.take_succ_cons List.drop_succ_cons List.take_zero List.length_cons List.length_nil List.getElem?_cons_zero List.getElem?_cons_succ decide_eq_true_eq true_and and_true Nat.le_refl List.zip_cons_cons List.zip_nil_left V.pubs V.pub Option.bind_some List.all_cons List.all_nil V.one Bool.and_self List.cons_append List.nil_append then_nrm then_ret then_exit inB_nrm inB_ret inB_exit Int.toNat_natCast Int.natCast_nonneg eq_self Nat.zero_add Nat.mul_one
set_option linter.unusedSimpArgs false
set_option linter.unusedVariables false

/-- Two chords and two grips. -/
def twoV (a b : Chord) (g k : Grip) : V := .agg [tPs a.down, tIs a.held, tIs a.opn, tPs b.down, tIs b.held, tIs b.opn, vint g.pos, tIs g.fingers, vint k.pos, tIs k.fingers]
theorem pure_two (a b : Chord) (g k : Grip) : (twoV a b g k).pure = true := by
  simp [twoV, tPs, tIs, V.pure, V.pures, vint]
set_option maxHeartbeats 4000000 in
theorem handcosts_fn (h : Hand) (a b : Chord) (fa : FitC a) (fb : FitC b) (g k : Grip) (hg : g.fingers.length ≤ 17592186044416) (hkk : k.fingers.length ≤ 17592186044416) :
    Fn Try.prog Gd 10 [h.val, twoV a b g k] (vbool true) := by
  refine Fn.of_vx0 k_theorbolaw06_HandCosts (by simp) (by rw [V.pures, pure_hand, V.pures, pure_two]; rfl) ?_
  have C1 := Own_fn h a fa g hg
  have C2 := rOwn_fn h a fa g hg
  have C3 := Step_fn h a b fa fb g k hg hkk
  have C4 := rStep_fn h a b fa fb g k hg hkk
  generalize ownR h a g = r1 at C1 C2
  generalize stepA h a g b k = r2 at C3 C4
  obtain ⟨x1, e1⟩ := r1
  obtain ⟨x2, e2⟩ := r2
  unfold Hand.val at C1 C2 C3 C4
  unfold Chord.val Chord.cells Grip.val Grip.cells at C1 C2 C3 C4
  unfold c_theorbolaw06_HandCosts Hand.val twoV
  repeat' (first | with_reducible refine x_ops ?_ | simp only [go_sem, wsl, vund, bne, List.length_map, Int.reduceBEq, Int.reduceLT, stOk, ownOk, List.contains_cons, List.contains_nil, Nat.reduceBEq, tIs, tBs, tPs, Nat.reduceAdd, Nat.reduceEqDiff, Nat.reduceLT, Nat.reduceLeDiff, Nat.reduceMul, Nat.reduceSub, Nat.reducePow, Nat.reduceDiv, Nat.reduceMod, reduceIte, splice, vfill, mix_get, ge_iff_le, gt_iff_lt, ite_not, not_true, not_false_eq_true, *] | (with_reducible refine x_call _ (C1) (by (simp only [go_sem, reduceIte, Nat.reduceEqDiff, Nat.reducePow, Nat.reduceDiv, Nat.reduceMod, mix_get, V.norms, V.norm, tIs, tBs, tPs, *]); first | done | rfl) ?_) | (with_reducible refine x_call _ (C2) (by (simp only [go_sem, reduceIte, Nat.reduceEqDiff, Nat.reducePow, Nat.reduceDiv, Nat.reduceMod, mix_get, V.norms, V.norm, tIs, tBs, tPs, *]); first | done | rfl) ?_) | (with_reducible refine x_call _ (C3) (by (simp only [go_sem, reduceIte, Nat.reduceEqDiff, Nat.reducePow, Nat.reduceDiv, Nat.reduceMod, mix_get, V.norms, V.norm, tIs, tBs, tPs, *]); first | done | rfl) ?_) | (with_reducible refine x_call _ (C4) (by (simp only [go_sem, reduceIte, Nat.reduceEqDiff, Nat.reducePow, Nat.reduceDiv, Nat.reduceMod, mix_get, V.norms, V.norm, tIs, tBs, tPs, *]); first | done | rfl) ?_) | (with_reducible refine x_call _ (works_fn) (by (simp only [go_sem, reduceIte, Nat.reduceEqDiff, Nat.reducePow, Nat.reduceDiv, Nat.reduceMod, mix_get, V.norms, V.norm, tIs, tBs, tPs, *]); first | done | rfl) ?_) | ((first | refine vrun_guard (by (simp only [go_sem, reduceIte, Nat.reduceEqDiff, V.norms, V.norm]); try rfl) (fun hc => ?_) (fun hc => ?_) | refine goR_guard (fun hc => ?_) (fun hc => ?_) | refine x_if (fun hc => ?_) (fun hc => ?_)) <;> (try simp only [hcl, bne, eq_self, not_true, ne_eq, not_false_eq_true, reduceCtorEq] at hc)))
  all_goals exact finV_lit (by (simp only [go_sem, Nat.reduceAdd, Nat.reduceEqDiff, Nat.reduceLT, Nat.reduceLeDiff, Nat.reduceMul, Nat.reduceSub, reduceIte, resV, resAll, resOne, oneOr]); first | done | rfl) rfl
end Go.Proofs.Ytojjdkoglhecbaa
