/- The law of the capo: on values. -/
import Derived.Test.YtbdhjpdjbogggaaDoorX6
namespace Go.Proofs.YtbdhjpdjbogggaaDoor
open Go.RowKit
attribute [local go_sem] vx_skip vx_ret vx_exit vx_seq vx_block vx_scope vx_cond vx_condT vx_condF gR_nil gR_cons VO.stops beq_self_eq_true Bool.false_beq Bool.true_beq Bool.not_true Bool.not_false Bool.false_eq_true if_false exo VI.on if_true exoOp pureSem List.map_cons List.map_nil St.ev initT Option.map_some putT_get putT_none put_obj put_next M0_next freeze_obj freeze_next List.getD_cons_zero List.getD_cons_succ List.getD_nil V.cells rdable Nat.add_assoc Nat.add_zero Nat.add_left_cancel_iff Nat.add_eq_left Nat.left_eq_add decide_true Bool.true_or ite_self onB vbinI vint vbool List.drop_zero List.take_succ_cons List.drop_succ_cons List.take_zero List.length_cons List.length_nil List.getElem?_cons_zero List.getElem?_cons_succ decide_eq_true_eq true_and and_true Nat.le_refl List.zip_cons_cons List.zip_nil_left V.pubs V.pub Option.bind_some List.all_cons List.all_nil V.one Bool.and_self List.cons_append List.nil_append then_nrm then_ret then_exit inB_nrm inB_ret inB_exit Int.toNat_natCast Int.natCast_nonneg eq_self Nat.zero_add Nat.mul_one
set_option linter.unusedSimpArgs false
set_option linter.unusedVariables false

theorem x_on {P : Program} {G : Ground} {base i : Nat} {d : Option Nat} {g : Nat} {w : Bool} {op : VO} {xs : List Opd} {md : Option (List Nat)} {l : List VI} {s : St} {K : St → Prop} (hg : onB (s.t g) w = true)
    (h : vrun P G base i (⟨d, none, op, xs, md⟩ :: l) s K) : vrun P G base i (⟨d, some (g, w), op, xs, md⟩ :: l) s K := by
  rw [vrun, vstep, VI.on] at h ⊢
  simp only [hg, if_true] at h ⊢
  exact h
theorem x_off {P : Program} {G : Ground} {base i : Nat} {d : Option Nat} {g : Nat} {w : Bool} {op : VO} {xs : List Opd} {md : Option (List Nat)} {l : List VI} {s : St} {K : St → Prop} (hg : onB (s.t g) w = false)
    (h : goR P G base (some ⟨putT s.t d vund, s.m⟩) l (i + 1) K) : vrun P G base i (⟨d, some (g, w), op, xs, md⟩ :: l) s K := by
  rw [vrun, vstep, VI.on]
  simp only [hg, Bool.false_eq_true, if_false]
  exact goR_vrun l (i + 1) _ h

theorem capO_length (cs : List Crs) (ss : List Int) (f : Int) : (capO cs ss f).1.length ≤ cs.length ∧ (capO cs ss f).2.1.length ≤ ss.length := by
  unfold capO
  split
  · split
    · simp
    · split
      · simp
      · split
        · simp [capS]
        · simp
  · simp
theorem capos_fn (cs : List Crs) (ss : List Int) (f : Int) : Fn Tryd.prog Gd 11 [tIns cs ss, vint f] (vbool true) := by
  refine Fn.of_vx k_theorbolaw01_InstrumentCapos (by simp) fun m => ?_
  unfold c_theorbolaw01_InstrumentCapos tIns
  repeat (first | with_reducible refine x_ops ?_ | (simp only [go_sem, Nat.reduceAdd, Nat.reduceEqDiff, Nat.reduceLT, Nat.reduceLeDiff, Nat.reduceMul, Nat.reduceSub, reduceIte, splice, vfill]))
  refine x_call none (big_fn cs ss) (by (simp only [go_sem, reduceIte, Nat.reduceEqDiff, V.norms, V.norm]); rfl) ?_
  repeat (first | with_reducible refine x_ops ?_ | (simp only [go_sem, Nat.reduceAdd, Nat.reduceEqDiff, Nat.reduceLT, Nat.reduceLeDiff, Nat.reduceMul, Nat.reduceSub, reduceIte, splice, vfill]))
  refine x_if (fun ht => ?_) (fun ht => ?_)
  · repeat (first | with_reducible refine x_ops ?_ | (simp only [go_sem, Nat.reduceAdd, Nat.reduceEqDiff, Nat.reduceLT, Nat.reduceLeDiff, Nat.reduceMul, Nat.reduceSub, reduceIte, splice, vfill]))
    refine x_call none works_fn (by (simp only [go_sem, reduceIte, Nat.reduceEqDiff, V.norms, V.norm])) ?_
    repeat (first | with_reducible refine x_ops ?_ | (simp only [go_sem, Nat.reduceAdd, Nat.reduceEqDiff, Nat.reduceLT, Nat.reduceLeDiff, Nat.reduceMul, Nat.reduceSub, reduceIte, splice, vfill]))
    refine fin_ret (r' := _) (by (simp only [go_sem, Nat.reduceAdd, Nat.reduceEqDiff, Nat.reduceLT, Nat.reduceLeDiff, Nat.reduceMul, Nat.reduceSub, reduceIte, resV, resAll, resOne, oneOr]); try rfl) (by (simp only [go_sem, Nat.reduceAdd, Nat.reduceEqDiff, Nat.reduceLT, Nat.reduceLeDiff, Nat.reduceMul, Nat.reduceSub, reduceIte, resV, resAll, resOne, oneOr]); try rfl) ?_
    intro q h
    simp only [put_obj, put_next, M0_next, freeze_obj, freeze_next, Nat.add_zero, Nat.zero_add, Nat.add_assoc, Nat.add_left_cancel_iff, Nat.add_eq_left, Nat.left_eq_add, decide_eq_true_eq, List.nil_append, List.append_nil, Nat.reduceAdd, Nat.reduceEqDiff, Nat.reduceLeDiff, Nat.reduceLT, reduceIte]
    repeat rw [if_neg (by omega)]
  · have hsm : cs.length ≤ 64 ∧ ss.length ≤ 64 := by simp at ht; omega
    obtain ⟨hl1, hl2⟩ := capO_length cs ss f
    repeat (first | with_reducible refine x_ops ?_ | (simp only [go_sem, Nat.reduceAdd, Nat.reduceEqDiff, Nat.reduceLT, Nat.reduceLeDiff, Nat.reduceMul, Nat.reduceSub, reduceIte, splice, vfill]))
    refine x_call none (copy_fn cs ss (by omega) (by omega)) (by (simp only [go_sem, reduceIte, Nat.reduceEqDiff, V.norms, V.norm]); rfl) ?_
    repeat (first | with_reducible refine x_ops ?_ | (simp only [go_sem, Nat.reduceAdd, Nat.reduceEqDiff, Nat.reduceLT, Nat.reduceLeDiff, Nat.reduceMul, Nat.reduceSub, reduceIte, splice, vfill]))
    refine x_call none (capo_fn cs ss f) (by (simp only [go_sem, reduceIte, Nat.reduceEqDiff, V.norms, V.norm]); rfl) ?_
    repeat (first | with_reducible refine x_ops ?_ | (simp only [go_sem, Nat.reduceAdd, Nat.reduceEqDiff, Nat.reduceLT, Nat.reduceLeDiff, Nat.reduceMul, Nat.reduceSub, reduceIte, splice, vfill, capV, tIns, tCrs, tInts]))
    refine x_call none (rcapo_fn cs ss f) (by (simp only [go_sem, reduceIte, Nat.reduceEqDiff, V.norms, V.norm]); rfl) ?_
    repeat (first | with_reducible refine x_ops ?_ | (simp only [go_sem, Nat.reduceAdd, Nat.reduceEqDiff, Nat.reduceLT, Nat.reduceLeDiff, Nat.reduceMul, Nat.reduceSub, reduceIte, splice, vfill, capV, tIns, tCrs, tInts]))
    refine x_call none (r := vbool true) (by
      have := rsame_fn (capO cs ss f).1 (capO cs ss f).1 (capO cs ss f).2.1 (capO cs ss f).2.1 (by omega) (by omega)
      simpa using this) (by (simp only [go_sem, reduceIte, Nat.reduceEqDiff, V.norms, V.norm]); rfl) ?_
    repeat (first | with_reducible refine x_ops ?_ | (simp only [go_sem, Nat.reduceAdd, Nat.reduceEqDiff, Nat.reduceLT, Nat.reduceLeDiff, Nat.reduceMul, Nat.reduceSub, reduceIte, splice, vfill, capV, tIns, tCrs, tInts]))
    refine x_on rfl ?_
    refine x_call none works_fn (by (simp only [go_sem, reduceIte, Nat.reduceEqDiff, V.norms, V.norm])) ?_
    repeat (first | with_reducible refine x_ops ?_ | (simp only [go_sem, Nat.reduceAdd, Nat.reduceEqDiff, Nat.reduceLT, Nat.reduceLeDiff, Nat.reduceMul, Nat.reduceSub, reduceIte, splice, vfill]))
    refine fin_ret (r' := _) (by (simp only [go_sem, Nat.reduceAdd, Nat.reduceEqDiff, Nat.reduceLT, Nat.reduceLeDiff, Nat.reduceMul, Nat.reduceSub, reduceIte, resV, resAll, resOne, oneOr]); try rfl) (by (simp only [go_sem, Nat.reduceAdd, Nat.reduceEqDiff, Nat.reduceLT, Nat.reduceLeDiff, Nat.reduceMul, Nat.reduceSub, reduceIte, resV, resAll, resOne, oneOr]); try rfl) ?_
    intro q h
    simp only [put_obj, put_next, M0_next, freeze_obj, freeze_next, Nat.add_zero, Nat.zero_add, Nat.add_assoc, Nat.add_left_cancel_iff, Nat.add_eq_left, Nat.left_eq_add, decide_eq_true_eq, List.nil_append, List.append_nil, Nat.reduceAdd, Nat.reduceEqDiff, Nat.reduceLeDiff, Nat.reduceLT, reduceIte]
    repeat rw [if_neg (by omega)]
end Go.Proofs.YtbdhjpdjbogggaaDoor
