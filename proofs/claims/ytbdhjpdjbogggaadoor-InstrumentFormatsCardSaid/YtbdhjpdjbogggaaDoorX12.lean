/- Contracts on values: what a changed instrument is checked by. Instruments in boxes, as they are read. Contracts on values: the program's Tune. Contracts on values: the reference's Tune. Two capos are one, on lists. A list that is changed from the left. Contracts on values: Transpose of the program and of the reference. Contracts on values: Transpose of the reference. -/
import Derived.Test.YtbdhjpdjbogggaaDoorX2
import Derived.Test.YtbdhjpdjbogggaaDoorP3
import Derived.Test.YtbdhjpdjbogggaaDoorVt
import Derived.Test.YtbdhjpdjbogggaaDoorW12
namespace Go.Proofs.YtbdhjpdjbogggaaDoor
open Go.RowKit
attribute [local go_sem] vx_skip vx_ret vx_exit vx_seq vx_block vx_scope vx_cond vx_condT vx_condF gR_nil gR_cons VO.stops beq_self_eq_true Bool.false_beq Bool.true_beq Bool.not_true Bool.not_false Bool.false_eq_true if_false exo VI.on if_true exoOp pureSem List.map_cons List.map_nil St.ev initT Option.map_some putT_get putT_none put_obj put_next M0_next freeze_obj freeze_next List.getD_cons_zero List.getD_cons_succ List.getD_nil V.cells rdable Nat.add_assoc Nat.add_zero Nat.add_left_cancel_iff Nat.add_eq_left Nat.left_eq_add decide_true Bool.true_or ite_self onB vbinI vint vbool List.drop_zero List.take_succ_cons List.drop_succ_cons List.take_zero List.length_cons List.length_nil List.getElem?_cons_zero List.getElem?_cons_succ decide_eq_true_eq true_and and_true Nat.le_refl List.zip_cons_cons List.zip_nil_left V.pubs V.pub Option.bind_some List.all_cons List.all_nil V.one Bool.and_self List.cons_append List.nil_append then_nrm then_ret then_exit inB_nrm inB_ret inB_exit Int.toNat_natCast Int.natCast_nonneg eq_self Nat.zero_add Nat.mul_one
set_option linter.unusedSimpArgs false
set_option linter.unusedVariables false

theorem pubN {n0 : Nat} {m : Mm} : V.pubM n0 m (.agg [.sl 0 [] .exact, .sl 0 [] .exact]) = some (tIns [] []) := by
  rw [V.pubM, V.pubsM, V.pubM, Option.bind_some, V.pubsM, V.pubM, V.pubsM]; rfl
theorem pubT {n0 : Nat} {m : Mm} {x y : V} {n : Int} (h : x.pubM n0 m = some y) : V.pubM n0 m (.tup [x, vint n]) = some (.tup [y, vint n]) := by
  rw [V.pubM, V.pubsM, h, Option.bind_some, V.pubsM, vint, V.pubM, V.pubsM]; rfl
theorem pubI {n0 : Nat} {m : Mm} (cs : List Crs) (ss : List Int) : V.pubM n0 m (tIns cs ss) = some (tIns cs ss) := by
  rw [tIns, V.pubM, V.pubsM, tCrs, V.pubM, Option.bind_some, V.pubsM, tInts, V.pubM, V.pubsM]; rfl
/-- An instrument, if it is one. -/
def tunV (cs : List Crs) (ss : List Int) : V := if chk cs ss = 0 then .tup [tIns cs ss, vint 0] else .tup [tIns [] [], vint (chk cs ss)]
theorem retuned_fn (cs : List Crs) (ss : List Int) : Fn Tryd.prog Gd 81 [tIns cs ss] (tunV cs ss) := by
  refine Fn.of_vxM k_instrument_retuned (by simp) fun m => ?_
  unfold c_instrument_retuned tIns
  repeat (first | with_reducible refine x_ops ?_ | (simp only [go_sem, Nat.reduceAdd, Nat.reduceEqDiff, Nat.reduceLT, Nat.reduceLeDiff, Nat.reduceMul, Nat.reduceSub, reduceIte, splice, vfill]))
  refine x_call none (check_fn cs ss) (by (simp only [go_sem, reduceIte, Nat.reduceEqDiff, V.norms, V.norm]); rfl) ?_
  repeat (first | with_reducible refine x_ops ?_ | (simp only [go_sem, Nat.reduceAdd, Nat.reduceEqDiff, Nat.reduceLT, Nat.reduceLeDiff, Nat.reduceMul, Nat.reduceSub, reduceIte, splice, vfill]))
  refine x_if (fun ht => ?_) (fun ht => ?_)
  · repeat (first | with_reducible refine x_ops ?_ | (simp only [go_sem, Nat.reduceAdd, Nat.reduceEqDiff, Nat.reduceLT, Nat.reduceLeDiff, Nat.reduceMul, Nat.reduceSub, reduceIte, splice, vfill]))
    have h0 : chk cs ss ≠ 0 := by simpa using ht
    rw [tunV, if_neg h0]
    refine finM_ret (r' := _) (by (simp only [go_sem, Nat.reduceAdd, Nat.reduceEqDiff, Nat.reduceLT, Nat.reduceLeDiff, Nat.reduceMul, Nat.reduceSub, reduceIte, resV, resAll, resOne, oneOr]); try rfl) (pubT pubN) ?_
    intro q hq
    simp only [put_obj, put_next, M0_next, freeze_obj, freeze_next, Nat.add_zero, Nat.zero_add, Nat.add_assoc, Nat.add_left_cancel_iff, Nat.add_eq_left, Nat.left_eq_add, decide_eq_true_eq, List.nil_append, List.append_nil, Nat.reduceAdd, Nat.reduceEqDiff, Nat.reduceLeDiff, Nat.reduceLT, reduceIte]
    repeat rw [if_neg (by omega)]
  · have h0 : chk cs ss = 0 := by simpa using ht
    rw [tunV, if_pos h0]
    repeat (first | with_reducible refine x_ops ?_ | (simp only [go_sem, Nat.reduceAdd, Nat.reduceEqDiff, Nat.reduceLT, Nat.reduceLeDiff, Nat.reduceMul, Nat.reduceSub, reduceIte, splice, vfill, tCrs, tInts]))
    refine finM_ret (r' := _) (by (simp only [go_sem, Nat.reduceAdd, Nat.reduceEqDiff, Nat.reduceLT, Nat.reduceLeDiff, Nat.reduceMul, Nat.reduceSub, reduceIte, resV, resAll, resOne, oneOr]); try rfl) (pubT (pubI cs ss)) ?_
    intro q hq
    simp only [put_obj, put_next, M0_next, freeze_obj, freeze_next, Nat.add_zero, Nat.zero_add, Nat.add_assoc, Nat.add_left_cancel_iff, Nat.add_eq_left, Nat.left_eq_add, decide_eq_true_eq, List.nil_append, List.append_nil, Nat.reduceAdd, Nat.reduceEqDiff, Nat.reduceLeDiff, Nat.reduceLT, reduceIte]
    repeat rw [if_neg (by omega)]
theorem checked_fn (cs : List Crs) (ss : List Int) : Fn Tryd.prog Gd 77 [tIns cs ss] (tunV cs ss) := by
  refine Fn.of_vxM k_theorboref01_checked (by simp) fun m => ?_
  unfold c_theorboref01_checked tIns
  repeat (first | with_reducible refine x_ops ?_ | (simp only [go_sem, Nat.reduceAdd, Nat.reduceEqDiff, Nat.reduceLT, Nat.reduceLeDiff, Nat.reduceMul, Nat.reduceSub, reduceIte, splice, vfill]))
  refine x_call none (rcheck_fn cs ss) (by (simp only [go_sem, reduceIte, Nat.reduceEqDiff, V.norms, V.norm]); rfl) ?_
  repeat (first | with_reducible refine x_ops ?_ | (simp only [go_sem, Nat.reduceAdd, Nat.reduceEqDiff, Nat.reduceLT, Nat.reduceLeDiff, Nat.reduceMul, Nat.reduceSub, reduceIte, splice, vfill]))
  refine x_if (fun ht => ?_) (fun ht => ?_)
  · repeat (first | with_reducible refine x_ops ?_ | (simp only [go_sem, Nat.reduceAdd, Nat.reduceEqDiff, Nat.reduceLT, Nat.reduceLeDiff, Nat.reduceMul, Nat.reduceSub, reduceIte, splice, vfill]))
    have h0 : chk cs ss ≠ 0 := by simpa using ht
    rw [tunV, if_neg h0]
    refine finM_ret (r' := _) (by (simp only [go_sem, Nat.reduceAdd, Nat.reduceEqDiff, Nat.reduceLT, Nat.reduceLeDiff, Nat.reduceMul, Nat.reduceSub, reduceIte, resV, resAll, resOne, oneOr]); try rfl) (pubT pubN) ?_
    intro q hq
    simp only [put_obj, put_next, M0_next, freeze_obj, freeze_next, Nat.add_zero, Nat.zero_add, Nat.add_assoc, Nat.add_left_cancel_iff, Nat.add_eq_left, Nat.left_eq_add, decide_eq_true_eq, List.nil_append, List.append_nil, Nat.reduceAdd, Nat.reduceEqDiff, Nat.reduceLeDiff, Nat.reduceLT, reduceIte]
    repeat rw [if_neg (by omega)]
  · have h0 : chk cs ss = 0 := by simpa using ht
    rw [tunV, if_pos h0]
    repeat (first | with_reducible refine x_ops ?_ | (simp only [go_sem, Nat.reduceAdd, Nat.reduceEqDiff, Nat.reduceLT, Nat.reduceLeDiff, Nat.reduceMul, Nat.reduceSub, reduceIte, splice, vfill, tCrs, tInts]))
    refine finM_ret (r' := _) (by (simp only [go_sem, Nat.reduceAdd, Nat.reduceEqDiff, Nat.reduceLT, Nat.reduceLeDiff, Nat.reduceMul, Nat.reduceSub, reduceIte, resV, resAll, resOne, oneOr]); try rfl) (pubT (pubI cs ss)) ?_
    intro q hq
    simp only [put_obj, put_next, M0_next, freeze_obj, freeze_next, Nat.add_zero, Nat.zero_add, Nat.add_assoc, Nat.add_left_cancel_iff, Nat.add_eq_left, Nat.left_eq_add, decide_eq_true_eq, List.nil_append, List.append_nil, Nat.reduceAdd, Nat.reduceEqDiff, Nat.reduceLeDiff, Nat.reduceLT, reduceIte]
    repeat rw [if_neg (by omega)]
end Go.Proofs.YtbdhjpdjbogggaaDoor
namespace Go.Proofs.YtbdhjpdjbogggaaDoor
open Go.RowKit
attribute [local go_sem] vx_skip vx_ret vx_exit vx_seq vx_block vx_scope vx_cond vx_condT vx_condF gR_nil gR_cons VO.stops beq_self_eq_true Bool.false_beq Bool.true_beq Bool.not_true Bool.not_false Bool.false_eq_true if_false exo VI.on if_true exoOp pureSem List.map_cons List.map_nil St.ev initT Option.map_some putT_get putT_none put_obj put_next M0_next freeze_obj freeze_next List.getD_cons_zero List.getD_cons_succ List.getD_nil V.cells rdable Nat.add_assoc Nat.add_zero Nat.add_left_cancel_iff Nat.add_eq_left Nat.left_eq_add decide_true Bool.true_or ite_self onB vbinI vint vbool List.drop_zero List.take_succ_cons List.drop_succ_cons List.take_zero List.length_cons List.length_nil List.getElem?_cons_zero List.getElem?_cons_succ decide_eq_true_eq true_and and_true Nat.le_refl List.zip_cons_cons List.zip_nil_left V.pubs V.pub Option.bind_some List.all_cons List.all_nil V.one Bool.and_self List.cons_append List.nil_append then_nrm then_ret then_exit inB_nrm inB_ret inB_exit Int.toNat_natCast Int.natCast_nonneg eq_self Nat.zero_add Nat.mul_one
set_option linter.unusedSimpArgs false
set_option linter.unusedVariables false

section
variable {m : Mm} {S : Nat → Bool}
theorem vws_lits (l : List Value) : Vws m S (lits l) (lits l) :=
  Vws.of_pure (fun v hv => by
    simp only [lits, List.mem_map] at hv
    obtain ⟨u, _, rfl⟩ := hv
    exact .lit u) rfl
theorem vw_tInts (ss : List Int) : Vw m S (tInts ss) (tInts ss) := .sl _ _ _
theorem vw_tCrs (cs : List Crs) : Vw m S (tCrs cs) (tCrs cs) := .sl _ _ _
theorem vw_tIns (cs : List Crs) (ss : List Int) : Vw m S (tIns cs ss) (tIns cs ss) := .agg (.cons (vw_tCrs cs) (.cons (vw_tInts ss) .nil))
theorem vw_none : Vw m S (.agg [.sl 0 [] .exact, .sl 0 [] .exact]) (tIns [] []) := .agg (.cons (.sl _ _ _) (.cons (.sl _ _ _) .nil))
theorem vw_pair {x y : V} {n : Int} (h : Vw m S x y) : Vw m S (.tup [x, vint n]) (.tup [y, vint n]) := .tup (.cons h (.cons (.lit _) .nil))
theorem vw_bv {i n : Nat} {us : List V} {t : TypeId} (hs : S i = true) (h0 : n = 0 → us = []) (ho : n ≠ 0 → m.obj i = some (.box us t)) (hv : Vws m S us us) (h1 : us.all V.one = true) : Vw m S (bv i n) (.sl n us .no) := by
  unfold bv
  split
  · rename_i h; rw [h0 h, h]; exact .sl _ _ _
  · rename_i h
    have := Vw.bsl (off := 0) (n := n) (cap := n) hs (ho h) hv h1
    rwa [List.drop_zero] at this
theorem vw_crs {i n : Nat} {cs : List Crs} (hs : S i = true) (hn : cs.length = n) (ho : n ≠ 0 → m.obj i = some (.box (lits (cells3 cs)) 59)) : Vw m S (bv i n) (tCrs cs) := by
  subst hn
  exact vw_bv hs crs_nil ho (vws_lits _) (clean_iff.1 (clean_crs cs) |>.2 |> fun h => List.all_eq_true.2 h)
theorem vw_ints {i n : Nat} {ss : List Int} (hs : S i = true) (hn : ss.length = n) (ho : n ≠ 0 → m.obj i = some (.box (lits (ss.map (Value.int .i64))) 3)) : Vw m S (bv i n) (tInts ss) := by
  subst hn
  exact vw_bv hs ints_nil ho (vws_lits _) (clean_iff.1 (clean_ints ss) |>.2 |> fun h => List.all_eq_true.2 h)
theorem vw_ins {i j n k : Nat} {cs : List Crs} {ss : List Int} (hi : S i = true) (hj : S j = true) (hn : cs.length = n) (hk : ss.length = k) (h1 : n ≠ 0 → m.obj i = some (.box (lits (cells3 cs)) 59)) (h2 : k ≠ 0 → m.obj j = some (.box (lits (ss.map (Value.int .i64))) 3)) :
    Vws m S [.agg [bv i n, bv j k]] [tIns cs ss] := .cons (.agg (.cons (vw_crs hi hn h1) (.cons (vw_ints hj hk h2) .nil))) .nil
end
theorem pures_tIns (cs : List Crs) (ss : List Int) : V.pure (tIns cs ss) = true := by
  rw [tIns, V.pure, V.pures, V.pures, V.pures, tCrs, tInts, V.pure, V.pure] <;> first | rfl | (intro t h; cases h)
theorem pures1 {v : V} (h : v.pure = true) : V.pures [v] = true := by rw [V.pures, V.pures, h]; rfl
theorem pures_cons {v : V} {l : List V} (h : v.pure = true) (hl : V.pures l = true) : V.pures (v :: l) = true := by rw [V.pures, h, hl]; rfl
theorem pure_vint (n : Int) : V.pure (vint n) = true := by rw [vint, V.pure]
/-- Slices of the call's own boxes. -/
def from7 (k : Nat) : Nat → Bool := fun q => decide (k ≤ q)
theorem cellNe {ss : List Int} (h : ss.length ≠ 0) : ss ≠ [] := fun e => h (by rw [e]; rfl)
end Go.Proofs.YtbdhjpdjbogggaaDoor
namespace Go.Proofs.YtbdhjpdjbogggaaDoor
open Go.RowKit
attribute [local go_sem] vx_skip vx_ret vx_exit vx_seq vx_block vx_scope vx_cond vx_condT vx_condF gR_nil gR_cons VO.stops beq_self_eq_true Bool.false_beq Bool.true_beq Bool.not_true Bool.not_false Bool.false_eq_true if_false exo VI.on if_true exoOp pureSem List.map_cons List.map_nil St.ev initT Option.map_some putT_get putT_none put_obj put_next M0_next freeze_obj freeze_next List.getD_cons_zero List.getD_cons_succ List.getD_nil V.cells rdable Nat.add_assoc Nat.add_zero Nat.add_left_cancel_iff Nat.add_eq_left Nat.left_eq_add decide_true Bool.true_or ite_self onB vbinI vint vbool List.drop_zero List.take_succ_cons List.drop_succ_cons List.take_zero List.length_cons List.length_nil List.getElem?_cons_zero List.getElem?_cons_succ decide_eq_true_eq true_and and_true Nat.le_refl List.zip_cons_cons List.zip_nil_left V.pubs V.pub Option.bind_some List.all_cons List.all_nil V.one Bool.and_self List.cons_append List.nil_append then_nrm then_ret then_exit inB_nrm inB_ret inB_exit Int.toNat_natCast Int.natCast_nonneg eq_self Nat.zero_add Nat.mul_one
set_option linter.unusedSimpArgs false
set_option linter.unusedVariables false

def tuned (cs : List Crs) (k : Nat) (b : Int) : List Crs := cs.set k ⟨IntKind.i64.wrap ((cs.getD k default).p + b), (cs.getD k default).f, (cs.getD k default).o⟩
def tuneV (cs : List Crs) (ss : List Int) (co b : Int) : V :=
  if chk cs ss = 0 then
    if co < 1 ∨ (cs.length : Int) < co then .tup [tIns [] [], vint 12]
    else if b < -127 ∨ 127 < b then .tup [tIns [] [], vint 1]
    else tunV (tuned cs (co.toNat - 1) b) ss
  else .tup [tIns [] [], vint (chk cs ss)]
theorem pubTun {n0 : Nat} {m : Mm} (cs : List Crs) (ss : List Int) : V.pubM n0 m (tunV cs ss) = some (tunV cs ss) := by
  unfold tunV
  split
  · exact pubT (pubI cs ss)
  · exact pubT (pubI [] [])
/-- The instrument and the error of what retuned gives. -/
theorem tunV_is (cs : List Crs) (ss : List Int) : ∃ c s e, tunV cs ss = .tup [tIns c s, vint e] := by
  unfold tunV
  split
  · exact ⟨_, _, _, rfl⟩
  · exact ⟨_, _, _, rfl⟩
theorem retuned_box {T : List Crs} {ss : List Int} {i j n : Nat} {mm : Mm} (hn : T.length = n) (hi : mm.obj i = some (.box (lits (cells3 T)) 59)) (hj : ss ≠ [] → mm.obj j = some (.box (lits (ss.map (Value.int .i64))) 3)) :
    SFn Tryd.prog Gd 81 [.agg [.bsl i 0 n n, (bv j ss.length).norm]] mm fun r' m' => r' = tunV T ss ∧ ∀ q, q ≠ i → q ≠ j → m'.obj q = mm.obj q := by
  subst hn
  refine (Fn.freeze (retuned_fn T ss) (fun q => decide (q = i) || (decide (q = j) && decide (ss ≠ []))) ?_ ?_).mono ?_
  · intro q hq
    simp at hq
    rcases hq with rfl | ⟨rfl, h⟩
    · exact ⟨_, _, hi, clean_crs _⟩
    · exact ⟨_, _, hj h, clean_ints _⟩
  · have hb : V.viewS (fun q => decide (q = i) || (decide (q = j) && decide (ss ≠ []))) mm (bv j ss.length).norm = some (tInts ss) := by
      have hbn : (bv j ss.length).norm = if ss.length = 0 then .sl 0 [] .no else .bsl j 0 ss.length ss.length := by unfold bv; split <;> simp [V.norm]
      rw [hbn]
      by_cases h : ss = []
      · subst h; rw [if_pos (by rfl), V.viewS]; rfl
      · rw [if_neg (fun e => h (List.eq_nil_of_length_eq_zero e)), V.viewS, hj h]
        simp [clean_ints, h, tInts]
    have ha : V.viewS (fun q => decide (q = i) || (decide (q = j) && decide (ss ≠ []))) mm (.bsl i 0 T.length T.length) = some (tCrs T) := by
      rw [V.viewS, hi]
      simp [clean_crs, tCrs]
    have hc : V.viewsS (fun q => decide (q = i) || (decide (q = j) && decide (ss ≠ []))) mm [.bsl i 0 T.length T.length, (bv j ss.length).norm] = some [tCrs T, tInts ss] := by
      rw [V.viewsS, ha, Option.bind_some, V.viewsS, hb, Option.bind_some, V.viewsS]; rfl
    rw [V.viewsS, V.viewS, hc, V.viewsS]
    rfl
  · rintro r' m' ⟨rfl, rfl⟩
    exact ⟨rfl, fun q h1 h2 => if_neg (by simp [h1, h2])⟩
theorem tune_fn (cs : List Crs) (ss : List Int) (co b : Int) : Fn Tryd.prog Gd 45 [tIns cs ss, vint co, vint b] (tuneV cs ss co b) := by
  refine Fn.of_vxM k_instrument_Tune (by simp) fun m => ?_
  unfold c_instrument_Tune tIns
  repeat (first | with_reducible refine x_ops ?_ | (simp only [go_sem, Nat.reduceAdd, Nat.reduceEqDiff, Nat.reduceLT, Nat.reduceLeDiff, Nat.reduceMul, Nat.reduceSub, reduceIte, splice, vfill]))
  refine x_call none (check_fn cs ss) (by (simp only [go_sem, reduceIte, Nat.reduceEqDiff, V.norms, V.norm]); rfl) ?_
  repeat (first | with_reducible refine x_ops ?_ | (simp only [go_sem, Nat.reduceAdd, Nat.reduceEqDiff, Nat.reduceLT, Nat.reduceLeDiff, Nat.reduceMul, Nat.reduceSub, reduceIte, splice, vfill]))
  refine x_if (fun ht => ?_) (fun ht => ?_)
  · repeat (first | with_reducible refine x_ops ?_ | (simp only [go_sem, Nat.reduceAdd, Nat.reduceEqDiff, Nat.reduceLT, Nat.reduceLeDiff, Nat.reduceMul, Nat.reduceSub, reduceIte, splice, vfill]))
    have h0 : chk cs ss ≠ 0 := by simpa using ht
    rw [tuneV, if_neg h0]
    refine finM_ret (r' := _) (by (simp only [go_sem, Nat.reduceAdd, Nat.reduceEqDiff, Nat.reduceLT, Nat.reduceLeDiff, Nat.reduceMul, Nat.reduceSub, reduceIte, resV, resAll, resOne, oneOr]); try rfl) (pubT pubN) ?_
    intro q h
    simp only [put_obj, put_next, M0_next, freeze_obj, freeze_next, Nat.add_zero, Nat.zero_add, Nat.add_assoc, Nat.add_left_cancel_iff, Nat.add_eq_left, Nat.left_eq_add, decide_eq_true_eq, List.nil_append, List.append_nil, Nat.reduceAdd, Nat.reduceEqDiff, Nat.reduceLeDiff, Nat.reduceLT, reduceIte]
    repeat rw [if_neg (by omega)]
  · have h0 : chk cs ss = 0 := by simpa using ht
    rw [tuneV, if_pos h0]
    have hsm := chk_small h0
    by_cases h1 : co < 1
    · rw [if_pos (.inl h1)]
      have d0 : decide (co < 1) = true := by simpa using h1
      repeat (first | with_reducible refine x_ops ?_ | (simp only [go_sem, Nat.reduceAdd, Nat.reduceEqDiff, Nat.reduceLT, Nat.reduceLeDiff, Nat.reduceMul, Nat.reduceSub, reduceIte, splice, vfill, d0, tCrs, tInts]))
      refine finM_ret (r' := _) (by (simp only [go_sem, Nat.reduceAdd, Nat.reduceEqDiff, Nat.reduceLT, Nat.reduceLeDiff, Nat.reduceMul, Nat.reduceSub, reduceIte, resV, resAll, resOne, oneOr]); try rfl) (pubT pubN) ?_
      intro q h
      simp only [put_obj, put_next, M0_next, freeze_obj, freeze_next, Nat.add_zero, Nat.zero_add, Nat.add_assoc, Nat.add_left_cancel_iff, Nat.add_eq_left, Nat.left_eq_add, decide_eq_true_eq, List.nil_append, List.append_nil, Nat.reduceAdd, Nat.reduceEqDiff, Nat.reduceLeDiff, Nat.reduceLT, reduceIte]
      repeat rw [if_neg (by omega)]
    have d0 : decide (co < 1) = false := by simpa using h1
    by_cases h2 : co > (cs.length : Int)
    · rw [if_pos (.inr h2)]
      have d1 : decide (co > (cs.length : Int)) = true := by simpa using h2
      repeat (first | with_reducible refine x_ops ?_ | (simp only [go_sem, Nat.reduceAdd, Nat.reduceEqDiff, Nat.reduceLT, Nat.reduceLeDiff, Nat.reduceMul, Nat.reduceSub, reduceIte, splice, vfill, d0, d1, tCrs, tInts]))
      refine finM_ret (r' := _) (by (simp only [go_sem, Nat.reduceAdd, Nat.reduceEqDiff, Nat.reduceLT, Nat.reduceLeDiff, Nat.reduceMul, Nat.reduceSub, reduceIte, resV, resAll, resOne, oneOr]); try rfl) (pubT pubN) ?_
      intro q h
      simp only [put_obj, put_next, M0_next, freeze_obj, freeze_next, Nat.add_zero, Nat.zero_add, Nat.add_assoc, Nat.add_left_cancel_iff, Nat.add_eq_left, Nat.left_eq_add, decide_eq_true_eq, List.nil_append, List.append_nil, Nat.reduceAdd, Nat.reduceEqDiff, Nat.reduceLeDiff, Nat.reduceLT, reduceIte]
      repeat rw [if_neg (by omega)]
    have d1 : decide (co > (cs.length : Int)) = false := by simpa using h2
    rw [if_neg (by omega)]
    by_cases h3 : b < -127
    · rw [if_pos (.inl h3)]
      have d2 : decide (b < -127) = true := by simpa using h3
      repeat (first | with_reducible refine x_ops ?_ | (simp only [go_sem, Nat.reduceAdd, Nat.reduceEqDiff, Nat.reduceLT, Nat.reduceLeDiff, Nat.reduceMul, Nat.reduceSub, reduceIte, splice, vfill, d0, d1, d2, tCrs, tInts]))
      refine finM_ret (r' := _) (by (simp only [go_sem, Nat.reduceAdd, Nat.reduceEqDiff, Nat.reduceLT, Nat.reduceLeDiff, Nat.reduceMul, Nat.reduceSub, reduceIte, resV, resAll, resOne, oneOr]); try rfl) (pubT pubN) ?_
      intro q h
      simp only [put_obj, put_next, M0_next, freeze_obj, freeze_next, Nat.add_zero, Nat.zero_add, Nat.add_assoc, Nat.add_left_cancel_iff, Nat.add_eq_left, Nat.left_eq_add, decide_eq_true_eq, List.nil_append, List.append_nil, Nat.reduceAdd, Nat.reduceEqDiff, Nat.reduceLeDiff, Nat.reduceLT, reduceIte]
      repeat rw [if_neg (by omega)]
    have d2 : decide (b < -127) = false := by simpa using h3
    by_cases h4 : b > 127
    · rw [if_pos (.inr h4)]
      have d3 : decide (b > 127) = true := by simpa using h4
      repeat (first | with_reducible refine x_ops ?_ | (simp only [go_sem, Nat.reduceAdd, Nat.reduceEqDiff, Nat.reduceLT, Nat.reduceLeDiff, Nat.reduceMul, Nat.reduceSub, reduceIte, splice, vfill, d0, d1, d2, d3, tCrs, tInts]))
      refine finM_ret (r' := _) (by (simp only [go_sem, Nat.reduceAdd, Nat.reduceEqDiff, Nat.reduceLT, Nat.reduceLeDiff, Nat.reduceMul, Nat.reduceSub, reduceIte, resV, resAll, resOne, oneOr]); try rfl) (pubT pubN) ?_
      intro q h
      simp only [put_obj, put_next, M0_next, freeze_obj, freeze_next, Nat.add_zero, Nat.zero_add, Nat.add_assoc, Nat.add_left_cancel_iff, Nat.add_eq_left, Nat.left_eq_add, decide_eq_true_eq, List.nil_append, List.append_nil, Nat.reduceAdd, Nat.reduceEqDiff, Nat.reduceLeDiff, Nat.reduceLT, reduceIte]
      repeat rw [if_neg (by omega)]
    have d3 : decide (b > 127) = false := by simpa using h4
    rw [if_neg (by omega)]
    repeat (first | with_reducible refine x_ops ?_ | (simp only [go_sem, Nat.reduceAdd, Nat.reduceEqDiff, Nat.reduceLT, Nat.reduceLeDiff, Nat.reduceMul, Nat.reduceSub, reduceIte, splice, vfill, d0, d1, d2, d3, tCrs, tInts]))
    refine x_scall (clone_sfn cs ss (by omega) (by omega) _) (by (simp only [go_sem, reduceIte, Nat.reduceEqDiff, V.norms, V.norm]); rfl) (CopyP.ex _ _ _) ?_
    rintro r m2 ⟨i, j, hi, hj, hij, hi2, hj2, rfl, ho1, ho2, hk⟩
    have hC : m2.obj (m.next + 1) = some (.box [.sl 0 [] .exact, .sl 0 [] .exact] 39) := by
      rw [hk _ (by show m.next + 1 < m.next + 3 + 4; omega)]; simp only [put_obj, put_next, M0_next, freeze_obj, freeze_next, Nat.add_zero, Nat.zero_add, Nat.add_assoc, Nat.add_left_cancel_iff, Nat.add_eq_left, Nat.left_eq_add, decide_eq_true_eq, List.nil_append, List.append_nil, Nat.reduceAdd, Nat.reduceEqDiff, Nat.reduceLeDiff, Nat.reduceLT, reduceIte]
    have hq : ∀ q, q < m.next → m2.obj q = m.obj q := fun q hq => by
      rw [hk _ (by show q < m.next + 3 + 4; omega)]
      simp only [put_obj, put_next, M0_next, freeze_obj, freeze_next, Nat.add_zero, Nat.zero_add, Nat.add_assoc, Nat.add_left_cancel_iff, Nat.add_eq_left, Nat.left_eq_add, decide_eq_true_eq, List.nil_append, List.append_nil, Nat.reduceAdd, Nat.reduceEqDiff, Nat.reduceLeDiff, Nat.reduceLT, reduceIte]
      repeat rw [if_neg (by omega)]
    have hi' : m.next + 7 ≤ i := hi
    have hj' : m.next + 7 ≤ j := hj
    clear hk hi hj
    have hk : co.toNat - 1 < cs.length := by omega
    have ho1 := ho1 (by rintro rfl; simp at hk)
    have hlti : ((co.toNat - 1 : Nat) : Int) < cs.length := by omega
    have hw : IntKind.i64.wrap (co - 1) = ((co.toNat - 1 : Nat) : Int) := by rw [IntWalk.i64_in _ (by omega)]; omega
    have hbv : bv i cs.length = .bsl i 0 cs.length cs.length := if_neg (by omega)
    have gp := crs_p hk
    have lC := crs_len cs
    have hs := splice_p hk (IntKind.i64.wrap ((cs.getD (co.toNat - 1) default).p + b))
    have n1 : ¬ (i = m.next + 5) := by omega
    have n2 : ¬ (m.next + 5 = i) := by omega
    have b2 : (co.toNat - 1) * 3 + 1 ≤ cs.length * 3 := by omega
    have HT : lits (cells3 (cs.set (co.toNat - 1) ⟨IntKind.i64.wrap ((cs.getD (co.toNat - 1) default).p + b), (cs.getD (co.toNat - 1) default).f, (cs.getD (co.toNat - 1) default).o⟩)) = lits (cells3 (tuned cs (co.toNat - 1) b)) := rfl
    rw [HT] at hs
    simp only [vint] at gp hs
    repeat (first | with_reducible refine x_ops ?_ | (simp only [go_sem, Nat.reduceAdd, Nat.reduceEqDiff, Nat.reduceLT, Nat.reduceLeDiff, Nat.reduceMul, Nat.reduceSub, reduceIte, splice, vfill, hC, tCrs, tInts]))
    refine goR_ifm (by unfold bv; by_cases e1 : cs.length = 0 <;> by_cases e2 : ss.length = 0 <;> simp [e1, e2]) ?_
    repeat (first | with_reducible refine x_ops ?_ | (simp only [go_sem, Nat.reduceAdd, Nat.reduceEqDiff, Nat.reduceLT, Nat.reduceLeDiff, Nat.reduceMul, Nat.reduceSub, reduceIte, hC, hw, hbv, hlti, lC, gp, n1, n2, ho1, hs, b2]))
    have oI : ∀ mm : Mm, (mm.put i (.box (lits (cells3 (tuned cs (co.toNat - 1) b))) 59)).obj i = some (.box (lits (cells3 (tuned cs (co.toNat - 1) b))) 59) := fun _ => if_pos rfl
    refine x_scall (retuned_box (T := tuned cs (co.toNat - 1) b) (ss := ss) (i := i) (j := j) (n := cs.length) (List.length_set ..) (if_pos rfl) (fun h => ?_)) (by (simp only [go_sem, reduceIte, Nat.reduceEqDiff, V.norms, V.norm])) ⟨_, _, rfl, fun _ _ _ => rfl⟩ ?_
    · simp only [put_obj, put_next, M0_next, freeze_obj, freeze_next, Nat.add_zero, Nat.zero_add, Nat.add_assoc, Nat.add_left_cancel_iff, Nat.add_eq_left, Nat.left_eq_add, decide_eq_true_eq, List.nil_append, List.append_nil, Nat.reduceAdd, Nat.reduceEqDiff, Nat.reduceLeDiff, Nat.reduceLT, reduceIte]
      repeat rw [if_neg (by omega)]
      exact ho2 h
    rintro r m3 ⟨rfl, ho3⟩
    obtain ⟨c, s, e, hT⟩ := tunV_is (tuned cs (co.toNat - 1) b) ss
    rw [hT]
    have hC3 : m3.obj (m.next + 1) = some (.box [.sl 0 [] .exact, .sl 0 [] .exact] 39) := by
      rw [ho3 _ (by omega) (by omega)]
      simp only [put_obj, put_next, M0_next, freeze_obj, freeze_next, Nat.add_zero, Nat.zero_add, Nat.add_assoc, Nat.add_left_cancel_iff, Nat.add_eq_left, Nat.left_eq_add, decide_eq_true_eq, List.nil_append, List.append_nil, Nat.reduceAdd, Nat.reduceEqDiff, Nat.reduceLeDiff, Nat.reduceLT, reduceIte]
      repeat rw [if_neg (by omega)]
      exact hC
    repeat (first | with_reducible refine x_ops ?_ | (simp only [go_sem, Nat.reduceAdd, Nat.reduceEqDiff, Nat.reduceLT, Nat.reduceLeDiff, Nat.reduceMul, Nat.reduceSub, reduceIte, splice, vfill, hC3, tIns, tCrs, tInts]))
    refine finM_ret (r' := _) (by (simp only [go_sem, Nat.reduceAdd, Nat.reduceEqDiff, Nat.reduceLT, Nat.reduceLeDiff, Nat.reduceMul, Nat.reduceSub, reduceIte, resV, resAll, resOne, oneOr]); try rfl) (pubT (pubI c s)) ?_
    intro q h
    simp only [put_obj, put_next, M0_next, freeze_obj, freeze_next, Nat.add_zero, Nat.zero_add, Nat.add_assoc, Nat.add_left_cancel_iff, Nat.add_eq_left, Nat.left_eq_add, decide_eq_true_eq, List.nil_append, List.append_nil, Nat.reduceAdd, Nat.reduceEqDiff, Nat.reduceLeDiff, Nat.reduceLT, reduceIte]
    repeat rw [if_neg (by omega)]
    rw [ho3 q (by omega) (by omega)]
    simp only [put_obj, put_next, M0_next, freeze_obj, freeze_next, Nat.add_zero, Nat.zero_add, Nat.add_assoc, Nat.add_left_cancel_iff, Nat.add_eq_left, Nat.left_eq_add, decide_eq_true_eq, List.nil_append, List.append_nil, Nat.reduceAdd, Nat.reduceEqDiff, Nat.reduceLeDiff, Nat.reduceLT, reduceIte]
    repeat rw [if_neg (by omega)]
    exact hq q h
end Go.Proofs.YtbdhjpdjbogggaaDoor
namespace Go.Proofs.YtbdhjpdjbogggaaDoor
open Go.RowKit
attribute [local go_sem] vx_skip vx_ret vx_exit vx_seq vx_block vx_scope vx_cond vx_condT vx_condF gR_nil gR_cons VO.stops beq_self_eq_true Bool.false_beq Bool.true_beq Bool.not_true Bool.not_false Bool.false_eq_true if_false exo VI.on if_true exoOp pureSem List.map_cons List.map_nil St.ev initT Option.map_some putT_get putT_none put_obj put_next M0_next freeze_obj freeze_next List.getD_cons_zero List.getD_cons_succ List.getD_nil V.cells rdable Nat.add_assoc Nat.add_zero Nat.add_left_cancel_iff Nat.add_eq_left Nat.left_eq_add decide_true Bool.true_or ite_self onB vbinI vint vbool List.drop_zero List.take_succ_cons List.drop_succ_cons List.take_zero List.length_cons List.length_nil List.getElem?_cons_zero List.getElem?_cons_succ decide_eq_true_eq true_and and_true Nat.le_refl List.zip_cons_cons List.zip_nil_left V.pubs V.pub Option.bind_some List.all_cons List.all_nil V.one Bool.and_self List.cons_append List.nil_append then_nrm then_ret then_exit inB_nrm inB_ret inB_exit Int.toNat_natCast Int.natCast_nonneg eq_self Nat.zero_add Nat.mul_one
set_option linter.unusedSimpArgs false
set_option linter.unusedVariables false

theorem checked_box {T : List Crs} {ss : List Int} {i j n : Nat} {mm : Mm} (hn : T.length = n) (hi : mm.obj i = some (.box (lits (cells3 T)) 59)) (hj : ss ≠ [] → mm.obj j = some (.box (lits (ss.map (Value.int .i64))) 3)) :
    SFn Tryd.prog Gd 77 [.agg [.bsl i 0 n n, (bv j ss.length).norm]] mm fun r' m' => r' = tunV T ss ∧ ∀ q, q ≠ i → q ≠ j → m'.obj q = mm.obj q := by
  subst hn
  refine (Fn.freeze (checked_fn T ss) (fun q => decide (q = i) || (decide (q = j) && decide (ss ≠ []))) ?_ ?_).mono ?_
  · intro q hq
    simp at hq
    rcases hq with rfl | ⟨rfl, h⟩
    · exact ⟨_, _, hi, clean_crs _⟩
    · exact ⟨_, _, hj h, clean_ints _⟩
  · have hb : V.viewS (fun q => decide (q = i) || (decide (q = j) && decide (ss ≠ []))) mm (bv j ss.length).norm = some (tInts ss) := by
      have hbn : (bv j ss.length).norm = if ss.length = 0 then .sl 0 [] .no else .bsl j 0 ss.length ss.length := by unfold bv; split <;> simp [V.norm]
      rw [hbn]
      by_cases h : ss = []
      · subst h; rw [if_pos (by rfl), V.viewS]; rfl
      · rw [if_neg (fun e => h (List.eq_nil_of_length_eq_zero e)), V.viewS, hj h]
        simp [clean_ints, h, tInts]
    have ha : V.viewS (fun q => decide (q = i) || (decide (q = j) && decide (ss ≠ []))) mm (.bsl i 0 T.length T.length) = some (tCrs T) := by
      rw [V.viewS, hi]
      simp [clean_crs, tCrs]
    have hc : V.viewsS (fun q => decide (q = i) || (decide (q = j) && decide (ss ≠ []))) mm [.bsl i 0 T.length T.length, (bv j ss.length).norm] = some [tCrs T, tInts ss] := by
      rw [V.viewsS, ha, Option.bind_some, V.viewsS, hb, Option.bind_some, V.viewsS]; rfl
    rw [V.viewsS, V.viewS, hc, V.viewsS]
    rfl
  · rintro r' m' ⟨rfl, rfl⟩
    exact ⟨rfl, fun q h1 h2 => if_neg (by simp [h1, h2])⟩
theorem rtune_fn (cs : List Crs) (ss : List Int) (co b : Int) : Fn Tryd.prog Gd 46 [tIns cs ss, vint co, vint b] (tuneV cs ss co b) := by
  refine Fn.of_vxM k_theorboref01_Tune (by simp) fun m => ?_
  unfold c_theorboref01_Tune tIns
  repeat (first | with_reducible refine x_ops ?_ | (simp only [go_sem, Nat.reduceAdd, Nat.reduceEqDiff, Nat.reduceLT, Nat.reduceLeDiff, Nat.reduceMul, Nat.reduceSub, reduceIte, splice, vfill]))
  refine x_call none (rcheck_fn cs ss) (by (simp only [go_sem, reduceIte, Nat.reduceEqDiff, V.norms, V.norm]); rfl) ?_
  repeat (first | with_reducible refine x_ops ?_ | (simp only [go_sem, Nat.reduceAdd, Nat.reduceEqDiff, Nat.reduceLT, Nat.reduceLeDiff, Nat.reduceMul, Nat.reduceSub, reduceIte, splice, vfill]))
  refine x_if (fun ht => ?_) (fun ht => ?_)
  · repeat (first | with_reducible refine x_ops ?_ | (simp only [go_sem, Nat.reduceAdd, Nat.reduceEqDiff, Nat.reduceLT, Nat.reduceLeDiff, Nat.reduceMul, Nat.reduceSub, reduceIte, splice, vfill]))
    have h0 : chk cs ss ≠ 0 := by simpa using ht
    rw [tuneV, if_neg h0]
    refine finM_ret (r' := _) (by (simp only [go_sem, Nat.reduceAdd, Nat.reduceEqDiff, Nat.reduceLT, Nat.reduceLeDiff, Nat.reduceMul, Nat.reduceSub, reduceIte, resV, resAll, resOne, oneOr]); try rfl) (pubT pubN) ?_
    intro q h
    simp only [put_obj, put_next, M0_next, freeze_obj, freeze_next, Nat.add_zero, Nat.zero_add, Nat.add_assoc, Nat.add_left_cancel_iff, Nat.add_eq_left, Nat.left_eq_add, decide_eq_true_eq, List.nil_append, List.append_nil, Nat.reduceAdd, Nat.reduceEqDiff, Nat.reduceLeDiff, Nat.reduceLT, reduceIte]
    repeat rw [if_neg (by omega)]
  · have h0 : chk cs ss = 0 := by simpa using ht
    rw [tuneV, if_pos h0]
    have hsm := chk_small h0
    by_cases h1 : co < 1
    · rw [if_pos (.inl h1)]
      have d0 : decide (co < 1) = true := by simpa using h1
      repeat (first | with_reducible refine x_ops ?_ | (simp only [go_sem, Nat.reduceAdd, Nat.reduceEqDiff, Nat.reduceLT, Nat.reduceLeDiff, Nat.reduceMul, Nat.reduceSub, reduceIte, splice, vfill, d0, tCrs, tInts]))
      refine finM_ret (r' := _) (by (simp only [go_sem, Nat.reduceAdd, Nat.reduceEqDiff, Nat.reduceLT, Nat.reduceLeDiff, Nat.reduceMul, Nat.reduceSub, reduceIte, resV, resAll, resOne, oneOr]); try rfl) (pubT pubN) ?_
      intro q h
      simp only [put_obj, put_next, M0_next, freeze_obj, freeze_next, Nat.add_zero, Nat.zero_add, Nat.add_assoc, Nat.add_left_cancel_iff, Nat.add_eq_left, Nat.left_eq_add, decide_eq_true_eq, List.nil_append, List.append_nil, Nat.reduceAdd, Nat.reduceEqDiff, Nat.reduceLeDiff, Nat.reduceLT, reduceIte]
      repeat rw [if_neg (by omega)]
    have d0 : decide (co < 1) = false := by simpa using h1
    by_cases h2 : co > (cs.length : Int)
    · rw [if_pos (.inr h2)]
      have d1 : decide (co > (cs.length : Int)) = true := by simpa using h2
      repeat (first | with_reducible refine x_ops ?_ | (simp only [go_sem, Nat.reduceAdd, Nat.reduceEqDiff, Nat.reduceLT, Nat.reduceLeDiff, Nat.reduceMul, Nat.reduceSub, reduceIte, splice, vfill, d0, d1, tCrs, tInts]))
      refine finM_ret (r' := _) (by (simp only [go_sem, Nat.reduceAdd, Nat.reduceEqDiff, Nat.reduceLT, Nat.reduceLeDiff, Nat.reduceMul, Nat.reduceSub, reduceIte, resV, resAll, resOne, oneOr]); try rfl) (pubT pubN) ?_
      intro q h
      simp only [put_obj, put_next, M0_next, freeze_obj, freeze_next, Nat.add_zero, Nat.zero_add, Nat.add_assoc, Nat.add_left_cancel_iff, Nat.add_eq_left, Nat.left_eq_add, decide_eq_true_eq, List.nil_append, List.append_nil, Nat.reduceAdd, Nat.reduceEqDiff, Nat.reduceLeDiff, Nat.reduceLT, reduceIte]
      repeat rw [if_neg (by omega)]
    have d1 : decide (co > (cs.length : Int)) = false := by simpa using h2
    rw [if_neg (by omega)]
    by_cases h3 : b < -127
    · rw [if_pos (.inl h3)]
      have d2 : decide (b < -127) = true := by simpa using h3
      repeat (first | with_reducible refine x_ops ?_ | (simp only [go_sem, Nat.reduceAdd, Nat.reduceEqDiff, Nat.reduceLT, Nat.reduceLeDiff, Nat.reduceMul, Nat.reduceSub, reduceIte, splice, vfill, d0, d1, d2, tCrs, tInts]))
      refine finM_ret (r' := _) (by (simp only [go_sem, Nat.reduceAdd, Nat.reduceEqDiff, Nat.reduceLT, Nat.reduceLeDiff, Nat.reduceMul, Nat.reduceSub, reduceIte, resV, resAll, resOne, oneOr]); try rfl) (pubT pubN) ?_
      intro q h
      simp only [put_obj, put_next, M0_next, freeze_obj, freeze_next, Nat.add_zero, Nat.zero_add, Nat.add_assoc, Nat.add_left_cancel_iff, Nat.add_eq_left, Nat.left_eq_add, decide_eq_true_eq, List.nil_append, List.append_nil, Nat.reduceAdd, Nat.reduceEqDiff, Nat.reduceLeDiff, Nat.reduceLT, reduceIte]
      repeat rw [if_neg (by omega)]
    have d2 : decide (b < -127) = false := by simpa using h3
    by_cases h4 : b > 127
    · rw [if_pos (.inr h4)]
      have d3 : decide (b > 127) = true := by simpa using h4
      repeat (first | with_reducible refine x_ops ?_ | (simp only [go_sem, Nat.reduceAdd, Nat.reduceEqDiff, Nat.reduceLT, Nat.reduceLeDiff, Nat.reduceMul, Nat.reduceSub, reduceIte, splice, vfill, d0, d1, d2, d3, tCrs, tInts]))
      refine finM_ret (r' := _) (by (simp only [go_sem, Nat.reduceAdd, Nat.reduceEqDiff, Nat.reduceLT, Nat.reduceLeDiff, Nat.reduceMul, Nat.reduceSub, reduceIte, resV, resAll, resOne, oneOr]); try rfl) (pubT pubN) ?_
      intro q h
      simp only [put_obj, put_next, M0_next, freeze_obj, freeze_next, Nat.add_zero, Nat.zero_add, Nat.add_assoc, Nat.add_left_cancel_iff, Nat.add_eq_left, Nat.left_eq_add, decide_eq_true_eq, List.nil_append, List.append_nil, Nat.reduceAdd, Nat.reduceEqDiff, Nat.reduceLeDiff, Nat.reduceLT, reduceIte]
      repeat rw [if_neg (by omega)]
    have d3 : decide (b > 127) = false := by simpa using h4
    rw [if_neg (by omega)]
    repeat (first | with_reducible refine x_ops ?_ | (simp only [go_sem, Nat.reduceAdd, Nat.reduceEqDiff, Nat.reduceLT, Nat.reduceLeDiff, Nat.reduceMul, Nat.reduceSub, reduceIte, splice, vfill, d0, d1, d2, d3, tCrs, tInts]))
    refine x_scall (copy_sfn cs ss (by omega) (by omega) _) (by (simp only [go_sem, reduceIte, Nat.reduceEqDiff, V.norms, V.norm]); rfl) (CopyP.ex _ _ _) ?_
    rintro r m2 ⟨i, j, hi, hj, hij, hi2, hj2, rfl, ho1, ho2, hk⟩
    have hC : m2.obj (m.next + 1) = some (.box [.sl 0 [] .exact, .sl 0 [] .exact] 39) := by
      rw [hk _ (by show m.next + 1 < m.next + 3 + 4; omega)]; simp only [put_obj, put_next, M0_next, freeze_obj, freeze_next, Nat.add_zero, Nat.zero_add, Nat.add_assoc, Nat.add_left_cancel_iff, Nat.add_eq_left, Nat.left_eq_add, decide_eq_true_eq, List.nil_append, List.append_nil, Nat.reduceAdd, Nat.reduceEqDiff, Nat.reduceLeDiff, Nat.reduceLT, reduceIte]
    have hq : ∀ q, q < m.next → m2.obj q = m.obj q := fun q hq => by
      rw [hk _ (by show q < m.next + 3 + 4; omega)]
      simp only [put_obj, put_next, M0_next, freeze_obj, freeze_next, Nat.add_zero, Nat.zero_add, Nat.add_assoc, Nat.add_left_cancel_iff, Nat.add_eq_left, Nat.left_eq_add, decide_eq_true_eq, List.nil_append, List.append_nil, Nat.reduceAdd, Nat.reduceEqDiff, Nat.reduceLeDiff, Nat.reduceLT, reduceIte]
      repeat rw [if_neg (by omega)]
    have hi' : m.next + 7 ≤ i := hi
    have hj' : m.next + 7 ≤ j := hj
    clear hk hi hj
    have hk : co.toNat - 1 < cs.length := by omega
    have ho1 := ho1 (by rintro rfl; simp at hk)
    have hlti : ((co.toNat - 1 : Nat) : Int) < cs.length := by omega
    have hw : IntKind.i64.wrap (co - 1) = ((co.toNat - 1 : Nat) : Int) := by rw [IntWalk.i64_in _ (by omega)]; omega
    have hbv : bv i cs.length = .bsl i 0 cs.length cs.length := if_neg (by omega)
    have gp := crs_p hk
    have lC := crs_len cs
    have hs := splice_p hk (IntKind.i64.wrap ((cs.getD (co.toNat - 1) default).p + b))
    have n1 : ¬ (i = m.next + 5) := by omega
    have n2 : ¬ (m.next + 5 = i) := by omega
    have b2 : (co.toNat - 1) * 3 + 1 ≤ cs.length * 3 := by omega
    have HT : lits (cells3 (cs.set (co.toNat - 1) ⟨IntKind.i64.wrap ((cs.getD (co.toNat - 1) default).p + b), (cs.getD (co.toNat - 1) default).f, (cs.getD (co.toNat - 1) default).o⟩)) = lits (cells3 (tuned cs (co.toNat - 1) b)) := rfl
    rw [HT] at hs
    simp only [vint] at gp hs
    repeat (first | with_reducible refine x_ops ?_ | (simp only [go_sem, Nat.reduceAdd, Nat.reduceEqDiff, Nat.reduceLT, Nat.reduceLeDiff, Nat.reduceMul, Nat.reduceSub, reduceIte, splice, vfill, hC, tCrs, tInts]))
    refine goR_ifm (by unfold bv; by_cases e1 : cs.length = 0 <;> by_cases e2 : ss.length = 0 <;> simp [e1, e2]) ?_
    have r1 : m.next + 5 < m2.next := by omega
    repeat (first | with_reducible refine x_ops ?_ | (simp only [go_sem, Nat.reduceAdd, Nat.reduceEqDiff, Nat.reduceLT, Nat.reduceLeDiff, Nat.reduceMul, Nat.reduceSub, reduceIte, hC, hw, hbv, hlti, lC, gp, n1, n2, ho1, hs, b2, r1, hi2]))
    have oI : ∀ mm : Mm, (mm.put i (.box (lits (cells3 (tuned cs (co.toNat - 1) b))) 59)).obj i = some (.box (lits (cells3 (tuned cs (co.toNat - 1) b))) 59) := fun _ => if_pos rfl
    refine x_scall (checked_box (T := tuned cs (co.toNat - 1) b) (ss := ss) (i := i) (j := j) (n := cs.length) (List.length_set ..) (if_pos rfl) (fun h => ?_)) (by (simp only [go_sem, reduceIte, Nat.reduceEqDiff, V.norms, V.norm])) ⟨_, _, rfl, fun _ _ _ => rfl⟩ ?_
    · simp only [put_obj, put_next, M0_next, freeze_obj, freeze_next, Nat.add_zero, Nat.zero_add, Nat.add_assoc, Nat.add_left_cancel_iff, Nat.add_eq_left, Nat.left_eq_add, decide_eq_true_eq, List.nil_append, List.append_nil, Nat.reduceAdd, Nat.reduceEqDiff, Nat.reduceLeDiff, Nat.reduceLT, reduceIte]
      repeat rw [if_neg (by omega)]
      exact ho2 h
    rintro r m3 ⟨rfl, ho3⟩
    obtain ⟨c, s, e, hT⟩ := tunV_is (tuned cs (co.toNat - 1) b) ss
    rw [hT]
    have hC3 : m3.obj (m.next + 1) = some (.box [.sl 0 [] .exact, .sl 0 [] .exact] 39) := by
      rw [ho3 _ (by omega) (by omega)]
      simp only [put_obj, put_next, M0_next, freeze_obj, freeze_next, Nat.add_zero, Nat.zero_add, Nat.add_assoc, Nat.add_left_cancel_iff, Nat.add_eq_left, Nat.left_eq_add, decide_eq_true_eq, List.nil_append, List.append_nil, Nat.reduceAdd, Nat.reduceEqDiff, Nat.reduceLeDiff, Nat.reduceLT, reduceIte]
      repeat rw [if_neg (by omega)]
      exact hC
    repeat (first | with_reducible refine x_ops ?_ | (simp only [go_sem, Nat.reduceAdd, Nat.reduceEqDiff, Nat.reduceLT, Nat.reduceLeDiff, Nat.reduceMul, Nat.reduceSub, reduceIte, splice, vfill, hC3, tIns, tCrs, tInts]))
    refine finM_ret (r' := _) (by (simp only [go_sem, Nat.reduceAdd, Nat.reduceEqDiff, Nat.reduceLT, Nat.reduceLeDiff, Nat.reduceMul, Nat.reduceSub, reduceIte, resV, resAll, resOne, oneOr]); try rfl) (pubT (pubI c s)) ?_
    intro q h
    simp only [put_obj, put_next, M0_next, freeze_obj, freeze_next, Nat.add_zero, Nat.zero_add, Nat.add_assoc, Nat.add_left_cancel_iff, Nat.add_eq_left, Nat.left_eq_add, decide_eq_true_eq, List.nil_append, List.append_nil, Nat.reduceAdd, Nat.reduceEqDiff, Nat.reduceLeDiff, Nat.reduceLT, reduceIte]
    repeat rw [if_neg (by omega)]
    rw [ho3 q (by omega) (by omega)]
    simp only [put_obj, put_next, M0_next, freeze_obj, freeze_next, Nat.add_zero, Nat.zero_add, Nat.add_assoc, Nat.add_left_cancel_iff, Nat.add_eq_left, Nat.left_eq_add, decide_eq_true_eq, List.nil_append, List.append_nil, Nat.reduceAdd, Nat.reduceEqDiff, Nat.reduceLeDiff, Nat.reduceLT, reduceIte]
    repeat rw [if_neg (by omega)]
    exact hq q h
end Go.Proofs.YtbdhjpdjbogggaaDoor
namespace Go.Proofs.YtbdhjpdjbogggaaDoor
open Go.RowKit
attribute [local go_sem] vx_skip vx_ret vx_exit vx_seq vx_block vx_scope vx_cond vx_condT vx_condF gR_nil gR_cons VO.stops beq_self_eq_true Bool.false_beq Bool.true_beq Bool.not_true Bool.not_false Bool.false_eq_true if_false exo VI.on if_true exoOp pureSem List.map_cons List.map_nil St.ev initT Option.map_some putT_get putT_none put_obj put_next M0_next freeze_obj freeze_next List.getD_cons_zero List.getD_cons_succ List.getD_nil V.cells rdable Nat.add_assoc Nat.add_zero Nat.add_left_cancel_iff Nat.add_eq_left Nat.left_eq_add decide_true Bool.true_or ite_self onB vbinI vint vbool List.drop_zero List.take_succ_cons List.drop_succ_cons List.take_zero List.length_cons List.length_nil List.getElem?_cons_zero List.getElem?_cons_succ decide_eq_true_eq true_and and_true Nat.le_refl List.zip_cons_cons List.zip_nil_left V.pubs V.pub Option.bind_some List.all_cons List.all_nil V.one Bool.and_self List.cons_append List.nil_append then_nrm then_ret then_exit inB_nrm inB_ret inB_exit Int.toNat_natCast Int.natCast_nonneg eq_self Nat.zero_add Nat.mul_one

theorem wrapS {x : Int} (h : -1000 ≤ x ∧ x ≤ 1000) : IntKind.i64.wrap x = x := IntWalk.i64_in _ (by omega)
theorem steps_nth : ∀ {ss : List Int} {l : Int}, stepsOk l ss = true → ∀ i, i < ss.length → l < ss.getD i 0 ∧ ss.getD i 0 ≤ 127
  | [], _, _, i, hi => by simp at hi
  | x :: r, l, h, i, hi => by
    simp only [stepsOk, Bool.and_eq_true, decide_eq_true_eq] at h
    cases i with
    | zero => exact ⟨h.1.1, h.1.2⟩
    | succ i =>
      have := steps_nth h.2 i (by simpa using hi)
      rw [List.getD_cons_succ]
      omega
theorem steps_lt : ∀ {ss : List Int} {l : Int}, stepsOk l ss = true → ∀ i j, i < j → j < ss.length → ss.getD i 0 < ss.getD j 0
  | [], _, _, i, j, _, hj => by simp at hj
  | x :: r, l, h, i, j, hij, hj => by
    simp only [stepsOk, Bool.and_eq_true, decide_eq_true_eq] at h
    cases j with
    | zero => omega
    | succ j =>
      rw [List.getD_cons_succ]
      have hj' : j < r.length := by simpa using hj
      cases i with
      | zero => exact (steps_nth h.2 j hj').1
      | succ i => rw [List.getD_cons_succ]; exact steps_lt h.2 i j (by omega) hj'
theorem steps_of : ∀ {ss : List Int} {l : Int}, (∀ i, i < ss.length → ss.getD i 0 ≤ 127 ∧ l < ss.getD i 0) → (∀ i j, i < j → j < ss.length → ss.getD i 0 < ss.getD j 0) → stepsOk l ss = true
  | [], _, _, _ => rfl
  | x :: r, l, h, h2 => by
    simp only [stepsOk, Bool.and_eq_true, decide_eq_true_eq]
    have h0 := h 0 (by simp)
    rw [List.getD_cons_zero] at h0
    refine ⟨⟨h0.2, h0.1⟩, steps_of (fun i hi => ?_) fun i j hij hj => ?_⟩
    · have a := h (i + 1) (by simpa using hi)
      have b := h2 0 (i + 1) (by omega) (by simpa using hi)
      rw [List.getD_cons_succ] at a b
      rw [List.getD_cons_zero] at b
      exact ⟨a.1, b⟩
    · have b := h2 (i + 1) (j + 1) (by omega) (by simpa using hj)
      rw [List.getD_cons_succ, List.getD_cons_succ] at b
      exact b
theorem crsAll_of {ss : List Int} : ∀ {cs : List Crs}, (∀ c ∈ cs, crsE ss c = 0) → crsAll ss cs = 0
  | [], _ => rfl
  | c :: r, h => by
    rw [crsAll_ok (h c (List.mem_cons_self ..))]
    exact crsAll_of fun d hd => h d (List.mem_cons_of_mem _ hd)
theorem chk_of {cs : List Crs} {ss : List Int} (h1 : cs.length ≤ 14) (h2 : ss.length ≤ 18) (h3 : cs ≠ []) (h4 : stepsOk 0 ss = true) (h5 : ∀ c ∈ cs, crsE ss c = 0) : chk cs ss = 0 := by
  rw [chk, if_neg (by omega), if_neg h3, if_pos h4]
  exact crsAll_of h5
theorem chk_ne {cs : List Crs} {ss : List Int} (h : chk cs ss = 0) : cs ≠ [] := by
  rintro rfl
  unfold chk at h
  split at h
  · cases h
  · cases h
theorem crsE_zero {ss : List Int} {c : Crs} (h : crsE ss c = 0) : 0 ≤ c.f ∧ c.f ≤ ss.length ∧ 0 ≤ c.p ∧ c.p ≤ 127 ∧ hiOf ss c.p c.f c.o ≤ 127 := by
  unfold crsE at h
  split at h
  · cases h
  · split at h
    · cases h
    · omega
theorem ext_getD {l l' : List Int} (hl : l.length = l'.length) (h : ∀ i, i < l.length → l.getD i 0 = l'.getD i 0) : l = l' :=
  List.ext_getElem hl fun i h1 h2 => by
    have := h i h1
    rw [List.getD_eq_getElem?_getD, List.getD_eq_getElem?_getD, List.getElem?_eq_getElem h1, List.getElem?_eq_getElem h2] at this
    exact this
section
variable {cs : List Crs} {ss : List Int} {K J : Nat}
theorem capS_get {b : Int} (h4 : stepsOk 0 ss = true) (hb : 0 ≤ b ∧ b ≤ 127) {i : Nat} (hi : K + i < ss.length) : (capS b ss K).getD i 0 = ss.getD (K + i) 0 - b := by
  have h := steps_nth h4 (K + i) hi
  rw [List.getD_eq_getElem?_getD, capS, List.getElem?_map, List.getElem?_drop]
  rw [List.getD_eq_getElem?_getD, List.getElem?_eq_getElem hi, Option.getD_some] at h
  rw [List.getElem?_eq_getElem hi, Option.map_some, Option.getD_some, List.getD_eq_getElem?_getD, List.getElem?_eq_getElem hi, Option.getD_some]
  exact wrapS (by omega)
theorem capS_steps (h4 : stepsOk 0 ss = true) (h0 : 0 < K) (hK : K ≤ ss.length) : stepsOk 0 (capS (ss.getD (K - 1) 0) ss K) = true := by
  have hb := steps_nth h4 (K - 1) (by omega)
  refine steps_of (fun i hi => ?_) fun i j hij hj => ?_
  · rw [capS_length] at hi
    rw [capS_get h4 (by omega) (by omega)]
    have h1 := steps_nth h4 (K + i) (by omega)
    have h2 := steps_lt h4 (K - 1) (K + i) (by omega) (by omega)
    omega
  · rw [capS_length] at hj
    rw [capS_get h4 (by omega) (by omega), capS_get h4 (by omega) (by omega)]
    have h2 := steps_lt h4 (K + i) (K + j) (by omega) (by omega)
    omega
theorem capC_is {c : Crs} {b : Int} (hc : crsE ss c = 0) (hb : 0 ≤ b ∧ b ≤ 127) (hl : ss.length ≤ 18) (hK : K ≤ ss.length) (hf : c.f ≠ 0) : capC K b c = ⟨c.p + b, c.f - K, c.o⟩ := by
  have h := crsE_zero hc
  rw [capC, if_neg hf, wrapS (by omega), wrapS (by omega)]
theorem capC_ok {c : Crs} (h4 : stepsOk 0 ss = true) (hl : ss.length ≤ 18) (h0 : 0 < K) (hK : K ≤ ss.length) (hc : crsE ss c = 0) (hf : c.f = 0 ∨ K < c.f) : crsE (capS (ss.getD (K - 1) 0) ss K) (capC K (ss.getD (K - 1) 0) c) = 0 := by
  have h := crsE_zero hc
  have hb := steps_nth h4 (K - 1) (by omega)
  by_cases hz : c.f = 0
  · rw [capC, if_pos hz]
    refine crsE_0 ⟨by omega, by omega⟩ ?_
    have := h.2.2.2.2
    unfold hiOf at this ⊢
    rw [if_neg (by omega)] at this ⊢
    omega
  · rw [capC_is hc (by omega) hl hK hz]
    have hi := h.2.2.2.2
    have hlt : K < c.f := by omega
    have hx := steps_lt h4 (K - 1) (c.f - 1).toNat (by omega) (by omega)
    have hg : (capS (ss.getD (K - 1) 0) ss K).getD (c.f - K - 1).toNat 0 = ss.getD (c.f - 1).toNat 0 - ss.getD (K - 1) 0 := by
      rw [capS_get h4 (by omega) (by omega)]
      congr 2
      omega
    unfold hiOf at hi
    rw [if_pos (by omega)] at hi
    refine crsE_0 ⟨?_, ?_⟩ ?_
    · show 0 ≤ c.f - K; omega
    · show c.f - K ≤ _; rw [capS_length]; omega
    · show ¬ (c.p + _ < 0 ∨ 127 < c.p + _ ∨ 127 < hiOf _ (c.p + _) (c.f - K) c.o)
      unfold hiOf
      rw [if_pos (by omega), hg]
      by_cases ho : c.o = true
      · rw [if_pos ho] at hi ⊢; omega
      · rw [if_neg ho] at hi ⊢; omega
theorem capO_pos (hc : chk cs ss = 0) (hK : K ≤ ss.length) (h0 : 0 < K) (hg : cs.all (capGood K) = true) : capO cs ss K = (cs.map (capC K (ss.getD (K - 1) 0)), capS (ss.getD (K - 1) 0) ss K, 0) := by
  rw [capO, if_pos hc, if_neg (by omega), if_neg (by omega), if_pos hg]
  rfl
theorem capO_bad (hc : chk cs ss = 0) (hK : K ≤ ss.length) (h0 : 0 < K) (hg : ¬ cs.all (capGood K) = true) : capO cs ss K = ([], [], 13) := by
  rw [capO, if_pos hc, if_neg (by omega), if_neg (by omega), if_neg hg]
theorem capO_far (hc : chk cs ss = 0) (hK : ss.length < K) : capO cs ss K = ([], [], 13) := by
  rw [capO, if_pos hc, if_pos (by omega)]
theorem capO_nil (hc : chk cs ss = 0) : capO cs ss (0 : Nat) = (cs, ss, 0) := by
  rw [capO, if_pos hc, if_neg (by omega), if_pos (by rfl)]
theorem capO_twice (h0 : (capO cs ss K).2.2 = 0) (hall : ∀ c ∈ cs, ¬ (0 < c.f ∧ c.f ≤ K)) : capO (capO cs ss K).1 (capO cs ss K).2.1 J = capO cs ss ((K + J : Nat) : Int) := by
  by_cases hc : chk cs ss = 0
  · obtain ⟨l1, l2, h4, h5⟩ := chk_zero hc
    rcases Nat.eq_zero_or_pos K with rfl | hK0
    · rw [capO_nil hc, Nat.zero_add]
    · rcases Nat.lt_or_ge ss.length K with hlt | hK
      · rw [capO_far hc hlt] at h0; cases h0
      · by_cases hg : cs.all (capGood K) = true
        · have hb := steps_nth h4 (K - 1) (by omega)
          have hf : ∀ c ∈ cs, c.f = 0 ∨ K < c.f := fun c hm => by
            have := hall c hm
            have := crsE_zero (h5 c hm)
            omega
          rw [capO_pos hc hK hK0 hg]
          have hc' : chk (cs.map (capC K (ss.getD (K - 1) 0))) (capS (ss.getD (K - 1) 0) ss K) = 0 := by
            refine chk_of (by simpa using l1) (by rw [capS_length]; omega) (fun e => chk_ne hc (List.map_eq_nil_iff.1 e)) (capS_steps h4 hK0 hK) fun d hd => ?_
            obtain ⟨c, hm, rfl⟩ := List.mem_map.1 hd
            exact capC_ok h4 l2 hK0 hK (h5 c hm) (hf c hm)
          show capO (cs.map (capC K (ss.getD (K - 1) 0))) (capS (ss.getD (K - 1) 0) ss K) J = _
          rcases Nat.eq_zero_or_pos J with rfl | hJ0
          · rw [capO_nil hc', Nat.add_zero, capO_pos hc hK hK0 hg]
          · rcases Nat.lt_or_ge (ss.length - K) J with hlt | hJ
            · rw [capO_far hc' (by rw [capS_length]; exact hlt), capO_far hc (by omega)]
            · have hgood : (cs.map (capC K (ss.getD (K - 1) 0))).all (capGood J) = cs.all (capGood ((K + J : Nat) : Int)) := by
                rw [List.all_map, Bool.eq_iff_iff, List.all_eq_true, List.all_eq_true]
                have key : ∀ c ∈ cs, capGood J (capC K (ss.getD (K - 1) 0) c) = capGood ((K + J : Nat) : Int) c := fun c hm => by
                  by_cases hz : c.f = 0
                  · rw [capC, if_pos hz, capGood, capGood, hz]; rfl
                  · have := hf c hm
                    rw [capC_is (h5 c hm) (by omega) l2 hK hz]
                    rw [Bool.eq_iff_iff]
                    simp only [capGood, Bool.or_eq_true, beq_iff_eq, decide_eq_true_eq]
                    omega
                exact ⟨fun h c hm => by rw [← key c hm]; exact h c hm, fun h c hm => by show capGood J _ = true; rw [key c hm]; exact h c hm⟩
              by_cases hg2 : cs.all (capGood ((K + J : Nat) : Int)) = true
              · have hb2 := steps_nth h4 (K + J - 1) (by omega)
                have hlt2 := steps_lt h4 (K - 1) (K + J - 1) (by omega) (by omega)
                have hbb : (capS (ss.getD (K - 1) 0) ss K).getD (J - 1) 0 = ss.getD (K + J - 1) 0 - ss.getD (K - 1) 0 := by
                  rw [capS_get h4 (by omega) (by omega), show K + (J - 1) = K + J - 1 by omega]
                rw [capO_pos hc' (by rw [capS_length]; exact hJ) hJ0 (by rw [hgood]; exact hg2), capO_pos hc (by omega) (by omega) hg2, hbb]
                refine Prod.ext ?_ (Prod.ext ?_ rfl)
                · show List.map _ (List.map _ cs) = _
                  rw [List.map_map]
                  refine List.map_congr_left fun c hm => ?_
                  show capC J _ (capC K _ c) = _
                  by_cases hz : c.f = 0
                  · rw [capC, capC, if_pos hz, if_pos hz, capC, if_pos hz]
                  · have hz2 := hf c hm
                    have hcz := crsE_zero (h5 c hm)
                    rw [capC_is (h5 c hm) (by omega) l2 hK hz, capC_is (h5 c hm) (by omega) l2 (by omega) hz, capC, if_neg (by show ¬ (c.f - K = 0); omega)]
                    show Crs.mk (IntKind.i64.wrap (c.p + _ + _)) (IntKind.i64.wrap (c.f - K - J)) c.o = _
                    rw [wrapS (by omega), wrapS (by omega)]
                    congr 1 <;> omega
                · show capS _ (capS _ ss K) J = capS _ ss (K + J)
                  refine ext_getD (by rw [capS_length, capS_length, capS_length]; omega) fun i hi => ?_
                  rw [capS_length, capS_length] at hi
                  have := steps_nth h4 (K + J + i) (by omega)
                  rw [capS_get (capS_steps h4 hK0 hK) (by omega) (by rw [capS_length]; omega), capS_get h4 (by omega) (by omega), capS_get h4 (by omega) (by omega), show K + (J + i) = K + J + i by omega]
                  omega
              · rw [capO_bad hc' (by rw [capS_length]; exact hJ) hJ0 (by rw [hgood]; exact hg2), capO_bad hc (by omega) (by omega) hg2]
        · rw [capO_bad hc hK hK0 hg] at h0; cases h0
  · rw [capO, if_neg hc] at h0; exact absurd h0 hc
end
end Go.Proofs.YtbdhjpdjbogggaaDoor
namespace Go.Proofs.YtbdhjpdjbogggaaDoor
open Go.RowKit
attribute [local go_sem] vx_skip vx_ret vx_exit vx_seq vx_block vx_scope vx_cond vx_condT vx_condF gR_nil gR_cons VO.stops beq_self_eq_true Bool.false_beq Bool.true_beq Bool.not_true Bool.not_false Bool.false_eq_true if_false exo VI.on if_true exoOp pureSem List.map_cons List.map_nil St.ev initT Option.map_some putT_get putT_none put_obj put_next M0_next freeze_obj freeze_next List.getD_cons_zero List.getD_cons_succ List.getD_nil V.cells rdable Nat.add_assoc Nat.add_zero Nat.add_left_cancel_iff Nat.add_eq_left Nat.left_eq_add decide_true Bool.true_or ite_self onB vbinI vint vbool List.drop_zero List.take_succ_cons List.drop_succ_cons List.take_zero List.length_cons List.length_nil List.getElem?_cons_zero List.getElem?_cons_succ decide_eq_true_eq true_and and_true Nat.le_refl List.zip_cons_cons List.zip_nil_left V.pubs V.pub Option.bind_some List.all_cons List.all_nil V.one Bool.and_self List.cons_append List.nil_append then_nrm then_ret then_exit inB_nrm inB_ret inB_exit Int.toNat_natCast Int.natCast_nonneg eq_self Nat.zero_add Nat.mul_one

def mapT (g : Crs → Crs) (cs : List Crs) (k : Nat) : List Crs := (cs.take k).map g ++ cs.drop k
section
variable {g : Crs → Crs} {cs : List Crs} {k : Nat}
theorem mapT_length : (mapT g cs k).length = cs.length := by simp [mapT]; omega
theorem mapT_zero : mapT g cs 0 = cs := by simp [mapT]
theorem mapT_all (h : cs.length ≤ k) : mapT g cs k = cs.map g := by rw [mapT, List.take_of_length_le h, List.drop_of_length_le h, List.append_nil]
theorem mapT_at (h : k < cs.length) : (mapT g cs k).getD k default = cs.getD k default := by
  rw [List.getD_eq_getElem?_getD, List.getD_eq_getElem?_getD, mapT, List.getElem?_append_right (by simp; omega), List.length_map, List.length_take, Nat.min_eq_left (by omega), Nat.sub_self, List.getElem?_drop, Nat.add_zero]
theorem mapT_succ (h : k < cs.length) : (mapT g cs k).set k (g (cs.getD k default)) = mapT g cs (k + 1) := by
  obtain ⟨x, y, e, rfl⟩ := split_at h
  generalize cs.getD x.length default = c at e ⊢
  rw [e, mapT, mapT, List.take_left, List.drop_left, show x.length = (x.map g).length by simp, set_mid]
  rw [show x ++ c :: y = (x ++ [c]) ++ y by simp, show (x.map g).length + 1 = (x ++ [c]).length by simp, List.take_left, List.drop_left]
  simp
end
end Go.Proofs.YtbdhjpdjbogggaaDoor
namespace Go.Proofs.YtbdhjpdjbogggaaDoor
open Go.RowKit
attribute [local go_sem] vx_skip vx_ret vx_exit vx_seq vx_block vx_scope vx_cond vx_condT vx_condF gR_nil gR_cons VO.stops beq_self_eq_true Bool.false_beq Bool.true_beq Bool.not_true Bool.not_false Bool.false_eq_true if_false exo VI.on if_true exoOp pureSem List.map_cons List.map_nil St.ev initT Option.map_some putT_get putT_none put_obj put_next M0_next freeze_obj freeze_next List.getD_cons_zero List.getD_cons_succ List.getD_nil V.cells rdable Nat.add_assoc Nat.add_zero Nat.add_left_cancel_iff Nat.add_eq_left Nat.left_eq_add decide_true Bool.true_or ite_self onB vbinI vint vbool List.drop_zero List.take_succ_cons List.drop_succ_cons List.take_zero List.length_cons List.length_nil List.getElem?_cons_zero List.getElem?_cons_succ decide_eq_true_eq true_and and_true Nat.le_refl List.zip_cons_cons List.zip_nil_left V.pubs V.pub Option.bind_some List.all_cons List.all_nil V.one Bool.and_self List.cons_append List.nil_append then_nrm then_ret then_exit inB_nrm inB_ret inB_exit Int.toNat_natCast Int.natCast_nonneg eq_self Nat.zero_add Nat.mul_one
set_option linter.unusedSimpArgs false
set_option linter.unusedVariables false

def upBy (b : Int) (c : Crs) : Crs := ⟨IntKind.i64.wrap (c.p + b), c.f, c.o⟩
def transV (cs : List Crs) (ss : List Int) (b : Int) : V :=
  if chk cs ss = 0 then
    if b < -127 ∨ 127 < b then .tup [tIns [] [], vint 1]
    else tunV (cs.map (upBy b)) ss
  else .tup [tIns [] [], vint (chk cs ss)]
def TrI (cs : List Crs) (ss : List Int) (b : Int) (i j : Nat) (s : St) : Prop := ∃ k : Nat, k ≤ cs.length ∧ s.t 27 = vint k ∧ s.t 26 = vint cs.length ∧ s.t 1 = vint b ∧ s.t 7 = .ptr 5 0 ∧ s.t 4 = .ptr 1 0 ∧
  s.m.obj 1 = some (.box [.sl 0 [] .exact, .sl 0 [] .exact] 39) ∧ s.m.obj 5 = some (.box [bv i cs.length, bv j ss.length] 39) ∧ s.m.obj i = some (.box (lits (cells3 (mapT (upBy b) cs k))) 59) ∧
  (ss ≠ [] → s.m.obj j = some (.box (lits (ss.map (Value.int .i64))) 3)) ∧ 6 ≤ s.m.next
theorem trans_fn (cs : List Crs) (ss : List Int) (b : Int) : Fn Tryd.prog Gd 47 [tIns cs ss, vint b] (transV cs ss b) := by
  refine Fn.of_vx0 k_instrument_Transpose (by simp) (pures_cons (pures_tIns cs ss) (pures1 (pure_vint b))) ?_
  unfold c_instrument_Transpose tIns
  repeat (first | with_reducible refine x_ops ?_ | (simp only [go_sem, Nat.reduceAdd, Nat.reduceEqDiff, Nat.reduceLT, Nat.reduceLeDiff, Nat.reduceMul, Nat.reduceSub, reduceIte, splice, vfill]))
  refine x_call none (check_fn cs ss) (by (simp only [go_sem, reduceIte, Nat.reduceEqDiff, V.norms, V.norm]); rfl) ?_
  repeat (first | with_reducible refine x_ops ?_ | (simp only [go_sem, Nat.reduceAdd, Nat.reduceEqDiff, Nat.reduceLT, Nat.reduceLeDiff, Nat.reduceMul, Nat.reduceSub, reduceIte, splice, vfill]))
  refine x_if (fun ht => ?_) (fun ht => ?_)
  · repeat (first | with_reducible refine x_ops ?_ | (simp only [go_sem, Nat.reduceAdd, Nat.reduceEqDiff, Nat.reduceLT, Nat.reduceLeDiff, Nat.reduceMul, Nat.reduceSub, reduceIte, splice, vfill]))
    have h0 : chk cs ss ≠ 0 := by simpa using ht
    rw [transV, if_neg h0]
    exact finV_ret (r' := _) (by (simp only [go_sem, Nat.reduceAdd, Nat.reduceEqDiff, Nat.reduceLT, Nat.reduceLeDiff, Nat.reduceMul, Nat.reduceSub, reduceIte, resV, resAll, resOne, oneOr]); try rfl) (vw_pair vw_none)
  · have h0 : chk cs ss = 0 := by simpa using ht
    rw [transV, if_pos h0]
    have hsm := chk_small h0
    have hne := chk_ne h0
    have hn0 : cs.length ≠ 0 := fun e => hne (List.eq_nil_of_length_eq_zero e)
    by_cases h3 : b < -127
    · rw [if_pos (.inl h3)]
      have d2 : decide (b < -127) = true := by simpa using h3
      repeat (first | with_reducible refine x_ops ?_ | (simp only [go_sem, Nat.reduceAdd, Nat.reduceEqDiff, Nat.reduceLT, Nat.reduceLeDiff, Nat.reduceMul, Nat.reduceSub, reduceIte, splice, vfill, d2, tCrs, tInts]))
      exact finV_ret (r' := _) (by (simp only [go_sem, Nat.reduceAdd, Nat.reduceEqDiff, Nat.reduceLT, Nat.reduceLeDiff, Nat.reduceMul, Nat.reduceSub, reduceIte, resV, resAll, resOne, oneOr]); try rfl) (vw_pair vw_none)
    have d2 : decide (b < -127) = false := by simpa using h3
    by_cases h4 : b > 127
    · rw [if_pos (.inr h4)]
      have d3 : decide (b > 127) = true := by simpa using h4
      repeat (first | with_reducible refine x_ops ?_ | (simp only [go_sem, Nat.reduceAdd, Nat.reduceEqDiff, Nat.reduceLT, Nat.reduceLeDiff, Nat.reduceMul, Nat.reduceSub, reduceIte, splice, vfill, d2, d3, tCrs, tInts]))
      exact finV_ret (r' := _) (by (simp only [go_sem, Nat.reduceAdd, Nat.reduceEqDiff, Nat.reduceLT, Nat.reduceLeDiff, Nat.reduceMul, Nat.reduceSub, reduceIte, resV, resAll, resOne, oneOr]); try rfl) (vw_pair vw_none)
    have d3 : decide (b > 127) = false := by simpa using h4
    rw [if_neg (by omega)]
    repeat (first | with_reducible refine x_ops ?_ | (simp only [go_sem, Nat.reduceAdd, Nat.reduceEqDiff, Nat.reduceLT, Nat.reduceLeDiff, Nat.reduceMul, Nat.reduceSub, reduceIte, splice, vfill, d2, d3, tCrs, tInts]))
    refine x_scall (clone_sfn cs ss (by omega) (by omega) _) (by (simp only [go_sem, reduceIte, Nat.reduceEqDiff, V.norms, V.norm]); rfl) (CopyP.ex _ _ _) ?_
    rintro r m2 ⟨i, j, hi, hj, hij, hi2, hj2, rfl, ho1, ho2, hk⟩
    have hi' : 7 ≤ i := hi
    have hj' : 7 ≤ j := hj
    have hC : m2.obj 1 = some (.box [.sl 0 [] .exact, .sl 0 [] .exact] 39) := by
      rw [hk _ (by show 1 < 7; omega)]; simp only [put_obj, put_next, M0_next, freeze_obj, freeze_next, Nat.add_zero, Nat.zero_add, Nat.add_assoc, Nat.add_left_cancel_iff, Nat.add_eq_left, Nat.left_eq_add, decide_eq_true_eq, List.nil_append, List.append_nil, Nat.reduceAdd, Nat.reduceEqDiff, Nat.reduceLeDiff, Nat.reduceLT, reduceIte]
    clear hk hi hj
    have ho1 := ho1 hne
    have hbv : bv i cs.length = .bsl i 0 cs.length cs.length := if_neg hn0
    repeat (first | with_reducible refine x_ops ?_ | (simp only [go_sem, Nat.reduceAdd, Nat.reduceEqDiff, Nat.reduceLT, Nat.reduceLeDiff, Nat.reduceMul, Nat.reduceSub, reduceIte, splice, vfill, hC, tCrs, tInts]))
    refine goR_ifm (by unfold bv; by_cases e1 : cs.length = 0 <;> by_cases e2 : ss.length = 0 <;> simp [e1, e2]) ?_
    repeat (first | with_reducible refine x_ops ?_ | (simp only [go_sem, Nat.reduceAdd, Nat.reduceEqDiff, Nat.reduceLT, Nat.reduceLeDiff, Nat.reduceMul, Nat.reduceSub, reduceIte, hC, hbv]))
    have n5i : ¬ (i = 5) := by omega
    have n5j : ¬ (j = 5) := by omega
    refine x_loop (TrI cs ss b i j) (fun s => cs.length - numOf (s.t 27)) ?_ ?_
    · refine ⟨0, Nat.zero_le _, rfl, rfl, rfl, rfl, rfl, ?_, ?_, ?_, fun h => ?_, ?_⟩
      · simp only [put_obj, put_next, M0_next, freeze_obj, freeze_next, Nat.add_zero, Nat.zero_add, Nat.add_assoc, Nat.add_left_cancel_iff, Nat.add_eq_left, Nat.left_eq_add, decide_eq_true_eq, List.nil_append, List.append_nil, Nat.reduceAdd, Nat.reduceEqDiff, Nat.reduceLeDiff, Nat.reduceLT, reduceIte]
        exact hC
      · rw [hbv]
        simp only [put_obj, put_next, M0_next, freeze_obj, freeze_next, Nat.add_zero, Nat.zero_add, Nat.add_assoc, Nat.add_left_cancel_iff, Nat.add_eq_left, Nat.left_eq_add, decide_eq_true_eq, List.nil_append, List.append_nil, Nat.reduceAdd, Nat.reduceEqDiff, Nat.reduceLeDiff, Nat.reduceLT, reduceIte]
      · simp only [put_obj, put_next, M0_next, freeze_obj, freeze_next, Nat.add_zero, Nat.zero_add, Nat.add_assoc, Nat.add_left_cancel_iff, Nat.add_eq_left, Nat.left_eq_add, decide_eq_true_eq, List.nil_append, List.append_nil, Nat.reduceAdd, Nat.reduceEqDiff, Nat.reduceLeDiff, Nat.reduceLT, reduceIte]
        simp only [if_neg n5i]
        rw [mapT_zero]; exact ho1
      · simp only [put_obj, put_next, M0_next, freeze_obj, freeze_next, Nat.add_zero, Nat.zero_add, Nat.add_assoc, Nat.add_left_cancel_iff, Nat.add_eq_left, Nat.left_eq_add, decide_eq_true_eq, List.nil_append, List.append_nil, Nat.reduceAdd, Nat.reduceEqDiff, Nat.reduceLeDiff, Nat.reduceLT, reduceIte]
        simp only [if_neg n5j]
        exact ho2 h
      · show 6 ≤ m2.next; omega
    · rintro s ⟨k, hk, h27, h26, h1, h7, h4', oC, oD, oI, oJ, hnx⟩
      have hw1 : IntKind.i64.wrap ((k : Int) + 1) = ((k + 1 : Nat) : Int) := by rw [IntWalk.i64_in _ (by omega)]; omega
      rw [hbv] at oD
      repeat (first | with_reducible refine x_ops ?_ | (simp only [go_sem, Nat.reduceAdd, Nat.reduceEqDiff, Nat.reduceLT, Nat.reduceLeDiff, Nat.reduceMul, Nat.reduceSub, reduceIte, h27, h26]))
      refine x_if (fun hlt => ?_) (fun hge => ?_)
      · have hlt : k < cs.length := by simpa using hlt
        have hlti : ((k : Nat) : Int) < cs.length := by omega
        have hl : k < (mapT (upBy b) cs k).length := by rw [mapT_length]; exact hlt
        have gp := crs_p hl
        have hs := splice_p hl (IntKind.i64.wrap ((cs.getD k default).p + b))
        rw [mapT_at hlt] at gp hs
        have e2 : (mapT (upBy b) cs k).set k ⟨IntKind.i64.wrap ((cs.getD k default).p + b), (cs.getD k default).f, (cs.getD k default).o⟩ = mapT (upBy b) cs (k + 1) := mapT_succ hlt
        rw [e2] at hs
        have lT := crs_len (mapT (upBy b) cs k)
        rw [mapT_length] at lT
        have b2 : k * 3 + 1 ≤ cs.length * 3 := by omega
        simp only [vint] at gp hs
        repeat (first | with_reducible refine x_ops ?_ | (simp only [go_sem, Nat.reduceAdd, Nat.reduceEqDiff, Nat.reduceLT, Nat.reduceLeDiff, Nat.reduceMul, Nat.reduceSub, reduceIte, h27, h26, h1, h7, oD, oI, hlti, gp, hs, lT, b2, hw1]))
        refine ⟨⟨k + 1, hlt, rfl, h26, h1, h7, h4', ?_, ?_, ?_, fun h => ?_, hnx⟩, ?_⟩
        · simp only [put_obj, put_next, M0_next, freeze_obj, freeze_next, Nat.add_zero, Nat.zero_add, Nat.add_assoc, Nat.add_left_cancel_iff, Nat.add_eq_left, Nat.left_eq_add, decide_eq_true_eq, List.nil_append, List.append_nil, Nat.reduceAdd, Nat.reduceEqDiff, Nat.reduceLeDiff, Nat.reduceLT, reduceIte]
          rw [if_neg (by omega)]; exact oC
        · simp only [put_obj, put_next, M0_next, freeze_obj, freeze_next, Nat.add_zero, Nat.zero_add, Nat.add_assoc, Nat.add_left_cancel_iff, Nat.add_eq_left, Nat.left_eq_add, decide_eq_true_eq, List.nil_append, List.append_nil, Nat.reduceAdd, Nat.reduceEqDiff, Nat.reduceLeDiff, Nat.reduceLT, reduceIte]
          rw [if_neg (by omega), hbv]; exact oD
        · simp only [put_obj, put_next, M0_next, freeze_obj, freeze_next, Nat.add_zero, Nat.zero_add, Nat.add_assoc, Nat.add_left_cancel_iff, Nat.add_eq_left, Nat.left_eq_add, decide_eq_true_eq, List.nil_append, List.append_nil, Nat.reduceAdd, Nat.reduceEqDiff, Nat.reduceLeDiff, Nat.reduceLT, reduceIte]
        · simp only [put_obj, put_next, M0_next, freeze_obj, freeze_next, Nat.add_zero, Nat.zero_add, Nat.add_assoc, Nat.add_left_cancel_iff, Nat.add_eq_left, Nat.left_eq_add, decide_eq_true_eq, List.nil_append, List.append_nil, Nat.reduceAdd, Nat.reduceEqDiff, Nat.reduceLeDiff, Nat.reduceLT, reduceIte]
          rw [if_neg (Ne.symm hij)]; exact oJ h
        · simp [numOf]; omega
      · have hge : ¬ k < cs.length := by simpa using hge
        rw [mapT_all (by omega)] at oI
        repeat (first | with_reducible refine x_ops ?_ | (simp only [go_sem, Nat.reduceAdd, Nat.reduceEqDiff, Nat.reduceLT, Nat.reduceLeDiff, Nat.reduceMul, Nat.reduceSub, reduceIte, h7, oD]))
        refine x_cut (from7 6) (retuned_fn (cs.map (upBy b)) ss) ?_ ?_
        · simp only [go_sem, reduceIte, Nat.reduceEqDiff, V.norms, V.norm]
          have h := vw_ins (m := s.m) (S := from7 6) (i := i) (j := j) (n := cs.length) (k := ss.length) (cs := cs.map (upBy b)) (ss := ss) (by simp [from7]; omega) (by simp [from7]; omega) (List.length_map _) rfl (fun _ => oI) (fun h => oJ (cellNe h))
          rw [hbv] at h
          exact h
        obtain ⟨c, s', e, hT⟩ := tunV_is (cs.map (upBy b)) ss
        rw [hT]
        repeat (first | with_reducible refine x_ops ?_ | (simp only [go_sem, Nat.reduceAdd, Nat.reduceEqDiff, Nat.reduceLT, Nat.reduceLeDiff, Nat.reduceMul, Nat.reduceSub, reduceIte, splice, vfill, h4', oC, from7, tIns, tCrs, tInts]))
        exact finV_ret (r' := _) (by (simp only [go_sem, Nat.reduceAdd, Nat.reduceEqDiff, Nat.reduceLT, Nat.reduceLeDiff, Nat.reduceMul, Nat.reduceSub, reduceIte, resV, resAll, resOne, oneOr, h4']); try rfl) (vw_pair (vw_tIns c s'))
end Go.Proofs.YtbdhjpdjbogggaaDoor
namespace Go.Proofs.YtbdhjpdjbogggaaDoor
open Go.RowKit
attribute [local go_sem] vx_skip vx_ret vx_exit vx_seq vx_block vx_scope vx_cond vx_condT vx_condF gR_nil gR_cons VO.stops beq_self_eq_true Bool.false_beq Bool.true_beq Bool.not_true Bool.not_false Bool.false_eq_true if_false exo VI.on if_true exoOp pureSem List.map_cons List.map_nil St.ev initT Option.map_some putT_get putT_none put_obj put_next M0_next freeze_obj freeze_next List.getD_cons_zero List.getD_cons_succ List.getD_nil V.cells rdable Nat.add_assoc Nat.add_zero Nat.add_left_cancel_iff Nat.add_eq_left Nat.left_eq_add decide_true Bool.true_or ite_self onB vbinI vint vbool List.drop_zero List.take_succ_cons List.drop_succ_cons List.take_zero List.length_cons List.length_nil List.getElem?_cons_zero List.getElem?_cons_succ decide_eq_true_eq true_and and_true Nat.le_refl List.zip_cons_cons List.zip_nil_left V.pubs V.pub Option.bind_some List.all_cons List.all_nil V.one Bool.and_self List.cons_append List.nil_append then_nrm then_ret then_exit inB_nrm inB_ret inB_exit Int.toNat_natCast Int.natCast_nonneg eq_self Nat.zero_add Nat.mul_one
set_option linter.unusedSimpArgs false
set_option linter.unusedVariables false

/-- What comes back is an instrument and an error, and no longer than what came. -/
def TupOf (n k : Nat) (v : V) : Prop := ∃ (c : List Crs) (s : List Int) (e : Int), v = .tup [tIns c s, vint e] ∧ c.length ≤ n ∧ s.length ≤ k
theorem tunV_of (cs : List Crs) (ss : List Int) : TupOf cs.length ss.length (tunV cs ss) := by
  unfold tunV
  split
  · exact ⟨_, _, _, rfl, Nat.le_refl _, Nat.le_refl _⟩
  · exact ⟨_, _, _, rfl, Nat.zero_le _, Nat.zero_le _⟩
theorem tuneV_of (cs : List Crs) (ss : List Int) (co b : Int) : TupOf cs.length ss.length (tuneV cs ss co b) := by
  unfold tuneV
  split
  · split
    · exact ⟨_, _, _, rfl, Nat.zero_le _, Nat.zero_le _⟩
    · split
      · exact ⟨_, _, _, rfl, Nat.zero_le _, Nat.zero_le _⟩
      · have := tunV_of (tuned cs (co.toNat - 1) b) ss
        unfold tuned at this
        rw [List.length_set] at this
        exact this
  · exact ⟨_, _, _, rfl, Nat.zero_le _, Nat.zero_le _⟩
theorem transV_of (cs : List Crs) (ss : List Int) (b : Int) : TupOf cs.length ss.length (transV cs ss b) := by
  unfold transV
  split
  · split
    · exact ⟨_, _, _, rfl, Nat.zero_le _, Nat.zero_le _⟩
    · have := tunV_of (cs.map (upBy b)) ss
      rw [List.length_map] at this
      exact this
  · exact ⟨_, _, _, rfl, Nat.zero_le _, Nat.zero_le _⟩
theorem rsame_self (cs : List Crs) (ss : List Int) (h1 : cs.length ≤ 64) (h2 : ss.length ≤ 64) : Fn Tryd.prog Gd 34 [tIns cs ss, tIns cs ss] (vbool true) := by
  have := rsame_fn cs cs ss ss (by omega) (by omega)
  simpa using this
theorem same_self (cs : List Crs) (ss : List Int) (h1 : cs.length ≤ 64) (h2 : ss.length ≤ 64) : Fn Tryd.prog Gd 39 [tIns cs ss, tIns cs ss] (vbool true) := by
  have := same_fn cs cs ss ss (by omega) (by omega)
  simpa using this
def TsI (cs : List Crs) (ss : List Int) (b : Int) (i j : Nat) (s : St) : Prop := ∃ k : Nat, k ≤ cs.length ∧ s.t 8 = vint k ∧ s.t 1 = vint b ∧ s.t 7 = .ptr 5 0 ∧ s.t 4 = .ptr 1 0 ∧
  s.m.obj 1 = some (.box [.sl 0 [] .exact, .sl 0 [] .exact] 39) ∧ s.m.obj 5 = some (.box [bv i cs.length, bv j ss.length] 39) ∧ s.m.obj i = some (.box (lits (cells3 (mapT (upBy b) cs k))) 59) ∧
  (ss ≠ [] → s.m.obj j = some (.box (lits (ss.map (Value.int .i64))) 3)) ∧ 6 ≤ s.m.next ∧ i < s.m.next
theorem rtrans_fn (cs : List Crs) (ss : List Int) (b : Int) : Fn Tryd.prog Gd 48 [tIns cs ss, vint b] (transV cs ss b) := by
  refine Fn.of_vx0 k_theorboref01_Transpose (by simp) (pures_cons (pures_tIns cs ss) (pures1 (pure_vint b))) ?_
  unfold c_theorboref01_Transpose tIns
  repeat (first | with_reducible refine x_ops ?_ | (simp only [go_sem, Nat.reduceAdd, Nat.reduceEqDiff, Nat.reduceLT, Nat.reduceLeDiff, Nat.reduceMul, Nat.reduceSub, reduceIte, splice, vfill]))
  refine x_call none (rcheck_fn cs ss) (by (simp only [go_sem, reduceIte, Nat.reduceEqDiff, V.norms, V.norm]); rfl) ?_
  repeat (first | with_reducible refine x_ops ?_ | (simp only [go_sem, Nat.reduceAdd, Nat.reduceEqDiff, Nat.reduceLT, Nat.reduceLeDiff, Nat.reduceMul, Nat.reduceSub, reduceIte, splice, vfill]))
  refine x_if (fun ht => ?_) (fun ht => ?_)
  · repeat (first | with_reducible refine x_ops ?_ | (simp only [go_sem, Nat.reduceAdd, Nat.reduceEqDiff, Nat.reduceLT, Nat.reduceLeDiff, Nat.reduceMul, Nat.reduceSub, reduceIte, splice, vfill]))
    have h0 : chk cs ss ≠ 0 := by simpa using ht
    rw [transV, if_neg h0]
    exact finV_ret (r' := _) (by (simp only [go_sem, Nat.reduceAdd, Nat.reduceEqDiff, Nat.reduceLT, Nat.reduceLeDiff, Nat.reduceMul, Nat.reduceSub, reduceIte, resV, resAll, resOne, oneOr]); try rfl) (vw_pair vw_none)
  · have h0 : chk cs ss = 0 := by simpa using ht
    rw [transV, if_pos h0]
    have hsm := chk_small h0
    have hne := chk_ne h0
    have hn0 : cs.length ≠ 0 := fun e => hne (List.eq_nil_of_length_eq_zero e)
    by_cases h3 : b < -127
    · rw [if_pos (.inl h3)]
      have d2 : decide (b < -127) = true := by simpa using h3
      repeat (first | with_reducible refine x_ops ?_ | (simp only [go_sem, Nat.reduceAdd, Nat.reduceEqDiff, Nat.reduceLT, Nat.reduceLeDiff, Nat.reduceMul, Nat.reduceSub, reduceIte, splice, vfill, d2, tCrs, tInts]))
      exact finV_ret (r' := _) (by (simp only [go_sem, Nat.reduceAdd, Nat.reduceEqDiff, Nat.reduceLT, Nat.reduceLeDiff, Nat.reduceMul, Nat.reduceSub, reduceIte, resV, resAll, resOne, oneOr]); try rfl) (vw_pair vw_none)
    have d2 : decide (b < -127) = false := by simpa using h3
    by_cases h4 : b > 127
    · rw [if_pos (.inr h4)]
      have d3 : decide (b > 127) = true := by simpa using h4
      repeat (first | with_reducible refine x_ops ?_ | (simp only [go_sem, Nat.reduceAdd, Nat.reduceEqDiff, Nat.reduceLT, Nat.reduceLeDiff, Nat.reduceMul, Nat.reduceSub, reduceIte, splice, vfill, d2, d3, tCrs, tInts]))
      exact finV_ret (r' := _) (by (simp only [go_sem, Nat.reduceAdd, Nat.reduceEqDiff, Nat.reduceLT, Nat.reduceLeDiff, Nat.reduceMul, Nat.reduceSub, reduceIte, resV, resAll, resOne, oneOr]); try rfl) (vw_pair vw_none)
    have d3 : decide (b > 127) = false := by simpa using h4
    rw [if_neg (by omega)]
    repeat (first | with_reducible refine x_ops ?_ | (simp only [go_sem, Nat.reduceAdd, Nat.reduceEqDiff, Nat.reduceLT, Nat.reduceLeDiff, Nat.reduceMul, Nat.reduceSub, reduceIte, splice, vfill, d2, d3, tCrs, tInts]))
    refine x_scall (copy_sfn cs ss (by omega) (by omega) _) (by (simp only [go_sem, reduceIte, Nat.reduceEqDiff, V.norms, V.norm]); rfl) (CopyP.ex _ _ _) ?_
    rintro r m2 ⟨i, j, hi, hj, hij, hi2, hj2, rfl, ho1, ho2, hk⟩
    have hi' : 7 ≤ i := hi
    have hj' : 7 ≤ j := hj
    have hC : m2.obj 1 = some (.box [.sl 0 [] .exact, .sl 0 [] .exact] 39) := by
      rw [hk _ (by show 1 < 7; omega)]; simp only [put_obj, put_next, M0_next, freeze_obj, freeze_next, Nat.add_zero, Nat.zero_add, Nat.add_assoc, Nat.add_left_cancel_iff, Nat.add_eq_left, Nat.left_eq_add, decide_eq_true_eq, List.nil_append, List.append_nil, Nat.reduceAdd, Nat.reduceEqDiff, Nat.reduceLeDiff, Nat.reduceLT, reduceIte]
    clear hk hi hj
    have ho1 := ho1 hne
    have hbv : bv i cs.length = .bsl i 0 cs.length cs.length := if_neg hn0
    repeat (first | with_reducible refine x_ops ?_ | (simp only [go_sem, Nat.reduceAdd, Nat.reduceEqDiff, Nat.reduceLT, Nat.reduceLeDiff, Nat.reduceMul, Nat.reduceSub, reduceIte, splice, vfill, hC, tCrs, tInts]))
    refine goR_ifm (by unfold bv; by_cases e1 : cs.length = 0 <;> by_cases e2 : ss.length = 0 <;> simp [e1, e2]) ?_
    repeat (first | with_reducible refine x_ops ?_ | (simp only [go_sem, Nat.reduceAdd, Nat.reduceEqDiff, Nat.reduceLT, Nat.reduceLeDiff, Nat.reduceMul, Nat.reduceSub, reduceIte, hC, hbv]))
    have n5i : ¬ (i = 5) := by omega
    have n5j : ¬ (j = 5) := by omega
    refine x_loop (TsI cs ss b i j) (fun s => cs.length - numOf (s.t 8)) ?_ ?_
    · refine ⟨0, Nat.zero_le _, rfl, rfl, rfl, rfl, ?_, ?_, ?_, fun h => ?_, ?_, hi2⟩
      · simp only [put_obj, put_next, M0_next, freeze_obj, freeze_next, Nat.add_zero, Nat.zero_add, Nat.add_assoc, Nat.add_left_cancel_iff, Nat.add_eq_left, Nat.left_eq_add, decide_eq_true_eq, List.nil_append, List.append_nil, Nat.reduceAdd, Nat.reduceEqDiff, Nat.reduceLeDiff, Nat.reduceLT, reduceIte]
        exact hC
      · rw [hbv]
        simp only [put_obj, put_next, M0_next, freeze_obj, freeze_next, Nat.add_zero, Nat.zero_add, Nat.add_assoc, Nat.add_left_cancel_iff, Nat.add_eq_left, Nat.left_eq_add, decide_eq_true_eq, List.nil_append, List.append_nil, Nat.reduceAdd, Nat.reduceEqDiff, Nat.reduceLeDiff, Nat.reduceLT, reduceIte]
      · simp only [put_obj, put_next, M0_next, freeze_obj, freeze_next, Nat.add_zero, Nat.zero_add, Nat.add_assoc, Nat.add_left_cancel_iff, Nat.add_eq_left, Nat.left_eq_add, decide_eq_true_eq, List.nil_append, List.append_nil, Nat.reduceAdd, Nat.reduceEqDiff, Nat.reduceLeDiff, Nat.reduceLT, reduceIte]
        simp only [if_neg n5i]
        rw [mapT_zero]; exact ho1
      · simp only [put_obj, put_next, M0_next, freeze_obj, freeze_next, Nat.add_zero, Nat.zero_add, Nat.add_assoc, Nat.add_left_cancel_iff, Nat.add_eq_left, Nat.left_eq_add, decide_eq_true_eq, List.nil_append, List.append_nil, Nat.reduceAdd, Nat.reduceEqDiff, Nat.reduceLeDiff, Nat.reduceLT, reduceIte]
        simp only [if_neg n5j]
        exact ho2 h
      · show 6 ≤ m2.next; omega
    · rintro s ⟨k, hk, h8, h1, h7, h4', oC, oD, oI, oJ, hnx, hix⟩
      have hw1 : IntKind.i64.wrap ((k : Int) + 1) = ((k + 1 : Nat) : Int) := by rw [IntWalk.i64_in _ (by omega)]; omega
      rw [hbv] at oD
      have hr5 : 5 < s.m.next := by omega
      repeat (first | with_reducible refine x_ops ?_ | (simp only [go_sem, Nat.reduceAdd, Nat.reduceEqDiff, Nat.reduceLT, Nat.reduceLeDiff, Nat.reduceMul, Nat.reduceSub, reduceIte, h8, h7, oD]))
      refine x_if (fun hlt => ?_) (fun hge => ?_)
      · have hlt : k < cs.length := by simpa using hlt
        have hlti : ((k : Nat) : Int) < cs.length := by omega
        have hl : k < (mapT (upBy b) cs k).length := by rw [mapT_length]; exact hlt
        have gp := crs_p hl
        have hs := splice_p hl (IntKind.i64.wrap ((cs.getD k default).p + b))
        rw [mapT_at hlt] at gp hs
        have e2 : (mapT (upBy b) cs k).set k ⟨IntKind.i64.wrap ((cs.getD k default).p + b), (cs.getD k default).f, (cs.getD k default).o⟩ = mapT (upBy b) cs (k + 1) := mapT_succ hlt
        rw [e2] at hs
        have lT := crs_len (mapT (upBy b) cs k)
        rw [mapT_length] at lT
        have b2 : k * 3 + 1 ≤ cs.length * 3 := by omega
        simp only [vint] at gp hs
        repeat (first | with_reducible refine x_ops ?_ | (simp only [go_sem, Nat.reduceAdd, Nat.reduceEqDiff, Nat.reduceLT, Nat.reduceLeDiff, Nat.reduceMul, Nat.reduceSub, reduceIte, h8, h1, h7, oD, oI, hr5, hix, hlti, gp, hs, lT, b2, hw1]))
        refine ⟨⟨k + 1, hlt, rfl, h1, h7, h4', ?_, ?_, ?_, fun h => ?_, hnx, hix⟩, ?_⟩
        · simp only [put_obj, put_next, M0_next, freeze_obj, freeze_next, Nat.add_zero, Nat.zero_add, Nat.add_assoc, Nat.add_left_cancel_iff, Nat.add_eq_left, Nat.left_eq_add, decide_eq_true_eq, List.nil_append, List.append_nil, Nat.reduceAdd, Nat.reduceEqDiff, Nat.reduceLeDiff, Nat.reduceLT, reduceIte]
          rw [if_neg (by omega)]; exact oC
        · simp only [put_obj, put_next, M0_next, freeze_obj, freeze_next, Nat.add_zero, Nat.zero_add, Nat.add_assoc, Nat.add_left_cancel_iff, Nat.add_eq_left, Nat.left_eq_add, decide_eq_true_eq, List.nil_append, List.append_nil, Nat.reduceAdd, Nat.reduceEqDiff, Nat.reduceLeDiff, Nat.reduceLT, reduceIte]
          rw [if_neg (by omega), hbv]; exact oD
        · simp only [put_obj, put_next, M0_next, freeze_obj, freeze_next, Nat.add_zero, Nat.zero_add, Nat.add_assoc, Nat.add_left_cancel_iff, Nat.add_eq_left, Nat.left_eq_add, decide_eq_true_eq, List.nil_append, List.append_nil, Nat.reduceAdd, Nat.reduceEqDiff, Nat.reduceLeDiff, Nat.reduceLT, reduceIte]
        · simp only [put_obj, put_next, M0_next, freeze_obj, freeze_next, Nat.add_zero, Nat.zero_add, Nat.add_assoc, Nat.add_left_cancel_iff, Nat.add_eq_left, Nat.left_eq_add, decide_eq_true_eq, List.nil_append, List.append_nil, Nat.reduceAdd, Nat.reduceEqDiff, Nat.reduceLeDiff, Nat.reduceLT, reduceIte]
          rw [if_neg (Ne.symm hij)]; exact oJ h
        · simp [numOf]; omega
      · have hge : ¬ k < cs.length := by simpa using hge
        rw [mapT_all (by omega)] at oI
        repeat (first | with_reducible refine x_ops ?_ | (simp only [go_sem, Nat.reduceAdd, Nat.reduceEqDiff, Nat.reduceLT, Nat.reduceLeDiff, Nat.reduceMul, Nat.reduceSub, reduceIte, h7, oD]))
        refine x_cut (from7 6) (checked_fn (cs.map (upBy b)) ss) ?_ ?_
        · simp only [go_sem, reduceIte, Nat.reduceEqDiff, V.norms, V.norm]
          have h := vw_ins (m := s.m) (S := from7 6) (i := i) (j := j) (n := cs.length) (k := ss.length) (cs := cs.map (upBy b)) (ss := ss) (by simp [from7]; omega) (by simp [from7]; omega) (List.length_map _) rfl (fun _ => oI) (fun h => oJ (cellNe h))
          rw [hbv] at h
          exact h
        obtain ⟨c, s', e, hT⟩ := tunV_is (cs.map (upBy b)) ss
        rw [hT]
        repeat (first | with_reducible refine x_ops ?_ | (simp only [go_sem, Nat.reduceAdd, Nat.reduceEqDiff, Nat.reduceLT, Nat.reduceLeDiff, Nat.reduceMul, Nat.reduceSub, reduceIte, splice, vfill, h4', oC, from7, tIns, tCrs, tInts]))
        exact finV_ret (r' := _) (by (simp only [go_sem, Nat.reduceAdd, Nat.reduceEqDiff, Nat.reduceLT, Nat.reduceLeDiff, Nat.reduceMul, Nat.reduceSub, reduceIte, resV, resAll, resOne, oneOr, h4']); try rfl) (vw_pair (vw_tIns c s'))
end Go.Proofs.YtbdhjpdjbogggaaDoor
