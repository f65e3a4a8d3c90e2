/- Contracts on values: small functions of the laws; copies that may be written. -/
import Derived.Test.YtbdhjpdjbogggaaDoorX1
import Derived.Test.YtbdhjpdjbogggaaDoorP2
import Derived.Test.YtbdhjpdjbogggaaDoorVu
import Derived.Test.YtbdhjpdjbogggaaDoorR4
import Derived.Test.YtbdhjpdjbogggaaDoorR5
import Derived.Test.YtbdhjpdjbogggaaDoorR6
import Derived.Test.YtbdhjpdjbogggaaDoorR7
import Derived.Test.YtbdhjpdjbogggaaDoorR8
import Derived.Test.YtbdhjpdjbogggaaDoorW12
import Derived.Test.YtbdhjpdjbogggaaDoorW14
namespace Go.Proofs.YtbdhjpdjbogggaaDoor
open Go.RowKit
set_option linter.unusedSimpArgs false
set_option linter.unusedVariables false

/-- A contract of the machine's own with a scalar result. -/
theorem fn_flat {f : FuncId} {args : List V} {r : V} {v : Value} (hr : ∀ E, VR E r v) (h : ∀ (E : Env) (w : World) (cargs : Array Value), GOk E.M → (∀ b o v, E.M b o = some v → w.cell? ⟨b, o, none⟩ = some v) → VRs E args cargs.toList →
    Calls Tryd.prog f cargs w fun e w' => e = .returned v ∧ Below w.heap.size w w') : Fn Tryd.prog Gd f args r :=
  Fn.of_calls fun E w cargs hG hst hv => by
    refine (h E w cargs hG hst hv).mono ?_
    rintro e w' ⟨rfl, hb⟩
    exact ⟨_, rfl, hb, E.M, fun _ _ _ x => x, fun _ _ _ => rfl, fun b o v hM => by rw [hb.cell (p := ⟨b, o, none⟩) (cell_lt (hst _ _ _ hM))]; exact hst _ _ _ hM, hr _⟩
theorem one_arg {E : Env} {x : V} {cargs : Array Value} (h : VRs E [x] cargs.toList) : ∃ c, cargs = #[c] ∧ VR E x c := by
  obtain ⟨c, hc, hr⟩ := VRs_one h
  exact ⟨c, Array.ext' hc, hr⟩
theorem two_args {E : Env} {x y : V} {cargs : Array Value} (h : VRs E [x, y] cargs.toList) : ∃ c d, cargs = #[c, d] ∧ VR E x c ∧ VR E y d := by
  obtain ⟨c, d, hc, hr⟩ := VRs_two h
  exact ⟨c, d, Array.ext' hc, hr⟩

theorem rcheck_fn (cs : List Crs) (ss : List Int) : Fn Tryd.prog Gd 31 [tIns cs ss] (vint (chk cs ss)) :=
  fn_flat (fun _ => VR_mk rfl) fun E w cargs hG hst hv => by
    obtain ⟨c, rfl, hr⟩ := one_arg hv
    obtain ⟨A, C, cc, kc, rfl, hA, hC⟩ := open_tIns hst hr
    exact rcheck_any A C _ cc _ kc cs ss w hA hC
theorem big_fn (cs : List Crs) (ss : List Int) : Fn Tryd.prog Gd 26 [tIns cs ss] (vbool (decide (64 < cs.length) || decide (64 < ss.length))) :=
  fn_flat (fun _ => VR_mk rfl) fun E w cargs hG hst hv => by
    obtain ⟨c, rfl, hr⟩ := one_arg hv
    obtain ⟨A, C, cc, kc, rfl, hA, hC⟩ := open_tIns hst hr
    exact big_any A C _ cc _ kc w
theorem works_fn : Fn Tryd.prog Gd 23 [] (vbool true) :=
  fn_flat (fun _ => VR_mk rfl) fun E w cargs hG hst hv => by
    rw [VRs] at hv
    obtain rfl : cargs = #[] := Array.ext' hv
    exact works_any w (gnd_w hG hst)
theorem rsame_fn (cs cs2 : List Crs) (ss ss2 : List Int) (h1 : cs.length ≤ 1000000) (h2 : ss.length ≤ 1000000) : Fn Tryd.prog Gd 34 [tIns cs ss, tIns cs2 ss2] (vbool (decide (cs = cs2) && decide (ss = ss2))) :=
  fn_flat (fun _ => VR_mk rfl) fun E w cargs hG hst hv => by
    obtain ⟨c, d, rfl, hr, hr2⟩ := two_args hv
    obtain ⟨A, C, cc, kc, rfl, hA, hC⟩ := open_tIns hst hr
    obtain ⟨A2, C2, cc2, kc2, rfl, hA2, hC2⟩ := open_tIns hst hr2
    exact rsame_any A C A2 C2 _ cc _ kc _ cc2 _ kc2 cs cs2 ss ss2 w hA hC hA2 hC2 h1 h2
theorem same_fn (cs cs2 : List Crs) (ss ss2 : List Int) (h1 : cs.length ≤ 1000000) (h2 : ss.length ≤ 1000000) : Fn Tryd.prog Gd 39 [tIns cs ss, tIns cs2 ss2] (vbool (decide (cs = cs2) && decide (ss = ss2))) :=
  fn_flat (fun _ => VR_mk rfl) fun E w cargs hG hst hv => by
    obtain ⟨c, d, rfl, hr, hr2⟩ := two_args hv
    obtain ⟨A, C, cc, kc, rfl, hA, hC⟩ := open_tIns hst hr
    obtain ⟨A2, C2, cc2, kc2, rfl, hA2, hC2⟩ := open_tIns hst hr2
    exact same_any A C A2 C2 _ cc _ kc _ cc2 _ kc2 cs cs2 ss ss2 w hA hC hA2 hC2 h1 h2

/-- A slice that may be written: a box, unless it is empty. -/
def bv (i n : Nat) : V := if n = 0 then .sl 0 [] .exact else .bsl i 0 n n
/-- What a copy is. -/
def CopyP (cs : List Crs) (ss : List Int) (m : Mm) (r : V) (m' : Mm) : Prop := ∃ i j, m.next ≤ i ∧ m.next ≤ j ∧ i ≠ j ∧ i < m'.next ∧ j < m'.next ∧ r = .agg [bv i cs.length, bv j ss.length] ∧
  (cs ≠ [] → m'.obj i = some (.box (lits (cells3 cs)) 59)) ∧ (ss ≠ [] → m'.obj j = some (.box (lits (ss.map (Value.int .i64))) 3)) ∧ ∀ q, q < m.next → m'.obj q = m.obj q

theorem copy_sfn (cs : List Crs) (ss : List Int) (h1 : cs.length ≤ 1000000) (h2 : ss.length ≤ 1000000) (m : Mm) : SFn Tryd.prog Gd 28 [tIns cs ss] m (CopyP cs ss m) := by
  refine SFn.of_vxS k_theorboref01_Copy_b (by simp) ?_
  unfold c_theorboref01_Copy_b tIns
  have hrd : m.next < m.next + 2 := by omega
  have l1 : (lits (cells3 cs)).length = cs.length * 3 := by rw [lits_length, cells3_length]
  have l2 : (lits (ss.map (Value.int .i64))).length = ss.length * 1 := by rw [lits_length]; simp
  repeat (first | with_reducible refine x_condF ?_ | with_reducible refine x_condT ?_ | with_reducible refine x_seq ?_ | with_reducible refine x_ops ?_ | with_reducible refine x_block ?_ | with_reducible refine x_skip ?_ | with_reducible refine x_ret ?_ | with_reducible refine x_exit ?_ | with_reducible refine x_cond ?_ | with_reducible refine x_scope ?_ | (simp only [goR, VO.stops, beq_self_eq_true, Bool.false_beq, Bool.true_beq, Bool.not_true, Bool.not_false, Bool.false_eq_true, if_false, exo, VI.on, if_true, exoOp, pureSem, List.map_cons, List.map_nil, St.ev, initT, Option.map_some, putT_get, putT_none, put_obj, put_next, List.getD_cons_zero, List.getD_cons_succ, List.getD_nil, V.cells, rdable, Nat.add_assoc, Nat.reduceAdd, Nat.add_zero, Nat.add_left_cancel_iff, Nat.add_eq_left, Nat.left_eq_add, Nat.reduceEqDiff, Nat.reduceLT, Nat.reduceLeDiff, Nat.reduceMul, Nat.reduceSub, reduceIte, decide_true, Bool.true_or, ite_self, onB, vbinI, vint, vbool, List.drop_zero, List.take_succ_cons, List.drop_succ_cons, List.take_zero, List.length_cons, List.length_nil, List.getElem?_cons_zero, List.getElem?_cons_succ, decide_eq_true_eq, true_and, and_true, Nat.le_refl, splice, vfill, List.zip_cons_cons, List.zip_nil_left, V.pubs, V.pub, Option.bind_some, List.all_cons, List.all_nil, V.one, Bool.and_self, List.cons_append, List.nil_append, VX.then, VX.inBlock, Int.toNat_natCast, Int.natCast_nonneg, tCrs, tInts, hrd]))
  refine x_appB (n := 0) (xs := []) (j := cs.length) (ys := lits (cells3 cs)) (k2 := .no) rfl rfl rfl l1 (by omega) (by unfold maxLen; omega) ?_
  split
  · rename_i h0
    repeat (first | with_reducible refine x_condF ?_ | with_reducible refine x_condT ?_ | with_reducible refine x_seq ?_ | with_reducible refine x_ops ?_ | with_reducible refine x_block ?_ | with_reducible refine x_skip ?_ | with_reducible refine x_ret ?_ | with_reducible refine x_exit ?_ | with_reducible refine x_cond ?_ | with_reducible refine x_scope ?_ | (simp only [goR, VO.stops, beq_self_eq_true, Bool.false_beq, Bool.true_beq, Bool.not_true, Bool.not_false, Bool.false_eq_true, if_false, exo, VI.on, if_true, exoOp, pureSem, List.map_cons, List.map_nil, St.ev, initT, Option.map_some, putT_get, putT_none, put_obj, put_next, List.getD_cons_zero, List.getD_cons_succ, List.getD_nil, V.cells, rdable, Nat.add_assoc, Nat.reduceAdd, Nat.add_zero, Nat.add_left_cancel_iff, Nat.add_eq_left, Nat.left_eq_add, Nat.reduceEqDiff, Nat.reduceLT, Nat.reduceLeDiff, Nat.reduceMul, Nat.reduceSub, reduceIte, decide_true, Bool.true_or, ite_self, onB, vbinI, vint, vbool, List.drop_zero, List.take_succ_cons, List.drop_succ_cons, List.take_zero, List.length_cons, List.length_nil, List.getElem?_cons_zero, List.getElem?_cons_succ, decide_eq_true_eq, true_and, and_true, Nat.le_refl, splice, vfill, List.zip_cons_cons, List.zip_nil_left, V.pubs, V.pub, Option.bind_some, List.all_cons, List.all_nil, V.one, Bool.and_self, List.cons_append, List.nil_append, VX.then, VX.inBlock, Int.toNat_natCast, Int.natCast_nonneg, tCrs, tInts, hrd]))
    refine x_appB (n := 0) (xs := []) (j := ss.length) (ys := lits (ss.map (Value.int .i64))) (k2 := .no) rfl rfl rfl l2 (by omega) (by unfold maxLen; omega) ?_
    split
    · rename_i h1
      repeat (first | with_reducible refine x_condF ?_ | with_reducible refine x_condT ?_ | with_reducible refine x_seq ?_ | with_reducible refine x_ops ?_ | with_reducible refine x_block ?_ | with_reducible refine x_skip ?_ | with_reducible refine x_ret ?_ | with_reducible refine x_exit ?_ | with_reducible refine x_cond ?_ | with_reducible refine x_scope ?_ | (simp only [goR, VO.stops, beq_self_eq_true, Bool.false_beq, Bool.true_beq, Bool.not_true, Bool.not_false, Bool.false_eq_true, if_false, exo, VI.on, if_true, exoOp, pureSem, List.map_cons, List.map_nil, St.ev, initT, Option.map_some, putT_get, putT_none, put_obj, put_next, List.getD_cons_zero, List.getD_cons_succ, List.getD_nil, V.cells, rdable, Nat.add_assoc, Nat.reduceAdd, Nat.add_zero, Nat.add_left_cancel_iff, Nat.add_eq_left, Nat.left_eq_add, Nat.reduceEqDiff, Nat.reduceLT, Nat.reduceLeDiff, Nat.reduceMul, Nat.reduceSub, reduceIte, decide_true, Bool.true_or, ite_self, onB, vbinI, vint, vbool, List.drop_zero, List.take_succ_cons, List.drop_succ_cons, List.take_zero, List.length_cons, List.length_nil, List.getElem?_cons_zero, List.getElem?_cons_succ, decide_eq_true_eq, true_and, and_true, Nat.le_refl, splice, vfill, List.zip_cons_cons, List.zip_nil_left, V.pubs, V.pub, Option.bind_some, List.all_cons, List.all_nil, V.one, Bool.and_self, List.cons_append, List.nil_append, VX.then, VX.inBlock, Int.toNat_natCast, Int.natCast_nonneg, tCrs, tInts, hrd]))
      refine finS_ret (r := _) (by (simp only [resV, resAll, resOne, putT_get, reduceIte, Nat.reduceEqDiff, Option.bind_some, Option.map_some, oneOr, put_obj, put_next, Nat.add_zero, Nat.add_left_cancel_iff, Nat.add_eq_left, Nat.left_eq_add, List.drop_zero, List.take_succ_cons, List.take_zero, List.length_cons, List.length_nil, V.pub, V.pubs, vint, vbool]); rfl) ⟨m.next + 5, m.next + 9, by omega, by omega, by omega, (by show _ < m.next + 12; omega), (by show _ < m.next + 12; omega), (by simp [bv, oneOr, h0, h1]), (fun h => absurd (List.eq_nil_of_length_eq_zero h0) h), (fun h => absurd (List.eq_nil_of_length_eq_zero h1) h), fun q hq => ?_⟩
      simp only [put_obj, put_next, Nat.add_zero, Nat.add_assoc, Nat.reduceAdd, Nat.add_left_cancel_iff, Nat.add_eq_left, Nat.left_eq_add, Nat.reduceEqDiff, reduceIte, List.nil_append, List.append_nil]
      repeat rw [if_neg (by omega)]
    · rename_i h1
      repeat (first | with_reducible refine x_condF ?_ | with_reducible refine x_condT ?_ | with_reducible refine x_seq ?_ | with_reducible refine x_ops ?_ | with_reducible refine x_block ?_ | with_reducible refine x_skip ?_ | with_reducible refine x_ret ?_ | with_reducible refine x_exit ?_ | with_reducible refine x_cond ?_ | with_reducible refine x_scope ?_ | (simp only [goR, VO.stops, beq_self_eq_true, Bool.false_beq, Bool.true_beq, Bool.not_true, Bool.not_false, Bool.false_eq_true, if_false, exo, VI.on, if_true, exoOp, pureSem, List.map_cons, List.map_nil, St.ev, initT, Option.map_some, putT_get, putT_none, put_obj, put_next, List.getD_cons_zero, List.getD_cons_succ, List.getD_nil, V.cells, rdable, Nat.add_assoc, Nat.reduceAdd, Nat.add_zero, Nat.add_left_cancel_iff, Nat.add_eq_left, Nat.left_eq_add, Nat.reduceEqDiff, Nat.reduceLT, Nat.reduceLeDiff, Nat.reduceMul, Nat.reduceSub, reduceIte, decide_true, Bool.true_or, ite_self, onB, vbinI, vint, vbool, List.drop_zero, List.take_succ_cons, List.drop_succ_cons, List.take_zero, List.length_cons, List.length_nil, List.getElem?_cons_zero, List.getElem?_cons_succ, decide_eq_true_eq, true_and, and_true, Nat.le_refl, splice, vfill, List.zip_cons_cons, List.zip_nil_left, V.pubs, V.pub, Option.bind_some, List.all_cons, List.all_nil, V.one, Bool.and_self, List.cons_append, List.nil_append, VX.then, VX.inBlock, Int.toNat_natCast, Int.natCast_nonneg, tCrs, tInts, hrd]))
      refine finS_ret (r := _) (by (simp only [resV, resAll, resOne, putT_get, reduceIte, Nat.reduceEqDiff, Option.bind_some, Option.map_some, oneOr, put_obj, put_next, Nat.add_zero, Nat.add_left_cancel_iff, Nat.add_eq_left, Nat.left_eq_add, List.drop_zero, List.take_succ_cons, List.take_zero, List.length_cons, List.length_nil, V.pub, V.pubs, vint, vbool]); rfl) ⟨m.next + 5, m.next + 9, by omega, by omega, by omega, (by show _ < m.next + 12; omega), (by show _ < m.next + 12; omega), (by simp [bv, oneOr, h0, h1]), (fun h => absurd (List.eq_nil_of_length_eq_zero h0) h), (fun h => by simp only [put_obj, put_next, Nat.add_zero, Nat.add_assoc, Nat.reduceAdd, Nat.add_left_cancel_iff, Nat.add_eq_left, Nat.left_eq_add, Nat.reduceEqDiff, reduceIte, List.nil_append, List.append_nil]), fun q hq => ?_⟩
      simp only [put_obj, put_next, Nat.add_zero, Nat.add_assoc, Nat.reduceAdd, Nat.add_left_cancel_iff, Nat.add_eq_left, Nat.left_eq_add, Nat.reduceEqDiff, reduceIte, List.nil_append, List.append_nil]
      repeat rw [if_neg (by omega)]
  · rename_i h0
    repeat (first | with_reducible refine x_condF ?_ | with_reducible refine x_condT ?_ | with_reducible refine x_seq ?_ | with_reducible refine x_ops ?_ | with_reducible refine x_block ?_ | with_reducible refine x_skip ?_ | with_reducible refine x_ret ?_ | with_reducible refine x_exit ?_ | with_reducible refine x_cond ?_ | with_reducible refine x_scope ?_ | (simp only [goR, VO.stops, beq_self_eq_true, Bool.false_beq, Bool.true_beq, Bool.not_true, Bool.not_false, Bool.false_eq_true, if_false, exo, VI.on, if_true, exoOp, pureSem, List.map_cons, List.map_nil, St.ev, initT, Option.map_some, putT_get, putT_none, put_obj, put_next, List.getD_cons_zero, List.getD_cons_succ, List.getD_nil, V.cells, rdable, Nat.add_assoc, Nat.reduceAdd, Nat.add_zero, Nat.add_left_cancel_iff, Nat.add_eq_left, Nat.left_eq_add, Nat.reduceEqDiff, Nat.reduceLT, Nat.reduceLeDiff, Nat.reduceMul, Nat.reduceSub, reduceIte, decide_true, Bool.true_or, ite_self, onB, vbinI, vint, vbool, List.drop_zero, List.take_succ_cons, List.drop_succ_cons, List.take_zero, List.length_cons, List.length_nil, List.getElem?_cons_zero, List.getElem?_cons_succ, decide_eq_true_eq, true_and, and_true, Nat.le_refl, splice, vfill, List.zip_cons_cons, List.zip_nil_left, V.pubs, V.pub, Option.bind_some, List.all_cons, List.all_nil, V.one, Bool.and_self, List.cons_append, List.nil_append, VX.then, VX.inBlock, Int.toNat_natCast, Int.natCast_nonneg, tCrs, tInts, hrd]))
    refine x_appB (n := 0) (xs := []) (j := ss.length) (ys := lits (ss.map (Value.int .i64))) (k2 := .no) rfl rfl rfl l2 (by omega) (by unfold maxLen; omega) ?_
    split
    · rename_i h1
      repeat (first | with_reducible refine x_condF ?_ | with_reducible refine x_condT ?_ | with_reducible refine x_seq ?_ | with_reducible refine x_ops ?_ | with_reducible refine x_block ?_ | with_reducible refine x_skip ?_ | with_reducible refine x_ret ?_ | with_reducible refine x_exit ?_ | with_reducible refine x_cond ?_ | with_reducible refine x_scope ?_ | (simp only [goR, VO.stops, beq_self_eq_true, Bool.false_beq, Bool.true_beq, Bool.not_true, Bool.not_false, Bool.false_eq_true, if_false, exo, VI.on, if_true, exoOp, pureSem, List.map_cons, List.map_nil, St.ev, initT, Option.map_some, putT_get, putT_none, put_obj, put_next, List.getD_cons_zero, List.getD_cons_succ, List.getD_nil, V.cells, rdable, Nat.add_assoc, Nat.reduceAdd, Nat.add_zero, Nat.add_left_cancel_iff, Nat.add_eq_left, Nat.left_eq_add, Nat.reduceEqDiff, Nat.reduceLT, Nat.reduceLeDiff, Nat.reduceMul, Nat.reduceSub, reduceIte, decide_true, Bool.true_or, ite_self, onB, vbinI, vint, vbool, List.drop_zero, List.take_succ_cons, List.drop_succ_cons, List.take_zero, List.length_cons, List.length_nil, List.getElem?_cons_zero, List.getElem?_cons_succ, decide_eq_true_eq, true_and, and_true, Nat.le_refl, splice, vfill, List.zip_cons_cons, List.zip_nil_left, V.pubs, V.pub, Option.bind_some, List.all_cons, List.all_nil, V.one, Bool.and_self, List.cons_append, List.nil_append, VX.then, VX.inBlock, Int.toNat_natCast, Int.natCast_nonneg, tCrs, tInts, hrd]))
      refine finS_ret (r := _) (by (simp only [resV, resAll, resOne, putT_get, reduceIte, Nat.reduceEqDiff, Option.bind_some, Option.map_some, oneOr, put_obj, put_next, Nat.add_zero, Nat.add_left_cancel_iff, Nat.add_eq_left, Nat.left_eq_add, List.drop_zero, List.take_succ_cons, List.take_zero, List.length_cons, List.length_nil, V.pub, V.pubs, vint, vbool]); rfl) ⟨m.next + 5, m.next + 9, by omega, by omega, by omega, (by show _ < m.next + 12; omega), (by show _ < m.next + 12; omega), (by simp [bv, oneOr, h0, h1]), (fun h => by simp only [put_obj, put_next, Nat.add_zero, Nat.add_assoc, Nat.reduceAdd, Nat.add_left_cancel_iff, Nat.add_eq_left, Nat.left_eq_add, Nat.reduceEqDiff, reduceIte, List.nil_append, List.append_nil]), (fun h => absurd (List.eq_nil_of_length_eq_zero h1) h), fun q hq => ?_⟩
      simp only [put_obj, put_next, Nat.add_zero, Nat.add_assoc, Nat.reduceAdd, Nat.add_left_cancel_iff, Nat.add_eq_left, Nat.left_eq_add, Nat.reduceEqDiff, reduceIte, List.nil_append, List.append_nil]
      repeat rw [if_neg (by omega)]
    · rename_i h1
      repeat (first | with_reducible refine x_condF ?_ | with_reducible refine x_condT ?_ | with_reducible refine x_seq ?_ | with_reducible refine x_ops ?_ | with_reducible refine x_block ?_ | with_reducible refine x_skip ?_ | with_reducible refine x_ret ?_ | with_reducible refine x_exit ?_ | with_reducible refine x_cond ?_ | with_reducible refine x_scope ?_ | (simp only [goR, VO.stops, beq_self_eq_true, Bool.false_beq, Bool.true_beq, Bool.not_true, Bool.not_false, Bool.false_eq_true, if_false, exo, VI.on, if_true, exoOp, pureSem, List.map_cons, List.map_nil, St.ev, initT, Option.map_some, putT_get, putT_none, put_obj, put_next, List.getD_cons_zero, List.getD_cons_succ, List.getD_nil, V.cells, rdable, Nat.add_assoc, Nat.reduceAdd, Nat.add_zero, Nat.add_left_cancel_iff, Nat.add_eq_left, Nat.left_eq_add, Nat.reduceEqDiff, Nat.reduceLT, Nat.reduceLeDiff, Nat.reduceMul, Nat.reduceSub, reduceIte, decide_true, Bool.true_or, ite_self, onB, vbinI, vint, vbool, List.drop_zero, List.take_succ_cons, List.drop_succ_cons, List.take_zero, List.length_cons, List.length_nil, List.getElem?_cons_zero, List.getElem?_cons_succ, decide_eq_true_eq, true_and, and_true, Nat.le_refl, splice, vfill, List.zip_cons_cons, List.zip_nil_left, V.pubs, V.pub, Option.bind_some, List.all_cons, List.all_nil, V.one, Bool.and_self, List.cons_append, List.nil_append, VX.then, VX.inBlock, Int.toNat_natCast, Int.natCast_nonneg, tCrs, tInts, hrd]))
      refine finS_ret (r := _) (by (simp only [resV, resAll, resOne, putT_get, reduceIte, Nat.reduceEqDiff, Option.bind_some, Option.map_some, oneOr, put_obj, put_next, Nat.add_zero, Nat.add_left_cancel_iff, Nat.add_eq_left, Nat.left_eq_add, List.drop_zero, List.take_succ_cons, List.take_zero, List.length_cons, List.length_nil, V.pub, V.pubs, vint, vbool]); rfl) ⟨m.next + 5, m.next + 9, by omega, by omega, by omega, (by show _ < m.next + 12; omega), (by show _ < m.next + 12; omega), (by simp [bv, oneOr, h0, h1]), (fun h => by simp only [put_obj, put_next, Nat.add_zero, Nat.add_assoc, Nat.reduceAdd, Nat.add_left_cancel_iff, Nat.add_eq_left, Nat.left_eq_add, Nat.reduceEqDiff, reduceIte, List.nil_append, List.append_nil]), (fun h => by simp only [put_obj, put_next, Nat.add_zero, Nat.add_assoc, Nat.reduceAdd, Nat.add_left_cancel_iff, Nat.add_eq_left, Nat.left_eq_add, Nat.reduceEqDiff, reduceIte, List.nil_append, List.append_nil]), fun q hq => ?_⟩
      simp only [put_obj, put_next, Nat.add_zero, Nat.add_assoc, Nat.reduceAdd, Nat.add_left_cancel_iff, Nat.add_eq_left, Nat.left_eq_add, Nat.reduceEqDiff, reduceIte, List.nil_append, List.append_nil]
      repeat rw [if_neg (by omega)]
end Go.Proofs.YtbdhjpdjbogggaaDoor
