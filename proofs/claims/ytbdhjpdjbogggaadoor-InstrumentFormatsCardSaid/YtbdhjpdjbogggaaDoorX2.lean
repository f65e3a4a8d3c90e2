/- Contracts on values: small functions of the laws; copies that may be written. Contracts on values: copies that may be written. What a capo makes of an instrument, on lists. -/
import Derived.Test.YtbdhjpdjbogggaaDoorX1
import Derived.Test.YtbdhjpdjbogggaaDoorP2
import Derived.Test.YtbdhjpdjbogggaaDoorVt
import Derived.Test.YtbdhjpdjbogggaaDoorR4
import Derived.Test.YtbdhjpdjbogggaaDoorR5
import Derived.Test.YtbdhjpdjbogggaaDoorR6
import Derived.Test.YtbdhjpdjbogggaaDoorR7
import Derived.Test.YtbdhjpdjbogggaaDoorR8
import Derived.Test.YtbdhjpdjbogggaaDoorW12
import Derived.Test.YtbdhjpdjbogggaaDoorW14
namespace Go.Proofs.YtbdhjpdjbogggaaDoor
open Go.RowKit
attribute [local go_sem] vx_skip vx_ret vx_exit vx_seq vx_block vx_scope vx_cond vx_condT vx_condF gR_nil gR_cons VO.stops beq_self_eq_true Bool.false_beq Bool.true_beq Bool.not_true Bool.not_false Bool.false_eq_true if_false exo VI.on if_true exoOp pureSem List.map_cons List.map_nil St.ev initT Option.map_some putT_get putT_none put_obj put_next M0_next freeze_obj freeze_next List.getD_cons_zero List.getD_cons_succ List.getD_nil V.cells rdable Nat.add_assoc Nat.add_zero Nat.add_left_cancel_iff Nat.add_eq_left Nat.left_eq_add decide_true Bool.true_or ite_self onB vbinI vint vbool List.drop_zero List.take_succ_cons List.drop_succ_cons List.take_zero List.length_cons List.length_nil List.getElem?_cons_zero List.getElem?_cons_succ decide_eq_true_eq true_and and_true Nat.le_refl List.zip_cons_cons List.zip_nil_left V.pubs V.pub Option.bind_some List.all_cons List.all_nil V.one Bool.and_self List.cons_append List.nil_append then_nrm then_ret then_exit inB_nrm inB_ret inB_exit Int.toNat_natCast Int.natCast_nonneg eq_self Nat.zero_add Nat.mul_one
set_option linter.unusedSimpArgs false
set_option linter.unusedVariables false

/-- A contract of the machine's own with a scalar result. -/
theorem fn_flat {f : FuncId} {args : List V} {r : V} {v : Value} (hr : ∀ E, VR E r v) (h : ∀ (E : Env) (w : World) (cargs : Array Value), GOk E.M → (∀ b o v, E.M b o = some v → w.cell? ⟨b, o, none⟩ = some v) → VRs E args cargs.toList →
    Calls Tryd.prog f cargs w fun e w' => e = .returned v ∧ Below w.heap.size w w') : Fn Tryd.prog Gd f args r :=
  Fn.of_calls fun E w cargs hG hst hv => by
    refine (h E w cargs hG hst hv).mono ?_
    rintro e w' ⟨rfl, hb⟩
    exact ⟨_, rfl, hb, E.M, fun _ _ _ x => x, fun _ _ _ => rfl, fun b o v hM => by rw [hb.cell (p := ⟨b, o, none⟩) (cell_lt (hst _ _ _ hM))]; exact hst _ _ _ hM, hr _⟩
theorem one_arg {E : Env} {x : V} {cargs : Array Value} (h : VRs E [x] cargs.toList) : ∃ c, cargs = #[c] ∧ VR E x c := by
  obtain ⟨c, hc, hr⟩ := VRs_one h
  exact ⟨c, Array.ext' hc, hr⟩
theorem two_args {E : Env} {x y : V} {cargs : Array Value} (h : VRs E [x, y] cargs.toList) : ∃ c d, cargs = #[c, d] ∧ VR E x c ∧ VR E y d := by
  obtain ⟨c, d, hc, hr⟩ := VRs_two h
  exact ⟨c, d, Array.ext' hc, hr⟩

theorem rcheck_fn (cs : List Crs) (ss : List Int) : Fn Tryd.prog Gd 31 [tIns cs ss] (vint (chk cs ss)) :=
  fn_flat (fun _ => VR_mk rfl) fun E w cargs hG hst hv => by
    obtain ⟨c, rfl, hr⟩ := one_arg hv
    obtain ⟨A, C, cc, kc, rfl, hA, hC⟩ := open_tIns hst hr
    exact rcheck_any A C _ cc _ kc cs ss w hA hC
theorem big_fn (cs : List Crs) (ss : List Int) : Fn Tryd.prog Gd 26 [tIns cs ss] (vbool (decide (64 < cs.length) || decide (64 < ss.length))) :=
  fn_flat (fun _ => VR_mk rfl) fun E w cargs hG hst hv => by
    obtain ⟨c, rfl, hr⟩ := one_arg hv
    obtain ⟨A, C, cc, kc, rfl, hA, hC⟩ := open_tIns hst hr
    exact big_any A C _ cc _ kc w
theorem works_fn : Fn Tryd.prog Gd 23 [] (vbool true) :=
  fn_flat (fun _ => VR_mk rfl) fun E w cargs hG hst hv => by
    rw [VRs] at hv
    obtain rfl : cargs = #[] := Array.ext' hv
    exact works_any w (gnd_w hG hst)
theorem rsame_fn (cs cs2 : List Crs) (ss ss2 : List Int) (h1 : cs.length ≤ 1000000) (h2 : ss.length ≤ 1000000) : Fn Tryd.prog Gd 34 [tIns cs ss, tIns cs2 ss2] (vbool (decide (cs = cs2) && decide (ss = ss2))) :=
  fn_flat (fun _ => VR_mk rfl) fun E w cargs hG hst hv => by
    obtain ⟨c, d, rfl, hr, hr2⟩ := two_args hv
    obtain ⟨A, C, cc, kc, rfl, hA, hC⟩ := open_tIns hst hr
    obtain ⟨A2, C2, cc2, kc2, rfl, hA2, hC2⟩ := open_tIns hst hr2
    exact rsame_any A C A2 C2 _ cc _ kc _ cc2 _ kc2 cs cs2 ss ss2 w hA hC hA2 hC2 h1 h2
theorem same_fn (cs cs2 : List Crs) (ss ss2 : List Int) (h1 : cs.length ≤ 1000000) (h2 : ss.length ≤ 1000000) : Fn Tryd.prog Gd 39 [tIns cs ss, tIns cs2 ss2] (vbool (decide (cs = cs2) && decide (ss = ss2))) :=
  fn_flat (fun _ => VR_mk rfl) fun E w cargs hG hst hv => by
    obtain ⟨c, d, rfl, hr, hr2⟩ := two_args hv
    obtain ⟨A, C, cc, kc, rfl, hA, hC⟩ := open_tIns hst hr
    obtain ⟨A2, C2, cc2, kc2, rfl, hA2, hC2⟩ := open_tIns hst hr2
    exact same_any A C A2 C2 _ cc _ kc _ cc2 _ kc2 cs cs2 ss ss2 w hA hC hA2 hC2 h1 h2

/-- A slice that may be written: a box, unless it is empty. -/
def bv (i n : Nat) : V := if n = 0 then .sl 0 [] .exact else .bsl i 0 n n
/-- What a copy is. -/
def CopyP (cs : List Crs) (ss : List Int) (m : Mm) (r : V) (m' : Mm) : Prop := ∃ i j, m.next ≤ i ∧ m.next ≤ j ∧ i ≠ j ∧ i < m'.next ∧ j < m'.next ∧ r = .agg [bv i cs.length, bv j ss.length] ∧
  (cs ≠ [] → m'.obj i = some (.box (lits (cells3 cs)) 59)) ∧ (ss ≠ [] → m'.obj j = some (.box (lits (ss.map (Value.int .i64))) 3)) ∧ ∀ q, q < m.next → m'.obj q = m.obj q

theorem copy_sfn (cs : List Crs) (ss : List Int) (h1 : cs.length ≤ 1000000) (h2 : ss.length ≤ 1000000) (m : Mm) : SFn Tryd.prog Gd 28 [tIns cs ss] m (CopyP cs ss m) := by
  refine SFn.of_vxS k_theorboref01_Copy_b (by simp) ?_
  unfold c_theorboref01_Copy_b tIns
  have hrd : m.next < m.next + 2 := by omega
  have l1 : (lits (cells3 cs)).length = cs.length * 3 := by rw [lits_length, cells3_length]
  have l2 : (lits (ss.map (Value.int .i64))).length = ss.length * 1 := by rw [lits_length]; simp
  repeat (first | with_reducible refine x_ops ?_ | (simp only [go_sem, Nat.reduceAdd, Nat.reduceEqDiff, Nat.reduceLT, Nat.reduceLeDiff, Nat.reduceMul, Nat.reduceSub, reduceIte, splice, vfill, tCrs, tInts, hrd]))
  refine x_appB (n := 0) (xs := []) (j := cs.length) (ys := lits (cells3 cs)) (k2 := .no) rfl rfl rfl l1 (by omega) (by unfold maxLen; omega) ?_
  split
  · rename_i h0
    repeat (first | with_reducible refine x_ops ?_ | (simp only [go_sem, Nat.reduceAdd, Nat.reduceEqDiff, Nat.reduceLT, Nat.reduceLeDiff, Nat.reduceMul, Nat.reduceSub, reduceIte, splice, vfill, tCrs, tInts, hrd]))
    refine x_appB (n := 0) (xs := []) (j := ss.length) (ys := lits (ss.map (Value.int .i64))) (k2 := .no) rfl rfl rfl l2 (by omega) (by unfold maxLen; omega) ?_
    split
    · rename_i h1
      repeat (first | with_reducible refine x_ops ?_ | (simp only [go_sem, Nat.reduceAdd, Nat.reduceEqDiff, Nat.reduceLT, Nat.reduceLeDiff, Nat.reduceMul, Nat.reduceSub, reduceIte, splice, vfill, tCrs, tInts, hrd]))
      refine finS_ret (r := _) (by (simp only [go_sem, Nat.reduceAdd, Nat.reduceEqDiff, Nat.reduceLT, Nat.reduceLeDiff, Nat.reduceMul, Nat.reduceSub, reduceIte, resV, resAll, resOne, oneOr]); try rfl) ⟨m.next + 5, m.next + 9, by omega, by omega, by omega, (by show _ < m.next + 12; omega), (by show _ < m.next + 12; omega), (by simp [bv, oneOr, h0, h1]), (fun h => absurd (List.eq_nil_of_length_eq_zero h0) h), (fun h => absurd (List.eq_nil_of_length_eq_zero h1) h), fun q hq => ?_⟩
      simp only [put_obj, put_next, M0_next, freeze_obj, freeze_next, Nat.add_zero, Nat.zero_add, Nat.add_assoc, Nat.add_left_cancel_iff, Nat.add_eq_left, Nat.left_eq_add, decide_eq_true_eq, List.nil_append, List.append_nil, Nat.reduceAdd, Nat.reduceEqDiff, Nat.reduceLeDiff, Nat.reduceLT, reduceIte]
      repeat rw [if_neg (by omega)]
    · rename_i h1
      repeat (first | with_reducible refine x_ops ?_ | (simp only [go_sem, Nat.reduceAdd, Nat.reduceEqDiff, Nat.reduceLT, Nat.reduceLeDiff, Nat.reduceMul, Nat.reduceSub, reduceIte, splice, vfill, tCrs, tInts, hrd]))
      refine finS_ret (r := _) (by (simp only [go_sem, Nat.reduceAdd, Nat.reduceEqDiff, Nat.reduceLT, Nat.reduceLeDiff, Nat.reduceMul, Nat.reduceSub, reduceIte, resV, resAll, resOne, oneOr]); try rfl) ⟨m.next + 5, m.next + 9, by omega, by omega, by omega, (by show _ < m.next + 12; omega), (by show _ < m.next + 12; omega), (by simp [bv, oneOr, h0, h1]), (fun h => absurd (List.eq_nil_of_length_eq_zero h0) h), (fun h => by simp only [put_obj, put_next, M0_next, freeze_obj, freeze_next, Nat.add_zero, Nat.zero_add, Nat.add_assoc, Nat.add_left_cancel_iff, Nat.add_eq_left, Nat.left_eq_add, decide_eq_true_eq, List.nil_append, List.append_nil, Nat.reduceAdd, Nat.reduceEqDiff, Nat.reduceLeDiff, Nat.reduceLT, reduceIte]), fun q hq => ?_⟩
      simp only [put_obj, put_next, M0_next, freeze_obj, freeze_next, Nat.add_zero, Nat.zero_add, Nat.add_assoc, Nat.add_left_cancel_iff, Nat.add_eq_left, Nat.left_eq_add, decide_eq_true_eq, List.nil_append, List.append_nil, Nat.reduceAdd, Nat.reduceEqDiff, Nat.reduceLeDiff, Nat.reduceLT, reduceIte]
      repeat rw [if_neg (by omega)]
  · rename_i h0
    repeat (first | with_reducible refine x_ops ?_ | (simp only [go_sem, Nat.reduceAdd, Nat.reduceEqDiff, Nat.reduceLT, Nat.reduceLeDiff, Nat.reduceMul, Nat.reduceSub, reduceIte, splice, vfill, tCrs, tInts, hrd]))
    refine x_appB (n := 0) (xs := []) (j := ss.length) (ys := lits (ss.map (Value.int .i64))) (k2 := .no) rfl rfl rfl l2 (by omega) (by unfold maxLen; omega) ?_
    split
    · rename_i h1
      repeat (first | with_reducible refine x_ops ?_ | (simp only [go_sem, Nat.reduceAdd, Nat.reduceEqDiff, Nat.reduceLT, Nat.reduceLeDiff, Nat.reduceMul, Nat.reduceSub, reduceIte, splice, vfill, tCrs, tInts, hrd]))
      refine finS_ret (r := _) (by (simp only [go_sem, Nat.reduceAdd, Nat.reduceEqDiff, Nat.reduceLT, Nat.reduceLeDiff, Nat.reduceMul, Nat.reduceSub, reduceIte, resV, resAll, resOne, oneOr]); try rfl) ⟨m.next + 5, m.next + 9, by omega, by omega, by omega, (by show _ < m.next + 12; omega), (by show _ < m.next + 12; omega), (by simp [bv, oneOr, h0, h1]), (fun h => by simp only [put_obj, put_next, M0_next, freeze_obj, freeze_next, Nat.add_zero, Nat.zero_add, Nat.add_assoc, Nat.add_left_cancel_iff, Nat.add_eq_left, Nat.left_eq_add, decide_eq_true_eq, List.nil_append, List.append_nil, Nat.reduceAdd, Nat.reduceEqDiff, Nat.reduceLeDiff, Nat.reduceLT, reduceIte]), (fun h => absurd (List.eq_nil_of_length_eq_zero h1) h), fun q hq => ?_⟩
      simp only [put_obj, put_next, M0_next, freeze_obj, freeze_next, Nat.add_zero, Nat.zero_add, Nat.add_assoc, Nat.add_left_cancel_iff, Nat.add_eq_left, Nat.left_eq_add, decide_eq_true_eq, List.nil_append, List.append_nil, Nat.reduceAdd, Nat.reduceEqDiff, Nat.reduceLeDiff, Nat.reduceLT, reduceIte]
      repeat rw [if_neg (by omega)]
    · rename_i h1
      repeat (first | with_reducible refine x_ops ?_ | (simp only [go_sem, Nat.reduceAdd, Nat.reduceEqDiff, Nat.reduceLT, Nat.reduceLeDiff, Nat.reduceMul, Nat.reduceSub, reduceIte, splice, vfill, tCrs, tInts, hrd]))
      refine finS_ret (r := _) (by (simp only [go_sem, Nat.reduceAdd, Nat.reduceEqDiff, Nat.reduceLT, Nat.reduceLeDiff, Nat.reduceMul, Nat.reduceSub, reduceIte, resV, resAll, resOne, oneOr]); try rfl) ⟨m.next + 5, m.next + 9, by omega, by omega, by omega, (by show _ < m.next + 12; omega), (by show _ < m.next + 12; omega), (by simp [bv, oneOr, h0, h1]), (fun h => by simp only [put_obj, put_next, M0_next, freeze_obj, freeze_next, Nat.add_zero, Nat.zero_add, Nat.add_assoc, Nat.add_left_cancel_iff, Nat.add_eq_left, Nat.left_eq_add, decide_eq_true_eq, List.nil_append, List.append_nil, Nat.reduceAdd, Nat.reduceEqDiff, Nat.reduceLeDiff, Nat.reduceLT, reduceIte]), (fun h => by simp only [put_obj, put_next, M0_next, freeze_obj, freeze_next, Nat.add_zero, Nat.zero_add, Nat.add_assoc, Nat.add_left_cancel_iff, Nat.add_eq_left, Nat.left_eq_add, decide_eq_true_eq, List.nil_append, List.append_nil, Nat.reduceAdd, Nat.reduceEqDiff, Nat.reduceLeDiff, Nat.reduceLT, reduceIte]), fun q hq => ?_⟩
      simp only [put_obj, put_next, M0_next, freeze_obj, freeze_next, Nat.add_zero, Nat.zero_add, Nat.add_assoc, Nat.add_left_cancel_iff, Nat.add_eq_left, Nat.left_eq_add, decide_eq_true_eq, List.nil_append, List.append_nil, Nat.reduceAdd, Nat.reduceEqDiff, Nat.reduceLeDiff, Nat.reduceLT, reduceIte]
      repeat rw [if_neg (by omega)]
end Go.Proofs.YtbdhjpdjbogggaaDoor
namespace Go.Proofs.YtbdhjpdjbogggaaDoor
open Go.RowKit
attribute [local go_sem] vx_skip vx_ret vx_exit vx_seq vx_block vx_scope vx_cond vx_condT vx_condF gR_nil gR_cons VO.stops beq_self_eq_true Bool.false_beq Bool.true_beq Bool.not_true Bool.not_false Bool.false_eq_true if_false exo VI.on if_true exoOp pureSem List.map_cons List.map_nil St.ev initT Option.map_some putT_get putT_none put_obj put_next M0_next freeze_obj freeze_next List.getD_cons_zero List.getD_cons_succ List.getD_nil V.cells rdable Nat.add_assoc Nat.add_zero Nat.add_left_cancel_iff Nat.add_eq_left Nat.left_eq_add decide_true Bool.true_or ite_self onB vbinI vint vbool List.drop_zero List.take_succ_cons List.drop_succ_cons List.take_zero List.length_cons List.length_nil List.getElem?_cons_zero List.getElem?_cons_succ decide_eq_true_eq true_and and_true Nat.le_refl List.zip_cons_cons List.zip_nil_left V.pubs V.pub Option.bind_some List.all_cons List.all_nil V.one Bool.and_self List.cons_append List.nil_append then_nrm then_ret then_exit inB_nrm inB_ret inB_exit Int.toNat_natCast Int.natCast_nonneg eq_self Nat.zero_add Nat.mul_one
set_option linter.unusedSimpArgs false
set_option linter.unusedVariables false

theorem pures_lits : ∀ l : List Value, V.pures (lits l) = true
  | [] => by rw [lits, List.map_nil, V.pures]
  | v :: l => by
    have := pures_lits l
    rw [lits, List.map_cons, V.pures, V.pure, Bool.true_and]; exact this
theorem clean_lits (l : List Value) (h : ∀ v ∈ l, (V.lit v).one = true) : V.clean (lits l) = true := clean_iff.2 ⟨pures_lits l, fun v hv => by
  simp only [lits, List.mem_map] at hv
  obtain ⟨u, hu, rfl⟩ := hv
  exact h u hu⟩
theorem clean_crs (cs : List Crs) : V.clean (lits (cells3 cs)) = true := clean_lits _ fun v hv => by
  simp only [cells3, List.mem_flatMap] at hv
  obtain ⟨c, _, hv⟩ := hv
  simp [Crs.cells] at hv
  rcases hv with rfl | rfl | rfl <;> rfl
theorem clean_ints (ss : List Int) : V.clean (lits (ss.map (Value.int .i64))) = true := clean_lits _ fun v hv => by
  simp only [List.mem_map] at hv
  obtain ⟨c, _, rfl⟩ := hv
  rfl

theorem BFn.of_vx {P : Program} {bx : Nat → Bool} {G : Ground} {f : FuncId} {nt : Nat} {c : VC} {rs : List VRes} (hc : Comp P bx G.tab f nt c rs) {args : List V} {n : Nat} {xs : List V} {e : TypeId} (hn : args.length ≤ nt)
    (h : ∀ m, c.vx P G (FinS rs (BPost n xs e m)) ⟨initT args, m⟩) : BFn P G f args n xs e := fun m => SFn.of_vxS hc hn (h m)

theorem cloneC_fn (cs : List Crs) (h1 : cs.length ≤ 1000000) : BFn Tryd.prog Gd 94 [tCrs cs] cs.length (lits (cells3 cs)) 59 := by
  refine BFn.of_vx k_slices_Clone_api_Course_api_Course_b (by simp) fun m => ?_
  unfold c_slices_Clone_api_Course_api_Course_b tCrs
  have l1 : (lits (cells3 cs)).length = cs.length * 3 := by rw [lits_length, cells3_length]
  repeat (first | with_reducible refine x_ops ?_ | (simp only [go_sem, Nat.reduceAdd, Nat.reduceEqDiff, Nat.reduceLT, Nat.reduceLeDiff, Nat.reduceMul, Nat.reduceSub, reduceIte, splice, vfill]))
  refine x_eqN (n := cs.length) (xs := lits (cells3 cs)) (k := .no) rfl fun b hb => ?_
  repeat (first | with_reducible refine x_ops ?_ | (simp only [go_sem, Nat.reduceAdd, Nat.reduceEqDiff, Nat.reduceLT, Nat.reduceLeDiff, Nat.reduceMul, Nat.reduceSub, reduceIte, splice, vfill]))
  refine x_if (fun ht => ?_) (fun ht => ?_)
  · subst ht
    have h0 : cs.length = 0 := by
      rcases Nat.eq_zero_or_pos cs.length with h | h
      · exact h
      · have := hb (fun e => by rw [e] at l1; simp at l1; omega)
        cases this
    repeat (first | with_reducible refine x_ops ?_ | (simp only [go_sem, Nat.reduceAdd, Nat.reduceEqDiff, Nat.reduceLT, Nat.reduceLeDiff, Nat.reduceMul, Nat.reduceSub, reduceIte, splice, vfill]))
    exact finS_ret (r := _) (by (simp only [go_sem, Nat.reduceAdd, Nat.reduceEqDiff, Nat.reduceLT, Nat.reduceLeDiff, Nat.reduceMul, Nat.reduceSub, reduceIte, resV, resAll, resOne, oneOr])) ⟨fun _ _ => rfl, .inl ⟨h0, rfl⟩⟩
  · repeat (first | with_reducible refine x_ops ?_ | (simp only [go_sem, Nat.reduceAdd, Nat.reduceEqDiff, Nat.reduceLT, Nat.reduceLeDiff, Nat.reduceMul, Nat.reduceSub, reduceIte, splice, vfill]))
    refine x_appB (n := 0) (xs := []) (j := cs.length) (ys := lits (cells3 cs)) (k2 := .no) rfl rfl rfl l1 (by omega) (by unfold maxLen; omega) ?_
    split
    · rename_i h0
      repeat (first | with_reducible refine x_ops ?_ | (simp only [go_sem, Nat.reduceAdd, Nat.reduceEqDiff, Nat.reduceLT, Nat.reduceLeDiff, Nat.reduceMul, Nat.reduceSub, reduceIte, splice, vfill]))
      exact finS_ret (r := _) (by (simp only [go_sem, Nat.reduceAdd, Nat.reduceEqDiff, Nat.reduceLT, Nat.reduceLeDiff, Nat.reduceMul, Nat.reduceSub, reduceIte, resV, resAll, resOne, oneOr])) ⟨fun _ _ => rfl, .inl ⟨h0, rfl⟩⟩
    · rename_i h0
      repeat (first | with_reducible refine x_ops ?_ | (simp only [go_sem, Nat.reduceAdd, Nat.reduceEqDiff, Nat.reduceLT, Nat.reduceLeDiff, Nat.reduceMul, Nat.reduceSub, reduceIte, splice, vfill]))
      refine finS_ret (r := _) (by (simp only [go_sem, Nat.reduceAdd, Nat.reduceEqDiff, Nat.reduceLT, Nat.reduceLeDiff, Nat.reduceMul, Nat.reduceSub, reduceIte, resV, resAll, resOne, oneOr]); try rfl) ⟨fun q hq => ?_, .inr ⟨h0, clean_crs _, m.next + 2, by omega, (by simp only [oneOr, Nat.zero_add]), (by simp only [put_obj, put_next, M0_next, freeze_obj, freeze_next, Nat.add_zero, Nat.zero_add, Nat.add_assoc, Nat.add_left_cancel_iff, Nat.add_eq_left, Nat.left_eq_add, decide_eq_true_eq, List.nil_append, List.append_nil, Nat.reduceAdd, Nat.reduceEqDiff, Nat.reduceLeDiff, Nat.reduceLT, reduceIte])⟩⟩
      simp only [put_obj, put_next, M0_next, freeze_obj, freeze_next, Nat.add_zero, Nat.zero_add, Nat.add_assoc, Nat.add_left_cancel_iff, Nat.add_eq_left, Nat.left_eq_add, decide_eq_true_eq, List.nil_append, List.append_nil, Nat.reduceAdd, Nat.reduceEqDiff, Nat.reduceLeDiff, Nat.reduceLT, reduceIte]
      rw [if_neg (by omega)]
theorem cloneN_fn (ss : List Int) (h1 : ss.length ≤ 1000000) : BFn Tryd.prog Gd 95 [tInts ss] ss.length (lits (ss.map (Value.int .i64))) 3 := by
  refine BFn.of_vx k_slices_Clone_int_int_b (by simp) fun m => ?_
  unfold c_slices_Clone_int_int_b tInts
  have l1 : (lits (ss.map (Value.int .i64))).length = ss.length * 1 := by rw [lits_length]; simp
  repeat (first | with_reducible refine x_ops ?_ | (simp only [go_sem, Nat.reduceAdd, Nat.reduceEqDiff, Nat.reduceLT, Nat.reduceLeDiff, Nat.reduceMul, Nat.reduceSub, reduceIte, splice, vfill]))
  refine x_eqN (n := ss.length) (xs := lits (ss.map (Value.int .i64))) (k := .no) rfl fun b hb => ?_
  repeat (first | with_reducible refine x_ops ?_ | (simp only [go_sem, Nat.reduceAdd, Nat.reduceEqDiff, Nat.reduceLT, Nat.reduceLeDiff, Nat.reduceMul, Nat.reduceSub, reduceIte, splice, vfill]))
  refine x_if (fun ht => ?_) (fun ht => ?_)
  · subst ht
    have h0 : ss.length = 0 := by
      rcases Nat.eq_zero_or_pos ss.length with h | h
      · exact h
      · have := hb (fun e => by rw [e] at l1; simp at l1; omega)
        cases this
    repeat (first | with_reducible refine x_ops ?_ | (simp only [go_sem, Nat.reduceAdd, Nat.reduceEqDiff, Nat.reduceLT, Nat.reduceLeDiff, Nat.reduceMul, Nat.reduceSub, reduceIte, splice, vfill]))
    exact finS_ret (r := _) (by (simp only [go_sem, Nat.reduceAdd, Nat.reduceEqDiff, Nat.reduceLT, Nat.reduceLeDiff, Nat.reduceMul, Nat.reduceSub, reduceIte, resV, resAll, resOne, oneOr])) ⟨fun _ _ => rfl, .inl ⟨h0, rfl⟩⟩
  · repeat (first | with_reducible refine x_ops ?_ | (simp only [go_sem, Nat.reduceAdd, Nat.reduceEqDiff, Nat.reduceLT, Nat.reduceLeDiff, Nat.reduceMul, Nat.reduceSub, reduceIte, splice, vfill]))
    refine x_appB (n := 0) (xs := []) (j := ss.length) (ys := lits (ss.map (Value.int .i64))) (k2 := .no) rfl rfl rfl l1 (by omega) (by unfold maxLen; omega) ?_
    split
    · rename_i h0
      repeat (first | with_reducible refine x_ops ?_ | (simp only [go_sem, Nat.reduceAdd, Nat.reduceEqDiff, Nat.reduceLT, Nat.reduceLeDiff, Nat.reduceMul, Nat.reduceSub, reduceIte, splice, vfill]))
      exact finS_ret (r := _) (by (simp only [go_sem, Nat.reduceAdd, Nat.reduceEqDiff, Nat.reduceLT, Nat.reduceLeDiff, Nat.reduceMul, Nat.reduceSub, reduceIte, resV, resAll, resOne, oneOr])) ⟨fun _ _ => rfl, .inl ⟨h0, rfl⟩⟩
    · rename_i h0
      repeat (first | with_reducible refine x_ops ?_ | (simp only [go_sem, Nat.reduceAdd, Nat.reduceEqDiff, Nat.reduceLT, Nat.reduceLeDiff, Nat.reduceMul, Nat.reduceSub, reduceIte, splice, vfill]))
      refine finS_ret (r := _) (by (simp only [go_sem, Nat.reduceAdd, Nat.reduceEqDiff, Nat.reduceLT, Nat.reduceLeDiff, Nat.reduceMul, Nat.reduceSub, reduceIte, resV, resAll, resOne, oneOr]); try rfl) ⟨fun q hq => ?_, .inr ⟨h0, clean_ints _, m.next + 2, by omega, (by simp only [oneOr, Nat.zero_add]), (by simp only [put_obj, put_next, M0_next, freeze_obj, freeze_next, Nat.add_zero, Nat.zero_add, Nat.add_assoc, Nat.add_left_cancel_iff, Nat.add_eq_left, Nat.left_eq_add, decide_eq_true_eq, List.nil_append, List.append_nil, Nat.reduceAdd, Nat.reduceEqDiff, Nat.reduceLeDiff, Nat.reduceLT, reduceIte])⟩⟩
      simp only [put_obj, put_next, M0_next, freeze_obj, freeze_next, Nat.add_zero, Nat.zero_add, Nat.add_assoc, Nat.add_left_cancel_iff, Nat.add_eq_left, Nat.left_eq_add, decide_eq_true_eq, List.nil_append, List.append_nil, Nat.reduceAdd, Nat.reduceEqDiff, Nat.reduceLeDiff, Nat.reduceLT, reduceIte]
      rw [if_neg (by omega)]

theorem clone_sfn (cs : List Crs) (ss : List Int) (h1 : cs.length ≤ 1000000) (h2 : ss.length ≤ 1000000) (m : Mm) : SFn Tryd.prog Gd 80 [tIns cs ss] m (CopyP cs ss m) := by
  refine SFn.of_vxS k_instrument_clone_b (by simp) ?_
  unfold c_instrument_clone_b tIns
  have hrd : m.next < m.next + 2 := by omega
  repeat (first | with_reducible refine x_ops ?_ | (simp only [go_sem, Nat.reduceAdd, Nat.reduceEqDiff, Nat.reduceLT, Nat.reduceLeDiff, Nat.reduceMul, Nat.reduceSub, reduceIte, splice, vfill, hrd]))
  refine x_callB _ (cloneC_fn cs h1) (by (simp only [go_sem, reduceIte, Nat.reduceEqDiff, V.norms, V.norm]); rfl) ?_
  split
  · rename_i h0
    repeat (first | with_reducible refine x_ops ?_ | (simp only [go_sem, Nat.reduceAdd, Nat.reduceEqDiff, Nat.reduceLT, Nat.reduceLeDiff, Nat.reduceMul, Nat.reduceSub, reduceIte, splice, vfill, hrd]))
    refine x_callB _ (cloneN_fn ss h2) (by (simp only [go_sem, reduceIte, Nat.reduceEqDiff, V.norms, V.norm]); rfl) ?_
    split
    · rename_i h1
      repeat (first | with_reducible refine x_ops ?_ | (simp only [go_sem, Nat.reduceAdd, Nat.reduceEqDiff, Nat.reduceLT, Nat.reduceLeDiff, Nat.reduceMul, Nat.reduceSub, reduceIte, splice, vfill, hrd]))
      refine finS_ret (r := _) (by (simp only [go_sem, Nat.reduceAdd, Nat.reduceEqDiff, Nat.reduceLT, Nat.reduceLeDiff, Nat.reduceMul, Nat.reduceSub, reduceIte, resV, resAll, resOne, oneOr]); try rfl) ⟨m.next + 4, m.next + 7, by omega, by omega, by omega, (by show _ < m.next + 10; omega), (by show _ < m.next + 10; omega), (by simp [bv, oneOr, h0, h1]), (fun h => absurd (List.eq_nil_of_length_eq_zero h0) h), (fun h => absurd (List.eq_nil_of_length_eq_zero h1) h), fun q hq => ?_⟩
      simp only [put_obj, put_next, M0_next, freeze_obj, freeze_next, Nat.add_zero, Nat.zero_add, Nat.add_assoc, Nat.add_left_cancel_iff, Nat.add_eq_left, Nat.left_eq_add, decide_eq_true_eq, List.nil_append, List.append_nil, Nat.reduceAdd, Nat.reduceEqDiff, Nat.reduceLeDiff, Nat.reduceLT, reduceIte]
      repeat rw [if_neg (by omega)]
    · rename_i h1
      repeat (first | with_reducible refine x_ops ?_ | (simp only [go_sem, Nat.reduceAdd, Nat.reduceEqDiff, Nat.reduceLT, Nat.reduceLeDiff, Nat.reduceMul, Nat.reduceSub, reduceIte, splice, vfill, hrd]))
      refine finS_ret (r := _) (by (simp only [go_sem, Nat.reduceAdd, Nat.reduceEqDiff, Nat.reduceLT, Nat.reduceLeDiff, Nat.reduceMul, Nat.reduceSub, reduceIte, resV, resAll, resOne, oneOr]); try rfl) ⟨m.next + 4, m.next + 7, by omega, by omega, by omega, (by show _ < m.next + 10; omega), (by show _ < m.next + 10; omega), (by simp [bv, oneOr, h0, h1]), (fun h => absurd (List.eq_nil_of_length_eq_zero h0) h), (fun h => by simp only [put_obj, put_next, M0_next, freeze_obj, freeze_next, Nat.add_zero, Nat.zero_add, Nat.add_assoc, Nat.add_left_cancel_iff, Nat.add_eq_left, Nat.left_eq_add, decide_eq_true_eq, List.nil_append, List.append_nil, Nat.reduceAdd, Nat.reduceEqDiff, Nat.reduceLeDiff, Nat.reduceLT, reduceIte]), fun q hq => ?_⟩
      simp only [put_obj, put_next, M0_next, freeze_obj, freeze_next, Nat.add_zero, Nat.zero_add, Nat.add_assoc, Nat.add_left_cancel_iff, Nat.add_eq_left, Nat.left_eq_add, decide_eq_true_eq, List.nil_append, List.append_nil, Nat.reduceAdd, Nat.reduceEqDiff, Nat.reduceLeDiff, Nat.reduceLT, reduceIte]
      repeat rw [if_neg (by omega)]
  · rename_i h0
    repeat (first | with_reducible refine x_ops ?_ | (simp only [go_sem, Nat.reduceAdd, Nat.reduceEqDiff, Nat.reduceLT, Nat.reduceLeDiff, Nat.reduceMul, Nat.reduceSub, reduceIte, splice, vfill, hrd]))
    refine x_callB _ (cloneN_fn ss h2) (by (simp only [go_sem, reduceIte, Nat.reduceEqDiff, V.norms, V.norm]); rfl) ?_
    split
    · rename_i h1
      repeat (first | with_reducible refine x_ops ?_ | (simp only [go_sem, Nat.reduceAdd, Nat.reduceEqDiff, Nat.reduceLT, Nat.reduceLeDiff, Nat.reduceMul, Nat.reduceSub, reduceIte, splice, vfill, hrd]))
      refine finS_ret (r := _) (by (simp only [go_sem, Nat.reduceAdd, Nat.reduceEqDiff, Nat.reduceLT, Nat.reduceLeDiff, Nat.reduceMul, Nat.reduceSub, reduceIte, resV, resAll, resOne, oneOr]); try rfl) ⟨m.next + 4, m.next + 7, by omega, by omega, by omega, (by show _ < m.next + 10; omega), (by show _ < m.next + 10; omega), (by simp [bv, oneOr, h0, h1]), (fun h => by simp only [put_obj, put_next, M0_next, freeze_obj, freeze_next, Nat.add_zero, Nat.zero_add, Nat.add_assoc, Nat.add_left_cancel_iff, Nat.add_eq_left, Nat.left_eq_add, decide_eq_true_eq, List.nil_append, List.append_nil, Nat.reduceAdd, Nat.reduceEqDiff, Nat.reduceLeDiff, Nat.reduceLT, reduceIte]), (fun h => absurd (List.eq_nil_of_length_eq_zero h1) h), fun q hq => ?_⟩
      simp only [put_obj, put_next, M0_next, freeze_obj, freeze_next, Nat.add_zero, Nat.zero_add, Nat.add_assoc, Nat.add_left_cancel_iff, Nat.add_eq_left, Nat.left_eq_add, decide_eq_true_eq, List.nil_append, List.append_nil, Nat.reduceAdd, Nat.reduceEqDiff, Nat.reduceLeDiff, Nat.reduceLT, reduceIte]
      repeat rw [if_neg (by omega)]
    · rename_i h1
      repeat (first | with_reducible refine x_ops ?_ | (simp only [go_sem, Nat.reduceAdd, Nat.reduceEqDiff, Nat.reduceLT, Nat.reduceLeDiff, Nat.reduceMul, Nat.reduceSub, reduceIte, splice, vfill, hrd]))
      refine finS_ret (r := _) (by (simp only [go_sem, Nat.reduceAdd, Nat.reduceEqDiff, Nat.reduceLT, Nat.reduceLeDiff, Nat.reduceMul, Nat.reduceSub, reduceIte, resV, resAll, resOne, oneOr]); try rfl) ⟨m.next + 4, m.next + 7, by omega, by omega, by omega, (by show _ < m.next + 10; omega), (by show _ < m.next + 10; omega), (by simp [bv, oneOr, h0, h1]), (fun h => by simp only [put_obj, put_next, M0_next, freeze_obj, freeze_next, Nat.add_zero, Nat.zero_add, Nat.add_assoc, Nat.add_left_cancel_iff, Nat.add_eq_left, Nat.left_eq_add, decide_eq_true_eq, List.nil_append, List.append_nil, Nat.reduceAdd, Nat.reduceEqDiff, Nat.reduceLeDiff, Nat.reduceLT, reduceIte]), (fun h => by simp only [put_obj, put_next, M0_next, freeze_obj, freeze_next, Nat.add_zero, Nat.zero_add, Nat.add_assoc, Nat.add_left_cancel_iff, Nat.add_eq_left, Nat.left_eq_add, decide_eq_true_eq, List.nil_append, List.append_nil, Nat.reduceAdd, Nat.reduceEqDiff, Nat.reduceLeDiff, Nat.reduceLT, reduceIte]), fun q hq => ?_⟩
      simp only [put_obj, put_next, M0_next, freeze_obj, freeze_next, Nat.add_zero, Nat.zero_add, Nat.add_assoc, Nat.add_left_cancel_iff, Nat.add_eq_left, Nat.left_eq_add, decide_eq_true_eq, List.nil_append, List.append_nil, Nat.reduceAdd, Nat.reduceEqDiff, Nat.reduceLeDiff, Nat.reduceLT, reduceIte]
      repeat rw [if_neg (by omega)]

theorem pub_bv {n0 i n : Nat} {m : Mm} {xs : List V} {t : TypeId} (hi : n0 ≤ i) (hx : n ≠ 0 → m.obj i = some (.box xs t)) (hcl : V.clean xs = true) (h0 : n = 0 → xs = []) : (bv i n).pubM n0 m = some (.sl n xs .no) := by
  unfold bv
  split
  · rename_i h; rw [V.pubM, h0 h, h]
  · rename_i h; rw [V.pubM, hx h]; simp [hi, hcl]
theorem crs_nil {cs : List Crs} (h : cs.length = 0) : lits (cells3 cs) = [] := by rw [List.eq_nil_of_length_eq_zero h]; rfl
theorem ints_nil {ss : List Int} (h : ss.length = 0) : lits (ss.map (Value.int .i64)) = [] := by rw [List.eq_nil_of_length_eq_zero h]; rfl
theorem CopyP.pub {cs : List Crs} {ss : List Int} {m m' : Mm} {r : V} (h : CopyP cs ss m r m') : r.pubM m.next m' = some (tIns cs ss) ∧ ∀ q, q < m.next → m'.obj q = m.obj q := by
  obtain ⟨i, j, hi, hj, _, _, _, rfl, h1, h2, h3⟩ := h
  refine ⟨?_, h3⟩
  rw [V.pubM, V.pubsM, pub_bv hi (fun h => h1 (fun e => h (by rw [e]; rfl))) (clean_crs cs) crs_nil, Option.bind_some, V.pubsM, pub_bv hj (fun h => h2 (fun e => h (by rw [e]; rfl))) (clean_ints ss) ints_nil, V.pubsM]
  rfl
theorem copy_fn (cs : List Crs) (ss : List Int) (h1 : cs.length ≤ 1000000) (h2 : ss.length ≤ 1000000) : Fn Tryd.prog Gd 28 [tIns cs ss] (tIns cs ss) :=
  fun m => SFn.dropM (Q := fun r' => r' = tIns cs ss) (SFn.mono (copy_sfn cs ss h1 h2 m) fun r' m' h => ⟨_, h.pub.1, rfl, h.pub.2⟩)
end Go.Proofs.YtbdhjpdjbogggaaDoor
namespace Go.Proofs.YtbdhjpdjbogggaaDoor
open Go.RowKit
attribute [local go_sem] vx_skip vx_ret vx_exit vx_seq vx_block vx_scope vx_cond vx_condT vx_condF gR_nil gR_cons VO.stops beq_self_eq_true Bool.false_beq Bool.true_beq Bool.not_true Bool.not_false Bool.false_eq_true if_false exo VI.on if_true exoOp pureSem List.map_cons List.map_nil St.ev initT Option.map_some putT_get putT_none put_obj put_next M0_next freeze_obj freeze_next List.getD_cons_zero List.getD_cons_succ List.getD_nil V.cells rdable Nat.add_assoc Nat.add_zero Nat.add_left_cancel_iff Nat.add_eq_left Nat.left_eq_add decide_true Bool.true_or ite_self onB vbinI vint vbool List.drop_zero List.take_succ_cons List.drop_succ_cons List.take_zero List.length_cons List.length_nil List.getElem?_cons_zero List.getElem?_cons_succ decide_eq_true_eq true_and and_true Nat.le_refl List.zip_cons_cons List.zip_nil_left V.pubs V.pub Option.bind_some List.all_cons List.all_nil V.one Bool.and_self List.cons_append List.nil_append then_nrm then_ret then_exit inB_nrm inB_ret inB_exit Int.toNat_natCast Int.natCast_nonneg eq_self Nat.zero_add Nat.mul_one
set_option linter.unusedSimpArgs false
set_option linter.unusedVariables false

theorem splice_mid (A B : List V) (x v : V) : splice (A ++ x :: B) A.length [v] = A ++ v :: B := by
  unfold splice
  rw [List.take_left, List.append_assoc, show A.length + [v].length = (A ++ [x]).length by simp, show A ++ x :: B = (A ++ [x]) ++ B by simp, List.drop_left]
  rfl
theorem split_at {cs : List Crs} {k : Nat} (h : k < cs.length) : ∃ a b, cs = a ++ cs.getD k default :: b ∧ a.length = k := by
  refine ⟨cs.take k, cs.drop (k + 1), ?_, by rw [List.length_take]; omega⟩
  rw [List.getD_eq_getElem?_getD, List.getElem?_eq_getElem h, Option.getD_some]
  conv => lhs; rw [← List.take_append_drop k cs, List.drop_eq_getElem_cons h]
theorem cells3_mid (a b : List Crs) (c : Crs) : lits (cells3 (a ++ c :: b)) = lits (cells3 a) ++ vint c.p :: vint c.f :: vbool c.o :: lits (cells3 b) := by
  simp [cells3, lits, Crs.cells, vint, vbool]
theorem mid_length (a : List Crs) : (lits (cells3 a)).length = a.length * 3 := by rw [lits_length, cells3_length]
theorem set_mid (a b : List Crs) (c d : Crs) : (a ++ c :: b).set a.length d = a ++ d :: b := by
  rw [List.set_append_right _ _ (Nat.le_refl _), Nat.sub_self, List.set_cons_zero]
theorem splice_p {l : List Crs} {k : Nat} (hk : k < l.length) (x : Int) : splice (lits (cells3 l)) (k * 3) [vint x] = lits (cells3 (l.set k ⟨x, (l.getD k default).f, (l.getD k default).o⟩)) := by
  obtain ⟨a, b, e, rfl⟩ := split_at hk
  generalize l.getD a.length default = c at e ⊢
  rw [e, set_mid, cells3_mid, cells3_mid, ← mid_length, splice_mid]
theorem splice_f {l : List Crs} {k : Nat} (hk : k < l.length) (x : Int) : splice (lits (cells3 l)) (k * 3 + 1) [vint x] = lits (cells3 (l.set k ⟨(l.getD k default).p, x, (l.getD k default).o⟩)) := by
  obtain ⟨a, b, e, rfl⟩ := split_at hk
  generalize l.getD a.length default = c at e ⊢
  rw [e, set_mid, cells3_mid, cells3_mid, ← mid_length, show (lits (cells3 a)).length + 1 = (lits (cells3 a) ++ [vint c.p]).length by simp,
    show lits (cells3 a) ++ vint c.p :: vint c.f :: vbool c.o :: lits (cells3 b) = (lits (cells3 a) ++ [vint c.p]) ++ vint c.f :: vbool c.o :: lits (cells3 b) by simp, splice_mid]
  simp
theorem crs_p {l : List Crs} {k : Nat} (hk : k < l.length) : (lits (cells3 l))[k * 3]? = some (vint (l.getD k default).p) := by rw [lits_get, (cells3_at l k hk).1]; rfl
theorem crs_f {l : List Crs} {k : Nat} (hk : k < l.length) : (lits (cells3 l))[k * 3 + 1]? = some (vint (l.getD k default).f) := by rw [lits_get, (cells3_at l k hk).2.1]; rfl
theorem ints_at {l : List Int} {k : Nat} (hk : k < l.length) : (lits (l.map (Value.int .i64)))[k]? = some (vint (l.getD k 0)) := by
  rw [lits_get, List.getElem?_map, List.getElem?_eq_getElem hk, List.getD_eq_getElem?_getD, List.getElem?_eq_getElem hk]; rfl
theorem crs_len (l : List Crs) : (lits (cells3 l)).length = l.length * 3 := by rw [lits_length, cells3_length]
theorem ints_len (l : List Int) : (lits (l.map (Value.int .i64))).length = l.length := by rw [lits_length, List.length_map]

def capGood (f : Int) (c : Crs) : Bool := c.f == 0 || decide (f ≤ c.f)
def capC (f by_ : Int) (c : Crs) : Crs := if c.f = 0 then c else ⟨IntKind.i64.wrap (c.p + by_), IntKind.i64.wrap (c.f - f), c.o⟩
def capT (f by_ : Int) (cs : List Crs) (k : Nat) : List Crs := (cs.take k).map (capC f by_) ++ cs.drop k
def capS (by_ : Int) (ss : List Int) (F : Nat) : List Int := (ss.drop F).map fun x => IntKind.i64.wrap (x - by_)
def capO (cs : List Crs) (ss : List Int) (f : Int) : List Crs × List Int × Int :=
  if chk cs ss = 0 then
    if f < 0 ∨ (ss.length : Int) < f then ([], [], 13)
    else if f = 0 then (cs, ss, 0)
    else if cs.all (capGood f) = true then (cs.map (capC f (ss.getD (f.toNat - 1) 0)), capS (ss.getD (f.toNat - 1) 0) ss f.toNat, 0)
    else ([], [], 13)
  else ([], [], chk cs ss)
def capV (o : List Crs × List Int × Int) : V := .tup [tIns o.1 o.2.1, vint o.2.2]

section
variable {f b : Int} {cs : List Crs} {k : Nat}
theorem capT_length : (capT f b cs k).length = cs.length := by simp [capT]; omega
theorem capT_zero : capT f b cs 0 = cs := by simp [capT]
theorem capT_all (h : cs.length ≤ k) : capT f b cs k = cs.map (capC f b) := by rw [capT, List.take_of_length_le h, List.drop_of_length_le h, List.append_nil]
theorem capT_at (h : k < cs.length) : (capT f b cs k).getD k default = cs.getD k default := by
  rw [List.getD_eq_getElem?_getD, List.getD_eq_getElem?_getD, capT, List.getElem?_append_right (by simp; omega), List.length_map, List.length_take, Nat.min_eq_left (by omega), Nat.sub_self, List.getElem?_drop, Nat.add_zero]
theorem capT_succ (h : k < cs.length) : (capT f b cs k).set k (capC f b (cs.getD k default)) = capT f b cs (k + 1) := by
  obtain ⟨x, y, e, rfl⟩ := split_at h
  generalize cs.getD x.length default = c at e ⊢
  rw [e, capT, capT, List.take_left, List.drop_left, show x.length = (x.map (capC f b)).length by simp, set_mid]
  rw [show x ++ c :: y = (x ++ [c]) ++ y by simp, show (x.map (capC f b)).length + 1 = (x ++ [c]).length by simp, List.take_left, List.drop_left]
  simp
theorem capT_keep (h : k < cs.length) (hc : (cs.getD k default).f = 0) : capT f b cs (k + 1) = capT f b cs k := by
  rw [← capT_succ h]
  have : capC f b (cs.getD k default) = (capT f b cs k).getD k default := by rw [capT_at h, capC, if_pos hc]
  rw [this, List.getD_eq_getElem?_getD, List.getElem?_eq_getElem (by rw [capT_length]; exact h), Option.getD_some, List.set_getElem_self]
theorem good_succ (h : k < cs.length) : (cs.take (k + 1)).all (capGood f) = ((cs.take k).all (capGood f) && capGood f (cs.getD k default)) := by
  rw [List.take_succ_eq_append_getElem h, List.all_append, List.getD_eq_getElem?_getD, List.getElem?_eq_getElem h]; simp
theorem capS_length {ss : List Int} {F : Nat} : (capS b ss F).length = ss.length - F := by rw [capS, List.length_map, List.length_drop]
theorem capS_step {ss : List Int} {F : Nat} (h : k < ss.length - F) : (capS b ss F).take (k + 1) = (capS b ss F).take k ++ [IntKind.i64.wrap ((ss.drop F).getD k 0 - b)] := by
  have hk : k < (capS b ss F).length := by rw [capS_length]; exact h
  rw [List.take_succ_eq_append_getElem hk]
  congr 2
  simp only [capS, List.getElem_map]
  rw [List.getD_eq_getElem?_getD, List.getElem?_eq_getElem (by rw [List.length_drop]; exact h)]; rfl
end
theorem CopyP.ex (cs : List Crs) (ss : List Int) (m : Mm) : ∃ r m', CopyP cs ss m r m' := by
  refine ⟨_, ⟨fun q => if q = m.next then some (.box (lits (cells3 cs)) 59) else if q = m.next + 1 then some (.box (lits (ss.map (Value.int .i64))) 3) else m.obj q, m.next + 2⟩, m.next, m.next + 1, Nat.le_refl _, by omega, by omega, by show _ < m.next + 2; omega, by show _ < m.next + 2; omega, rfl, fun _ => if_pos rfl, fun _ => ?_, fun q hq => ?_⟩
  · show (if _ then _ else _) = _
    rw [if_neg (by omega), if_pos rfl]
  · show (if _ then _ else _) = _
    rw [if_neg (by omega), if_neg (by omega)]
theorem len_bv (i n : Nat) : pureSem .len [bv i n] = some (vint n) := by
  unfold bv
  split
  · rename_i h; subst h; rfl
  · rfl
theorem pub_ins {n0 i j : Nat} {m : Mm} {cs : List Crs} {ss : List Int} (hi : n0 ≤ i) (hj : n0 ≤ j) (h1 : cs ≠ [] → m.obj i = some (.box (lits (cells3 cs)) 59)) (h2 : ss ≠ [] → m.obj j = some (.box (lits (ss.map (Value.int .i64))) 3)) :
    V.pubM n0 m (.agg [bv i cs.length, bv j ss.length]) = some (tIns cs ss) := by
  rw [V.pubM, V.pubsM, pub_bv hi (fun h => h1 (fun e => h (by rw [e]; rfl))) (clean_crs cs) crs_nil, Option.bind_some, V.pubsM, pub_bv hj (fun h => h2 (fun e => h (by rw [e]; rfl))) (clean_ints ss) ints_nil, V.pubsM]
  rfl
theorem pub_row {n0 i n k : Nat} {m : Mm} {cs : List Crs} {ss : List Int} {t : Tok} (hi : n0 ≤ i) (hn : cs.length = n) (hk : ss.length = k) (h1 : n ≠ 0 → m.obj i = some (.box (lits (cells3 cs)) 59)) :
    V.pubM n0 m (.agg [bv i n, .sl k (lits (ss.map (Value.int .i64))) t]) = some (tIns cs ss) := by
  subst hn
  subst hk
  rw [V.pubM, V.pubsM, pub_bv hi h1 (clean_crs cs) crs_nil, Option.bind_some, V.pubsM, V.pubM, V.pubsM]
  rfl
theorem Ap.put {n0 : Nat} {m : Mm} {t : Tok} {k e s q : Nat} {cs : List V} {ty : TypeId} (h : Ap n0 m t k e s) (hq : m.obj q = some (.box cs ty)) (o : AObj) : Ap n0 (m.put q o) t k e s := by
  rcases h with h | ⟨u, hu, hn, ho⟩
  · exact .inl h
  · refine .inr ⟨u, hu, hn, ?_⟩
    show (if u = q then _ else _) = _
    rw [if_neg]
    · exact ho
    · rintro rfl
      rw [hq] at ho; cases ho
theorem drop_ints (ss : List Int) (F : Nat) : ((lits (ss.map (Value.int .i64))).drop F).take (ss.length - F) = lits ((ss.drop F).map (Value.int .i64)) := by
  rw [List.take_of_length_le (by rw [List.length_drop, ints_len]; exact Nat.le_refl _)]
  simp only [lits, List.map_drop]
end Go.Proofs.YtbdhjpdjbogggaaDoor
