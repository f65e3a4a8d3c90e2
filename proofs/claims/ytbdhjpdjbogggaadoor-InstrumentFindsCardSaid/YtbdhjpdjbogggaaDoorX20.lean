/- The law of what is found: on values. -/
import Derived.Test.YtbdhjpdjbogggaaDoorX19
import Derived.Test.YtbdhjpdjbogggaaDoorX10
import Derived.Test.YtbdhjpdjbogggaaDoorX7
namespace Go.Proofs.YtbdhjpdjbogggaaDoor
open Go.RowKit
attribute [local go_sem] vx_skip vx_ret vx_exit vx_seq vx_block vx_scope vx_cond vx_condT vx_condF gR_nil gR_cons VO.stops beq_self_eq_true Bool.false_beq Bool.true_beq Bool.not_true Bool.not_false Bool.false_eq_true if_false exo VI.on if_true exoOp pureSem List.map_cons List.map_nil St.ev initT Option.map_some putT_get putT_none put_obj put_next M0_next freeze_obj freeze_next List.getD_cons_zero List.getD_cons_succ List.getD_nil V.cells rdable Nat.add_assoc Nat.add_zero Nat.add_left_cancel_iff Nat.add_eq_left Nat.left_eq_add decide_true Bool.true_or ite_self onB vbinI vint vbool List.drop_zero List.take_succ_cons List.drop_succ_cons List.take_zero List.length_cons List.length_nil List.getElem?_cons_zero List.getElem?_cons_succ decide_eq_true_eq true_and and_true Nat.le_refl List.zip_cons_cons List.zip_nil_left V.pubs V.pub Option.bind_some List.all_cons List.all_nil V.one Bool.and_self List.cons_append List.nil_append then_nrm then_ret then_exit inB_nrm inB_ret inB_exit Int.toNat_natCast Int.natCast_nonneg eq_self Nat.zero_add Nat.mul_one
set_option linter.unusedSimpArgs false
set_option linter.unusedVariables false

theorem pure_tPl (co f : Int) : V.pure (tPl co f) = true := by
  rw [tPl, V.pure, V.pures, V.pures, V.pures, vint, vint, V.pure, V.pure]; rfl
def anyP (co f : Int) (l : List (Nat × Nat)) : Bool := l.any fun x => decide ((x.1 : Int) = co) && decide ((x.2 : Int) = f)
theorem anyP_snoc (co f : Int) (l : List (Nat × Nat)) (k : Nat) (h : k < l.length) : anyP co f (l.take (k + 1)) = (anyP co f (l.take k) || (decide (((l[k]'h).1 : Int) = co) && decide (((l[k]'h).2 : Int) = f))) := by
  rw [List.take_succ_eq_append_getElem h, anyP, List.any_append]
  simp only [List.any_cons, List.any_nil, Bool.or_false]
  rfl
def FiI (cs : List Crs) (ss : List Int) (co f p : Int) (L : List (Nat × Nat)) (s : St) : Prop := ∃ k : Nat, k ≤ L.length ∧ s.t 9 = vint k ∧ s.t 7 = tPls L ∧ s.t 2 = .ptr 0 0 ∧ s.m.obj 0 = some (.box [tCrs cs, tInts ss] 39) ∧ s.t 3 = .ptr 1 0 ∧ s.m.obj 1 = some (.box [vint co, vint f] 41) ∧
  s.t 5 = vint p ∧ s.t 6 = vint 0 ∧ s.t 8 = vbool (anyP co f (L.take k)) ∧ 1 < s.m.next
set_option maxHeartbeats 2000000 in
theorem finds_fn (cs : List Crs) (ss : List Int) (co f : Int) : Fn Tryd.prog Gd 10 [tIns cs ss, tPl co f] (vbool true) := by
  refine Fn.of_vx0 k_theorbolaw01_InstrumentFinds (by simp) (pures_cons (pures_tIns cs ss) (pures1 (pure_tPl co f))) ?_
  unfold c_theorbolaw01_InstrumentFinds tIns tPl
  have hbig := big_fn cs ss
  generalize hB : (decide (64 < cs.length) || decide (64 < ss.length)) = B at hbig
  repeat (first | with_reducible refine x_ops ?_ | (simp only [go_sem, Nat.reduceAdd, Nat.reduceEqDiff, Nat.reduceLT, Nat.reduceLeDiff, Nat.reduceMul, Nat.reduceSub, reduceIte, splice, vfill]))
  refine x_call none hbig (by (simp only [go_sem, reduceIte, Nat.reduceEqDiff, V.norms, V.norm]); try rfl) ?_
  cases B
  · have hsm : cs.length ≤ 64 ∧ ss.length ≤ 64 := by simp at hB; omega
    have A1 := at_fn cs ss co f
    have RC := rcheck_fn cs ss
    unfold tPl at A1
    by_cases he : atE cs ss co f = 0
    · obtain ⟨c0, f0, rfl, rfl, hpE, hmem, hpw, hall⟩ := finds_spec he
      have P1 := places_fn cs ss (atV cs ss (c0 : Int) (f0 : Int))
      rw [he] at A1
      rw [hpE] at P1
      have hlen : (plV cs ss (atV cs ss (c0 : Int) (f0 : Int))).length ≤ 1000000 := by
        have hc : chk cs ss = 0 := by
          by_cases h : chk cs ss = 0
          · exact h
          · rw [atE, if_pos h] at he; exact absurd he h
        obtain ⟨_, l2, _, hal⟩ := chk_zero hc
        rw [plV, if_pos hpE]
        have := plTo_le (ss := ss) (cs := cs) (fun k hk => by
          have hm : cs.getD k default ∈ cs := by
            rw [List.getD_eq_getElem?_getD, List.getElem?_eq_getElem hk]; exact List.getElem_mem hk
          have := crsE_zero (hal _ hm)
          omega) (atV cs ss (c0 : Int) (f0 : Int)) cs.length (Nat.le_refl _)
        omega
      generalize plV cs ss (atV cs ss (c0 : Int) (f0 : Int)) = L at P1 hmem hpw hall hlen
      generalize hp : atV cs ss (c0 : Int) (f0 : Int) = p at A1 P1 hall
      repeat (first | with_reducible refine x_ops ?_ | (simp only [go_sem, Nat.reduceAdd, Nat.reduceEqDiff, Nat.reduceLT, Nat.reduceLeDiff, Nat.reduceMul, Nat.reduceSub, reduceIte, splice, vfill, tCrs, tInts]))
      refine x_call _ (copy_fn cs ss (by omega) (by omega)) (by (simp only [go_sem, reduceIte, Nat.reduceEqDiff, V.norms, V.norm]); try rfl) ?_
      repeat (first | with_reducible refine x_ops ?_ | (simp only [go_sem, Nat.reduceAdd, Nat.reduceEqDiff, Nat.reduceLT, Nat.reduceLeDiff, Nat.reduceMul, Nat.reduceSub, reduceIte, splice, vfill, tIns, tCrs, tInts]))
      refine x_call _ A1 (by (simp only [go_sem, reduceIte, Nat.reduceEqDiff, V.norms, V.norm]); try rfl) ?_
      repeat (first | with_reducible refine x_ops ?_ | (simp only [go_sem, Nat.reduceAdd, Nat.reduceEqDiff, Nat.reduceLT, Nat.reduceLeDiff, Nat.reduceMul, Nat.reduceSub, reduceIte, splice, vfill, bne_self_eq_false, tCrs, tInts]))
      refine x_call _ (copy_fn cs ss (by omega) (by omega)) (by (simp only [go_sem, reduceIte, Nat.reduceEqDiff, V.norms, V.norm]); try rfl) ?_
      repeat (first | with_reducible refine x_ops ?_ | (simp only [go_sem, Nat.reduceAdd, Nat.reduceEqDiff, Nat.reduceLT, Nat.reduceLeDiff, Nat.reduceMul, Nat.reduceSub, reduceIte, splice, vfill, tIns, tCrs, tInts]))
      refine x_call _ P1 (by (simp only [go_sem, reduceIte, Nat.reduceEqDiff, V.norms, V.norm]); try rfl) ?_
      repeat (first | with_reducible refine x_ops ?_ | (simp only [go_sem, Nat.reduceAdd, Nat.reduceEqDiff, Nat.reduceLT, Nat.reduceLeDiff, Nat.reduceMul, Nat.reduceSub, reduceIte, splice, vfill, tPls]))
      refine x_loop (FiI cs ss c0 f0 p L) (fun s => L.length - numOf (s.t 9)) ?_ ?_
      · refine ⟨0, Nat.zero_le _, rfl, rfl, rfl, ?_, rfl, ?_, rfl, rfl, rfl, ?_⟩
        · simp only [put_obj, put_next, M0_next, freeze_obj, freeze_next, Nat.add_zero, Nat.zero_add, Nat.add_assoc, Nat.add_left_cancel_iff, Nat.add_eq_left, Nat.left_eq_add, decide_eq_true_eq, List.nil_append, List.append_nil, Nat.reduceAdd, Nat.reduceEqDiff, Nat.reduceLeDiff, Nat.reduceLT, reduceIte]; try rfl
        · simp only [put_obj, put_next, M0_next, freeze_obj, freeze_next, Nat.add_zero, Nat.zero_add, Nat.add_assoc, Nat.add_left_cancel_iff, Nat.add_eq_left, Nat.left_eq_add, decide_eq_true_eq, List.nil_append, List.append_nil, Nat.reduceAdd, Nat.reduceEqDiff, Nat.reduceLeDiff, Nat.reduceLT, reduceIte]; try rfl
        · simp only [put_obj, put_next, M0_next, freeze_obj, freeze_next, Nat.add_zero, Nat.zero_add, Nat.add_assoc, Nat.add_left_cancel_iff, Nat.add_eq_left, Nat.left_eq_add, decide_eq_true_eq, List.nil_append, List.append_nil, Nat.reduceAdd, Nat.reduceEqDiff, Nat.reduceLeDiff, Nat.reduceLT, reduceIte]; try omega
      · rintro s ⟨k, hk, h9, h7, h2, o0, h3, o1, h5, h6, h8, hn⟩
        have r0 : 0 < s.m.next := by omega
        by_cases hlt : k < L.length
        · have d3 : decide ((k : Int) < L.length) = true := by simp; omega
          have hlti : ((k : Nat) : Int) < L.length := by omega
          have g2 := pls_two hlt
          have lP := pls_len L
          have b2 : k * 2 + 2 ≤ L.length * 2 := by omega
          have b3 : k * 2 + 2 ≤ (lits (cellsP L)).length := by omega
          simp only [vint] at g2
          obtain ⟨hE, hV⟩ := hall _ (List.getElem_mem hlt)
          have A2 := at_fn cs ss ((L[k]'hlt).1 : Int) ((L[k]'hlt).2 : Int)
          rw [hE, hV] at A2
          unfold tPl at A2
          have hw1 : IntKind.i64.wrap ((k : Int) + 1) = ((k + 1 : Nat) : Int) := by rw [IntWalk.i64_in _ (by omega)]; omega
          have hany := anyP_snoc (c0 : Int) (f0 : Int) L k hlt
          have c1 := (cellsP_at L k hlt).1
          have gk : (lits (cellsP L))[k * 2]? = some (V.lit (.int .i64 ((L[k]'hlt).1 : Int))) := by rw [lits_get, c1]; rfl
          repeat (first | with_reducible refine x_ops ?_ | (simp only [go_sem, Nat.reduceAdd, Nat.reduceEqDiff, Nat.reduceLT, Nat.reduceLeDiff, Nat.reduceMul, Nat.reduceSub, reduceIte, splice, vfill, h9, h7, tPls, d3]))
          repeat (first | with_reducible refine x_ops ?_ | (simp only [go_sem, Nat.reduceAdd, Nat.reduceEqDiff, Nat.reduceLT, Nat.reduceLeDiff, Nat.reduceMul, Nat.reduceSub, reduceIte, splice, vfill, h9, h7, tPls, h2, o0, r0, hn, h3, o1, tCrs, tInts, hlti, lP, g2, b2, b3]))
          refine x_call _ (copy_fn cs ss (by omega) (by omega)) (by (simp only [go_sem, reduceIte, Nat.reduceEqDiff, V.norms, V.norm]); try rfl) ?_
          repeat (first | with_reducible refine x_ops ?_ | (simp only [go_sem, Nat.reduceAdd, Nat.reduceEqDiff, Nat.reduceLT, Nat.reduceLeDiff, Nat.reduceMul, Nat.reduceSub, reduceIte, splice, vfill, h9, h7, tPls, hlti, lP, g2, b2, b3, tIns, tCrs, tInts]))
          refine x_call _ A2 (by (simp only [go_sem, reduceIte, Nat.reduceEqDiff, V.norms, V.norm]); try rfl) ?_
          have fin : ∀ (b : Bool), anyP (c0 : Int) (f0 : Int) (L.take (k + 1)) = b → ∀ s' : St, s'.t 9 = vint ((k + 1 : Nat) : Int) → s'.t 7 = tPls L → s'.t 2 = .ptr 0 0 → s'.m.obj = s.m.obj → s'.t 3 = .ptr 1 0 → s'.t 5 = vint p → s'.t 6 = vint 0 → s'.t 8 = vbool b → s'.m.next = s.m.next → FiI cs ss c0 f0 p L s' := fun b hb s' a1 a2 a3 a4 a5 a6 a7 a8 a9 =>
            ⟨k + 1, hlt, a1, a2, a3, by rw [a4]; exact o0, a5, by rw [a4]; exact o1, a6, a7, by rw [a8, hb], by rw [a9]; exact hn⟩
          have eqk : (((L[k]'hlt).1 : Int) == (c0 : Int) && (((L[k]'hlt).2 : Int) == (f0 : Int) && true)) = (decide (((L[k]'hlt).1 : Int) = c0) && decide (((L[k]'hlt).2 : Int) = f0)) := by
            rw [Bool.and_true]; rfl
          by_cases hk0 : k = 0
          · have d6 : decide ((k : Int) > 0) = false := by simp; omega
            generalize hA : anyP (c0 : Int) (f0 : Int) (L.take k) = A at h8 hany
            cases A
            · repeat (first | with_reducible refine x_ops ?_ | (simp only [go_sem, Nat.reduceAdd, Nat.reduceEqDiff, Nat.reduceLT, Nat.reduceLeDiff, Nat.reduceMul, Nat.reduceSub, reduceIte, splice, vfill, h9, h7, h5, h8, d6, bne_self_eq_false, tPls, hlti, lP, g2, b2, b3, h3, o1, hn, eqOffs, eqSc, Bool.bne_false, eqk, hw1]))
              refine ⟨fin _ hany _ rfl h7 h2 rfl h3 h5 h6 (by rw [Bool.false_or]; rfl) rfl, ?_⟩
              simp only [numOf, vint, putT_get, reduceIte, Nat.reduceEqDiff, Int.toNat_natCast, h9]; omega
            · repeat (first | with_reducible refine x_ops ?_ | (simp only [go_sem, Nat.reduceAdd, Nat.reduceEqDiff, Nat.reduceLT, Nat.reduceLeDiff, Nat.reduceMul, Nat.reduceSub, reduceIte, splice, vfill, h9, h7, h5, h8, d6, bne_self_eq_false, tPls, hlti, lP, g2, b2, b3, h3, o1, hn, hw1]))
              refine ⟨fin _ hany _ rfl h7 h2 rfl h3 h5 h6 rfl rfl, ?_⟩
              simp only [numOf, vint, putT_get, reduceIte, Nat.reduceEqDiff, Int.toNat_natCast, h9]; omega
          · have d6 : decide ((k : Int) > 0) = true := by simp; omega
            have hw2 : IntKind.i64.wrap ((k : Int) - 1) = ((k - 1 : Nat) : Int) := by rw [IntWalk.i64_in _ (by omega)]; omega
            have hlt2 : k - 1 < L.length := by omega
            have hlti2 : ((k - 1 : Nat) : Int) < L.length := by omega
            have gk2 : (lits (cellsP L))[(k - 1) * 2]? = some (V.lit (.int .i64 ((L[k - 1]'hlt2).1 : Int))) := by rw [lits_get, (cellsP_at L (k - 1) hlt2).1]; rfl
            have hp2 := List.pairwise_iff_getElem.1 hpw (k - 1) k hlt2 hlt (by omega)
            have d7 : decide ((((L[k]'hlt).1 : Nat) : Int) ≤ (((L[k - 1]'hlt2).1 : Nat) : Int)) = false := by simp; omega
            generalize hA : anyP (c0 : Int) (f0 : Int) (L.take k) = A at h8 hany
            cases A
            · repeat (first | with_reducible refine x_ops ?_ | (simp only [go_sem, Nat.reduceAdd, Nat.reduceEqDiff, Nat.reduceLT, Nat.reduceLeDiff, Nat.reduceMul, Nat.reduceSub, reduceIte, splice, vfill, h9, h7, h5, h8, d6, bne_self_eq_false, tPls, hlti, lP, g2, b2, b3, h3, o1, hn, hw2, hlti2, gk, gk2, d7, eqOffs, eqSc, Bool.bne_false, eqk, hw1]))
              refine ⟨fin _ hany _ rfl h7 h2 rfl h3 h5 h6 (by rw [Bool.false_or]; rfl) rfl, ?_⟩
              simp only [numOf, vint, putT_get, reduceIte, Nat.reduceEqDiff, Int.toNat_natCast, h9]; omega
            · repeat (first | with_reducible refine x_ops ?_ | (simp only [go_sem, Nat.reduceAdd, Nat.reduceEqDiff, Nat.reduceLT, Nat.reduceLeDiff, Nat.reduceMul, Nat.reduceSub, reduceIte, splice, vfill, h9, h7, h5, h8, d6, bne_self_eq_false, tPls, hlti, lP, g2, b2, b3, h3, o1, hn, hw2, hlti2, gk, gk2, d7, hw1]))
              refine ⟨fin _ hany _ rfl h7 h2 rfl h3 h5 h6 rfl rfl, ?_⟩
              simp only [numOf, vint, putT_get, reduceIte, Nat.reduceEqDiff, Int.toNat_natCast, h9]; omega
        · have d3 : decide ((k : Int) < L.length) = false := by simp; omega
          have hkl : k = L.length := by omega
          have hA : anyP (c0 : Int) (f0 : Int) (L.take k) = true := by
            rw [hkl, List.take_length, anyP, List.any_eq_true]
            exact ⟨_, hmem, by simp⟩
          rw [hA] at h8
          repeat (first | with_reducible refine x_ops ?_ | (simp only [go_sem, Nat.reduceAdd, Nat.reduceEqDiff, Nat.reduceLT, Nat.reduceLeDiff, Nat.reduceMul, Nat.reduceSub, reduceIte, splice, vfill, h9, h7, tPls, d3, h6, h8]))
          refine x_on rfl ?_
          refine x_call none works_fn (by (simp only [go_sem, reduceIte, Nat.reduceEqDiff, V.norms, V.norm]); try rfl) ?_
          repeat (first | with_reducible refine x_ops ?_ | (simp only [go_sem, Nat.reduceAdd, Nat.reduceEqDiff, Nat.reduceLT, Nat.reduceLeDiff, Nat.reduceMul, Nat.reduceSub, reduceIte, splice, vfill]))
          exact finV_ret (r' := _) (by (simp only [go_sem, Nat.reduceAdd, Nat.reduceEqDiff, Nat.reduceLT, Nat.reduceLeDiff, Nat.reduceMul, Nat.reduceSub, reduceIte, resV, resAll, resOne, oneOr]); try rfl) (.lit _)
    · have key : chk cs ss ≠ 0 ∨ (chk cs ss = 0 ∧ (co < 1 ∨ (1 ≤ co ∧ (cs.length < co ∨ (co ≤ cs.length ∧ (f < 0 ∨ (0 ≤ f ∧ (cs.getD (co.toNat - 1) default).f < f))))))) := by
        by_cases h : chk cs ss = 0
        · refine .inr ⟨h, ?_⟩
          by_cases a1 : co < 1
          · exact .inl a1
          · refine .inr ⟨by omega, ?_⟩
            by_cases a2 : (cs.length : Int) < co
            · exact .inl a2
            · refine .inr ⟨by omega, ?_⟩
              by_cases a3 : f < 0
              · exact .inl a3
              · refine .inr ⟨by omega, ?_⟩
                by_cases a4 : (cs.getD (co.toNat - 1) default).f < f
                · exact a4
                · exact absurd (by rw [atE, if_neg (fun x => x h), if_neg (by omega), if_neg (by omega)]) he
        · exact .inl h
      have ne : (atE cs ss co f != 0) = true := by simpa using he
      generalize atE cs ss co f = er at A1 ne
      generalize chk cs ss = x at RC key
      have lC := crs_len cs
      repeat (first | with_reducible refine x_ops ?_ | (simp only [go_sem, Nat.reduceAdd, Nat.reduceEqDiff, Nat.reduceLT, Nat.reduceLeDiff, Nat.reduceMul, Nat.reduceSub, reduceIte, splice, vfill, tCrs, tInts]))
      refine x_call _ (copy_fn cs ss (by omega) (by omega)) (by (simp only [go_sem, reduceIte, Nat.reduceEqDiff, V.norms, V.norm]); try rfl) ?_
      repeat (first | with_reducible refine x_ops ?_ | (simp only [go_sem, Nat.reduceAdd, Nat.reduceEqDiff, Nat.reduceLT, Nat.reduceLeDiff, Nat.reduceMul, Nat.reduceSub, reduceIte, splice, vfill, tIns, tCrs, tInts]))
      refine x_call _ A1 (by (simp only [go_sem, reduceIte, Nat.reduceEqDiff, V.norms, V.norm]); try rfl) ?_
      repeat (first | with_reducible refine x_ops ?_ | (simp only [go_sem, Nat.reduceAdd, Nat.reduceEqDiff, Nat.reduceLT, Nat.reduceLeDiff, Nat.reduceMul, Nat.reduceSub, reduceIte, splice, vfill, ne, tCrs, tInts]))
      refine x_call _ RC (by (simp only [go_sem, reduceIte, Nat.reduceEqDiff, V.norms, V.norm]); try rfl) ?_
      rcases key with hx | ⟨rfl, hx | ⟨h1, hx | ⟨h2, hx | ⟨h3, hx⟩⟩⟩⟩
      · have e1 : (x != 0) = true := by simpa using hx
        repeat (first | with_reducible refine x_ops ?_ | (simp only [go_sem, Nat.reduceAdd, Nat.reduceEqDiff, Nat.reduceLT, Nat.reduceLeDiff, Nat.reduceMul, Nat.reduceSub, reduceIte, splice, vfill, e1]))
        refine x_on rfl ?_
        refine x_call none works_fn (by (simp only [go_sem, reduceIte, Nat.reduceEqDiff, V.norms, V.norm]); try rfl) ?_
        repeat (first | with_reducible refine x_ops ?_ | (simp only [go_sem, Nat.reduceAdd, Nat.reduceEqDiff, Nat.reduceLT, Nat.reduceLeDiff, Nat.reduceMul, Nat.reduceSub, reduceIte, splice, vfill]))
        exact finV_ret (r' := _) (by (simp only [go_sem, Nat.reduceAdd, Nat.reduceEqDiff, Nat.reduceLT, Nat.reduceLeDiff, Nat.reduceMul, Nat.reduceSub, reduceIte, resV, resAll, resOne, oneOr]); try rfl) (.lit _)
      · have e1 : decide (co < 1) = true := by simpa using hx
        repeat (first | with_reducible refine x_ops ?_ | (simp only [go_sem, Nat.reduceAdd, Nat.reduceEqDiff, Nat.reduceLT, Nat.reduceLeDiff, Nat.reduceMul, Nat.reduceSub, reduceIte, splice, vfill, e1, bne_self_eq_false]))
        refine x_on rfl ?_
        refine x_call none works_fn (by (simp only [go_sem, reduceIte, Nat.reduceEqDiff, V.norms, V.norm]); try rfl) ?_
        repeat (first | with_reducible refine x_ops ?_ | (simp only [go_sem, Nat.reduceAdd, Nat.reduceEqDiff, Nat.reduceLT, Nat.reduceLeDiff, Nat.reduceMul, Nat.reduceSub, reduceIte, splice, vfill]))
        exact finV_ret (r' := _) (by (simp only [go_sem, Nat.reduceAdd, Nat.reduceEqDiff, Nat.reduceLT, Nat.reduceLeDiff, Nat.reduceMul, Nat.reduceSub, reduceIte, resV, resAll, resOne, oneOr]); try rfl) (.lit _)
      · have e1 : decide (co < 1) = false := by simp; omega
        have e2 : decide (co > (cs.length : Int)) = true := by simpa using hx
        repeat (first | with_reducible refine x_ops ?_ | (simp only [go_sem, Nat.reduceAdd, Nat.reduceEqDiff, Nat.reduceLT, Nat.reduceLeDiff, Nat.reduceMul, Nat.reduceSub, reduceIte, splice, vfill, e1, e2, bne_self_eq_false]))
        refine x_on rfl ?_
        refine x_call none works_fn (by (simp only [go_sem, reduceIte, Nat.reduceEqDiff, V.norms, V.norm]); try rfl) ?_
        repeat (first | with_reducible refine x_ops ?_ | (simp only [go_sem, Nat.reduceAdd, Nat.reduceEqDiff, Nat.reduceLT, Nat.reduceLeDiff, Nat.reduceMul, Nat.reduceSub, reduceIte, splice, vfill]))
        exact finV_ret (r' := _) (by (simp only [go_sem, Nat.reduceAdd, Nat.reduceEqDiff, Nat.reduceLT, Nat.reduceLeDiff, Nat.reduceMul, Nat.reduceSub, reduceIte, resV, resAll, resOne, oneOr]); try rfl) (.lit _)
      · have e1 : decide (co < 1) = false := by simp; omega
        have e2 : decide (co > (cs.length : Int)) = false := by simp; omega
        have e3 : decide (f < 0) = true := by simpa using hx
        repeat (first | with_reducible refine x_ops ?_ | (simp only [go_sem, Nat.reduceAdd, Nat.reduceEqDiff, Nat.reduceLT, Nat.reduceLeDiff, Nat.reduceMul, Nat.reduceSub, reduceIte, splice, vfill, e1, e2, e3, bne_self_eq_false]))
        refine x_on rfl ?_
        refine x_call none works_fn (by (simp only [go_sem, reduceIte, Nat.reduceEqDiff, V.norms, V.norm]); try rfl) ?_
        repeat (first | with_reducible refine x_ops ?_ | (simp only [go_sem, Nat.reduceAdd, Nat.reduceEqDiff, Nat.reduceLT, Nat.reduceLeDiff, Nat.reduceMul, Nat.reduceSub, reduceIte, splice, vfill]))
        exact finV_ret (r' := _) (by (simp only [go_sem, Nat.reduceAdd, Nat.reduceEqDiff, Nat.reduceLT, Nat.reduceLeDiff, Nat.reduceMul, Nat.reduceSub, reduceIte, resV, resAll, resOne, oneOr]); try rfl) (.lit _)
      · have e1 : decide (co < 1) = false := by simp; omega
        have e2 : decide (co > (cs.length : Int)) = false := by simp; omega
        have e3 : decide (f < 0) = false := by simp; omega
        have hw : IntKind.i64.wrap (co - 1) = ((co.toNat - 1 : Nat) : Int) := by rw [IntWalk.i64_in _ (by omega)]; omega
        have hlti : ((co.toNat - 1 : Nat) : Int) < cs.length := by omega
        have gf := crs_f (l := cs) (k := co.toNat - 1) (by omega)
        simp only [vint] at gf
        have e4 : decide (f > (cs.getD (co.toNat - 1) default).f) = true := by simpa using hx
        repeat (first | with_reducible refine x_ops ?_ | (simp only [go_sem, Nat.reduceAdd, Nat.reduceEqDiff, Nat.reduceLT, Nat.reduceLeDiff, Nat.reduceMul, Nat.reduceSub, reduceIte, splice, vfill, e1, e2, e3, bne_self_eq_false, hw, hlti, lC, gf, e4]))
        refine x_on rfl ?_
        refine x_call none works_fn (by (simp only [go_sem, reduceIte, Nat.reduceEqDiff, V.norms, V.norm]); try rfl) ?_
        repeat (first | with_reducible refine x_ops ?_ | (simp only [go_sem, Nat.reduceAdd, Nat.reduceEqDiff, Nat.reduceLT, Nat.reduceLeDiff, Nat.reduceMul, Nat.reduceSub, reduceIte, splice, vfill]))
        exact finV_ret (r' := _) (by (simp only [go_sem, Nat.reduceAdd, Nat.reduceEqDiff, Nat.reduceLT, Nat.reduceLeDiff, Nat.reduceMul, Nat.reduceSub, reduceIte, resV, resAll, resOne, oneOr]); try rfl) (.lit _)
  · repeat (first | with_reducible refine x_ops ?_ | (simp only [go_sem, Nat.reduceAdd, Nat.reduceEqDiff, Nat.reduceLT, Nat.reduceLeDiff, Nat.reduceMul, Nat.reduceSub, reduceIte, splice, vfill]))
    refine x_call none works_fn (by (simp only [go_sem, reduceIte, Nat.reduceEqDiff, V.norms, V.norm]); try rfl) ?_
    repeat (first | with_reducible refine x_ops ?_ | (simp only [go_sem, Nat.reduceAdd, Nat.reduceEqDiff, Nat.reduceLT, Nat.reduceLeDiff, Nat.reduceMul, Nat.reduceSub, reduceIte, splice, vfill]))
    exact finV_ret (r' := _) (by (simp only [go_sem, Nat.reduceAdd, Nat.reduceEqDiff, Nat.reduceLT, Nat.reduceLeDiff, Nat.reduceMul, Nat.reduceSub, reduceIte, resV, resAll, resOne, oneOr]); try rfl) (.lit _)
end Go.Proofs.YtbdhjpdjbogggaaDoor
