/- Contracts on values: the reference's capo. -/
import Derived.Test.YtbdhjpdjbogggaaDoorX5
namespace Go.Proofs.YtbdhjpdjbogggaaDoor
open Go.RowKit
attribute [local go_sem] vx_skip vx_ret vx_exit vx_seq vx_block vx_scope vx_cond vx_condT vx_condF gR_nil gR_cons VO.stops beq_self_eq_true Bool.false_beq Bool.true_beq Bool.not_true Bool.not_false Bool.false_eq_true if_false exo VI.on if_true exoOp pureSem List.map_cons List.map_nil St.ev initT Option.map_some putT_get putT_none put_obj put_next M0_next freeze_obj freeze_next List.getD_cons_zero List.getD_cons_succ List.getD_nil V.cells rdable Nat.add_assoc Nat.add_zero Nat.add_left_cancel_iff Nat.add_eq_left Nat.left_eq_add decide_true Bool.true_or ite_self onB vbinI vint vbool List.drop_zero List.take_succ_cons List.drop_succ_cons List.take_zero List.length_cons List.length_nil List.getElem?_cons_zero List.getElem?_cons_succ decide_eq_true_eq true_and and_true Nat.le_refl List.zip_cons_cons List.zip_nil_left V.pubs V.pub Option.bind_some List.all_cons List.all_nil V.one Bool.and_self List.cons_append List.nil_append then_nrm then_ret then_exit inB_nrm inB_ret inB_exit Int.toNat_natCast Int.natCast_nonneg eq_self Nat.zero_add Nat.mul_one
set_option linter.unusedSimpArgs false
set_option linter.unusedVariables false

theorem splice_i {l : List Int} {k : Nat} (hk : k < l.length) (x : Int) : splice (lits (l.map (Value.int .i64))) k [vint x] = lits ((l.set k x).map (Value.int .i64)) := by
  have e : l = l.take k ++ l[k] :: l.drop (k + 1) := by rw [← List.drop_eq_getElem_cons hk, List.take_append_drop]
  have h1 : ∀ y : Int, lits ((l.take k ++ y :: l.drop (k + 1)).map (Value.int .i64)) = lits ((l.take k).map (Value.int .i64)) ++ vint y :: lits ((l.drop (k + 1)).map (Value.int .i64)) := fun y => by
    simp [lits, vint]
  have h2 : (lits ((l.take k).map (Value.int .i64))).length = k := by rw [ints_len, List.length_take]; omega
  have h3 : l.set k x = l.take k ++ x :: l.drop (k + 1) := by rw [List.set_eq_take_append_cons_drop, if_pos hk]
  rw [h3, h1]
  conv => lhs; rw [e]
  rw [h1]
  have := splice_mid (lits ((l.take k).map (Value.int .i64))) (lits ((l.drop (k + 1)).map (Value.int .i64))) (vint l[k]) (vint x)
  rw [h2] at this
  exact this
def stT (F : Nat) (b : Int) (ss : List Int) (k : Nat) : List Int := ss.take F ++ ((capS b ss F).take k ++ (ss.drop F).drop k)
section
variable {F k : Nat} {b : Int} {ss : List Int}
theorem stT_length (hF : F ≤ ss.length) (hk : k ≤ ss.length - F) : (stT F b ss k).length = ss.length := by
  simp only [stT, List.length_append, List.length_take, List.length_drop, capS_length]; omega
theorem stT_zero : stT F b ss 0 = ss := by simp [stT]
theorem stT_at (hF : F ≤ ss.length) (hk : k < ss.length - F) : (stT F b ss k).getD (F + k) 0 = (ss.drop F).getD k 0 := by
  rw [List.getD_eq_getElem?_getD, List.getD_eq_getElem?_getD, stT, List.getElem?_append_right (by rw [List.length_take]; omega), List.getElem?_append_right (by rw [List.length_take, List.length_take, capS_length]; omega), List.getElem?_drop]
  congr 2
  rw [List.length_take, List.length_take, capS_length]; omega
theorem stT_succ (hF : F ≤ ss.length) (hk : k < ss.length - F) : (stT F b ss k).set (F + k) (IntKind.i64.wrap ((ss.drop F).getD k 0 - b)) = stT F b ss (k + 1) := by
  have l1 : (ss.take F).length = F := by rw [List.length_take]; omega
  have l2 : ((capS b ss F).take k).length = k := by rw [List.length_take, capS_length]; omega
  rw [stT, stT, List.set_append_right _ _ (by omega), l1, Nat.add_sub_cancel_left, List.set_append_right _ _ (by omega), l2, Nat.sub_self,
    List.drop_eq_getElem_cons (l := ss.drop F) (i := k) (by rw [List.length_drop]; omega), List.set_cons_zero, capS_step hk, List.append_assoc]
  rfl
theorem stT_all (hF : F ≤ ss.length) : (lits ((stT F b ss (ss.length - F)).map (Value.int .i64))).drop F = lits ((capS b ss F).map (Value.int .i64)) := by
  have l1 : (ss.take F).length = F := by rw [List.length_take]; omega
  simp only [lits, ← List.map_drop]
  rw [stT, List.drop_append_of_le_length (by omega), List.drop_of_length_le (l := ss.take F) (by omega), List.nil_append, List.take_of_length_le (by rw [capS_length]; exact Nat.le_refl _), List.drop_of_length_le (l := ss.drop F) (by rw [List.length_drop]; exact Nat.le_refl _), List.append_nil]
end
theorem pub_two {n0 i n : Nat} {m : Mm} {cs : List Crs} {ss : List Int} {u : V} (hi : n0 ≤ i) (hn : cs.length = n) (h1 : n ≠ 0 → m.obj i = some (.box (lits (cells3 cs)) 59)) (hu : u.pubM n0 m = some (tInts ss)) :
    V.pubM n0 m (.agg [bv i n, u]) = some (tIns cs ss) := by
  subst hn
  rw [V.pubM, V.pubsM, pub_bv hi h1 (clean_crs cs) crs_nil, Option.bind_some, V.pubsM, hu, V.pubsM]
  rfl
theorem pub_cut {n0 j F n cap : Nat} {m : Mm} {xs : List Int} {ss : List Int} (hj : n0 ≤ j) (h : m.obj j = some (.box (lits (xs.map (Value.int .i64))) 3)) (he : (lits (xs.map (Value.int .i64))).drop F = lits (ss.map (Value.int .i64))) (hn : ss.length = n) :
    V.pubM n0 m (.bsl j F n cap) = some (tInts ss) := by
  subst hn
  rw [V.pubM, h]
  simp only [clean_ints, he, hj, and_self, if_true, tInts]
theorem pub_nil {n0 : Nat} {m : Mm} {ss : List Int} {t : Tok} (h : ss.length = 0) : V.pubM n0 m (.sl 0 [] t) = some (tInts ss) := by
  rw [List.eq_nil_of_length_eq_zero h, V.pubM]; rfl

def CrI (cs : List Crs) (ss : List Int) (F : Nat) (b : Int) (m : Mm) (i j : Nat) (s : St) : Prop := ∃ k : Nat, k ≤ cs.length ∧ s.t 9 = vint k ∧ s.t 1 = vint F ∧ s.t 8 = vint b ∧ s.t 7 = .ptr (m.next + 5) 0 ∧ s.t 4 = .ptr (m.next + 1) 0 ∧
  s.m.obj (m.next + 1) = some (.box [.sl 0 [] .exact, .sl 0 [] .exact] 39) ∧
  s.m.obj (m.next + 5) = some (.box [bv i cs.length, bv j ss.length] 39) ∧ (cs ≠ [] → s.m.obj i = some (.box (lits (cells3 (capT F b cs k))) 59)) ∧ (ss ≠ [] → s.m.obj j = some (.box (lits (ss.map (Value.int .i64))) 3)) ∧ (cs.take k).all (capGood F) = true ∧
  i < s.m.next ∧ j < s.m.next ∧ ∀ q, q < m.next → s.m.obj q = m.obj q
def CtI (cs : List Crs) (ss : List Int) (F : Nat) (b : Int) (m : Mm) (i j : Nat) (s : St) : Prop := ∃ k : Nat, k ≤ ss.length - F ∧ s.t 10 = vint k ∧ s.t 8 = vint b ∧ s.t 7 = .ptr (m.next + 5) 0 ∧ s.t 4 = .ptr (m.next + 1) 0 ∧
  s.m.obj (m.next + 1) = some (.box [.sl 0 [] .exact, .sl 0 [] .exact] 39) ∧
  s.m.obj (m.next + 5) = some (.box [bv i cs.length, .bsl j F (ss.length - F) (ss.length - F)] 39) ∧ (cs.length ≠ 0 → s.m.obj i = some (.box (lits (cells3 (cs.map (capC F b)))) 59)) ∧ s.m.obj j = some (.box (lits ((stT F b ss k).map (Value.int .i64))) 3) ∧
  i < s.m.next ∧ j < s.m.next ∧ ∀ q, q < m.next → s.m.obj q = m.obj q
theorem rcapo_fn (cs : List Crs) (ss : List Int) (f : Int) : Fn Tryd.prog Gd 44 [tIns cs ss, vint f] (capV (capO cs ss f)) := by
  refine Fn.of_vxM k_theorboref01_Capo (by simp) fun m => ?_
  unfold c_theorboref01_Capo tIns
  repeat (first | with_reducible refine x_ops ?_ | (simp only [go_sem, Nat.reduceAdd, Nat.reduceEqDiff, Nat.reduceLT, Nat.reduceLeDiff, Nat.reduceMul, Nat.reduceSub, reduceIte, splice, vfill]))
  refine x_call none (rcheck_fn cs ss) (by (simp only [go_sem, reduceIte, Nat.reduceEqDiff, V.norms, V.norm]); rfl) ?_
  repeat (first | with_reducible refine x_ops ?_ | (simp only [go_sem, Nat.reduceAdd, Nat.reduceEqDiff, Nat.reduceLT, Nat.reduceLeDiff, Nat.reduceMul, Nat.reduceSub, reduceIte, splice, vfill]))
  refine x_if (fun ht => ?_) (fun ht => ?_)
  · repeat (first | with_reducible refine x_ops ?_ | (simp only [go_sem, Nat.reduceAdd, Nat.reduceEqDiff, Nat.reduceLT, Nat.reduceLeDiff, Nat.reduceMul, Nat.reduceSub, reduceIte, splice, vfill]))
    have h0 : chk cs ss ≠ 0 := by simpa using ht
    rw [capO, if_neg h0]
    refine finM_ret (r' := _) (by (simp only [go_sem, Nat.reduceAdd, Nat.reduceEqDiff, Nat.reduceLT, Nat.reduceLeDiff, Nat.reduceMul, Nat.reduceSub, reduceIte, resV, resAll, resOne, oneOr]); try rfl) (pub_pair pub_none) ?_
    intro q hq
    simp only [put_obj, put_next, M0_next, freeze_obj, freeze_next, Nat.add_zero, Nat.zero_add, Nat.add_assoc, Nat.add_left_cancel_iff, Nat.add_eq_left, Nat.left_eq_add, decide_eq_true_eq, List.nil_append, List.append_nil, Nat.reduceAdd, Nat.reduceEqDiff, Nat.reduceLeDiff, Nat.reduceLT, reduceIte]
    repeat rw [if_neg (by omega)]
  · have h0 : chk cs ss = 0 := by simpa using ht
    rw [capO, if_pos h0]
    have hsm := chk_small h0
    have lC := crs_len cs
    have lS := ints_len ss
    by_cases hf : f < 0 ∨ (ss.length : Int) < f
    · rw [if_pos hf]
      by_cases hneg : f < 0
      · have hf0 : decide (f < 0) = true := by simpa using hneg
        repeat (first | with_reducible refine x_ops ?_ | (simp only [go_sem, Nat.reduceAdd, Nat.reduceEqDiff, Nat.reduceLT, Nat.reduceLeDiff, Nat.reduceMul, Nat.reduceSub, reduceIte, splice, vfill, hf0, tCrs, tInts]))
        refine finM_ret (r' := _) (by (simp only [go_sem, Nat.reduceAdd, Nat.reduceEqDiff, Nat.reduceLT, Nat.reduceLeDiff, Nat.reduceMul, Nat.reduceSub, reduceIte, resV, resAll, resOne, oneOr]); try rfl) (pub_pair pub_none) ?_
        intro q h
        simp only [put_obj, put_next, M0_next, freeze_obj, freeze_next, Nat.add_zero, Nat.zero_add, Nat.add_assoc, Nat.add_left_cancel_iff, Nat.add_eq_left, Nat.left_eq_add, decide_eq_true_eq, List.nil_append, List.append_nil, Nat.reduceAdd, Nat.reduceEqDiff, Nat.reduceLeDiff, Nat.reduceLT, reduceIte]
        repeat rw [if_neg (by omega)]
      · have hf0 : decide (f < 0) = false := by simpa using hneg
        have hf1 : decide (f > ss.length) = true := by simp; omega
        repeat (first | with_reducible refine x_ops ?_ | (simp only [go_sem, Nat.reduceAdd, Nat.reduceEqDiff, Nat.reduceLT, Nat.reduceLeDiff, Nat.reduceMul, Nat.reduceSub, reduceIte, splice, vfill, hf0, hf1, tCrs, tInts]))
        refine finM_ret (r' := _) (by (simp only [go_sem, Nat.reduceAdd, Nat.reduceEqDiff, Nat.reduceLT, Nat.reduceLeDiff, Nat.reduceMul, Nat.reduceSub, reduceIte, resV, resAll, resOne, oneOr]); try rfl) (pub_pair pub_none) ?_
        intro q h
        simp only [put_obj, put_next, M0_next, freeze_obj, freeze_next, Nat.add_zero, Nat.zero_add, Nat.add_assoc, Nat.add_left_cancel_iff, Nat.add_eq_left, Nat.left_eq_add, decide_eq_true_eq, List.nil_append, List.append_nil, Nat.reduceAdd, Nat.reduceEqDiff, Nat.reduceLeDiff, Nat.reduceLT, reduceIte]
        repeat rw [if_neg (by omega)]
    · rw [if_neg hf]
      have hf0 : decide (f < 0) = false := by simp; omega
      obtain ⟨F, rfl⟩ : ∃ F : Nat, f = F := ⟨f.toNat, by simp at hf0; omega⟩
      have hf1 : decide ((F : Int) > ss.length) = false := by simp; omega
      repeat (first | with_reducible refine x_ops ?_ | (simp only [go_sem, Nat.reduceAdd, Nat.reduceEqDiff, Nat.reduceLT, Nat.reduceLeDiff, Nat.reduceMul, Nat.reduceSub, reduceIte, splice, vfill, hf0, hf1, tCrs, tInts]))
      refine x_scall (copy_sfn cs ss (by omega) (by omega) _) (by (simp only [go_sem, reduceIte, Nat.reduceEqDiff, V.norms, V.norm]); rfl) (CopyP.ex _ _ _) ?_
      rintro r m2 ⟨i, j, hi, hj, hij, hi2, hj2, rfl, ho1, ho2, hk⟩
      have hA : m2.obj m.next = some (.box [tCrs cs, tInts ss] 39) := by
        rw [hk _ (by show m.next < m.next + 3 + 4; omega)]; simp only [put_obj, put_next, M0_next, freeze_obj, freeze_next, Nat.add_zero, Nat.zero_add, Nat.add_assoc, Nat.add_left_cancel_iff, Nat.add_eq_left, Nat.left_eq_add, decide_eq_true_eq, List.nil_append, List.append_nil, Nat.reduceAdd, Nat.reduceEqDiff, Nat.reduceLeDiff, Nat.reduceLT, reduceIte]; rfl
      have hC : m2.obj (m.next + 1) = some (.box [.sl 0 [] .exact, .sl 0 [] .exact] 39) := by
        rw [hk _ (by show m.next + 1 < m.next + 3 + 4; omega)]; simp only [put_obj, put_next, M0_next, freeze_obj, freeze_next, Nat.add_zero, Nat.zero_add, Nat.add_assoc, Nat.add_left_cancel_iff, Nat.add_eq_left, Nat.left_eq_add, decide_eq_true_eq, List.nil_append, List.append_nil, Nat.reduceAdd, Nat.reduceEqDiff, Nat.reduceLeDiff, Nat.reduceLT, reduceIte]
      have hq : ∀ q, q < m.next → m2.obj q = m.obj q := fun q hq => by
        rw [hk _ (by show q < m.next + 3 + 4; omega)]
        simp only [put_obj, put_next, M0_next, freeze_obj, freeze_next, Nat.add_zero, Nat.zero_add, Nat.add_assoc, Nat.add_left_cancel_iff, Nat.add_eq_left, Nat.left_eq_add, decide_eq_true_eq, List.nil_append, List.append_nil, Nat.reduceAdd, Nat.reduceEqDiff, Nat.reduceLeDiff, Nat.reduceLT, reduceIte]
        repeat rw [if_neg (by omega)]
      have hi' : m.next + 7 ≤ i := hi
      have hj' : m.next + 7 ≤ j := hj
      clear hk hi hj
      repeat (first | with_reducible refine x_ops ?_ | (simp only [go_sem, Nat.reduceAdd, Nat.reduceEqDiff, Nat.reduceLT, Nat.reduceLeDiff, Nat.reduceMul, Nat.reduceSub, reduceIte, splice, vfill, hA, hC, tCrs, tInts]))
      refine goR_ifm (by unfold bv; by_cases e1 : cs.length = 0 <;> by_cases e2 : ss.length = 0 <;> simp [e1, e2]) ?_
      repeat (first | with_reducible refine x_ops ?_ | (simp only [go_sem, Nat.reduceAdd, Nat.reduceEqDiff, Nat.reduceLT, Nat.reduceLeDiff, Nat.reduceMul, Nat.reduceSub, reduceIte, splice, vfill, hA, hC, tCrs, tInts]))
      refine x_if (fun hz => ?_) (fun hz => ?_)
      · have hz : F = 0 := by simpa using hz
        subst hz
        rw [if_pos (by rfl)]
        repeat (first | with_reducible refine x_ops ?_ | (simp only [go_sem, Nat.reduceAdd, Nat.reduceEqDiff, Nat.reduceLT, Nat.reduceLeDiff, Nat.reduceMul, Nat.reduceSub, reduceIte, splice, vfill, hA, hC, tCrs, tInts]))
        refine goR_ifm (by unfold bv; by_cases e1 : cs.length = 0 <;> by_cases e2 : ss.length = 0 <;> simp [e1, e2]) ?_
        repeat (first | with_reducible refine x_ops ?_ | (simp only [go_sem, Nat.reduceAdd, Nat.reduceEqDiff, Nat.reduceLT, Nat.reduceLeDiff, Nat.reduceMul, Nat.reduceSub, reduceIte, splice, vfill, hA, hC, tCrs, tInts]))
        refine finM_ret (r' := _) (by (simp only [go_sem, Nat.reduceAdd, Nat.reduceEqDiff, Nat.reduceLT, Nat.reduceLeDiff, Nat.reduceMul, Nat.reduceSub, reduceIte, resV, resAll, resOne, oneOr]); try rfl) (pub_pair (pub_ins (by omega) (by omega) (fun h => ?_) (fun h => ?_))) ?_
        · simp only [put_obj, put_next, M0_next, freeze_obj, freeze_next, Nat.add_zero, Nat.zero_add, Nat.add_assoc, Nat.add_left_cancel_iff, Nat.add_eq_left, Nat.left_eq_add, decide_eq_true_eq, List.nil_append, List.append_nil, Nat.reduceAdd, Nat.reduceEqDiff, Nat.reduceLeDiff, Nat.reduceLT, reduceIte]
          repeat rw [if_neg (by omega)]
          exact ho1 h
        · simp only [put_obj, put_next, M0_next, freeze_obj, freeze_next, Nat.add_zero, Nat.zero_add, Nat.add_assoc, Nat.add_left_cancel_iff, Nat.add_eq_left, Nat.left_eq_add, decide_eq_true_eq, List.nil_append, List.append_nil, Nat.reduceAdd, Nat.reduceEqDiff, Nat.reduceLeDiff, Nat.reduceLT, reduceIte]
          repeat rw [if_neg (by omega)]
          exact ho2 h
        · intro q h
          simp only [put_obj, put_next, M0_next, freeze_obj, freeze_next, Nat.add_zero, Nat.zero_add, Nat.add_assoc, Nat.add_left_cancel_iff, Nat.add_eq_left, Nat.left_eq_add, decide_eq_true_eq, List.nil_append, List.append_nil, Nat.reduceAdd, Nat.reduceEqDiff, Nat.reduceLeDiff, Nat.reduceLT, reduceIte]
          repeat rw [if_neg (by omega)]
          exact hq q h
      · have hz : F ≠ 0 := by simpa using hz
        rw [if_neg (by omega)]
        have hw : IntKind.i64.wrap ((F : Int) - 1) = ((F - 1 : Nat) : Int) := by rw [IntWalk.i64_in _ (by omega)]; omega
        have hl : ((F - 1 : Nat) : Int) < ss.length := by omega
        have gS := ints_at (l := ss) (k := F - 1) (by omega)
        have hlen := len_bv i cs.length
        simp only [pureSem, vint] at hlen
        repeat (first | with_reducible refine x_ops ?_ | (simp only [go_sem, Nat.reduceAdd, Nat.reduceEqDiff, Nat.reduceLT, Nat.reduceLeDiff, Nat.reduceMul, Nat.reduceSub, reduceIte, hA, hC, tCrs, tInts, hw, hl, gS, lS, hlen]))
        generalize ss.getD (F - 1) 0 = b
        refine x_loop (CrI cs ss F b m i j) (fun s => cs.length - numOf (s.t 9)) ?_ ?_
        · refine ⟨0, Nat.zero_le _, rfl, rfl, rfl, rfl, rfl, ?_, ?_, fun h => ?_, fun h => ?_, rfl, hi2, hj2, fun q h => ?_⟩
          · simp only [put_obj, put_next, M0_next, freeze_obj, freeze_next, Nat.add_zero, Nat.zero_add, Nat.add_assoc, Nat.add_left_cancel_iff, Nat.add_eq_left, Nat.left_eq_add, decide_eq_true_eq, List.nil_append, List.append_nil, Nat.reduceAdd, Nat.reduceEqDiff, Nat.reduceLeDiff, Nat.reduceLT, reduceIte]
            repeat rw [if_neg (by omega)]
            exact hC
          · exact if_pos rfl
          · simp only [put_obj, put_next, M0_next, freeze_obj, freeze_next, Nat.add_zero, Nat.zero_add, Nat.add_assoc, Nat.add_left_cancel_iff, Nat.add_eq_left, Nat.left_eq_add, decide_eq_true_eq, List.nil_append, List.append_nil, Nat.reduceAdd, Nat.reduceEqDiff, Nat.reduceLeDiff, Nat.reduceLT, reduceIte]
            repeat rw [if_neg (by omega)]
            rw [capT_zero]; exact ho1 h
          · simp only [put_obj, put_next, M0_next, freeze_obj, freeze_next, Nat.add_zero, Nat.zero_add, Nat.add_assoc, Nat.add_left_cancel_iff, Nat.add_eq_left, Nat.left_eq_add, decide_eq_true_eq, List.nil_append, List.append_nil, Nat.reduceAdd, Nat.reduceEqDiff, Nat.reduceLeDiff, Nat.reduceLT, reduceIte]
            repeat rw [if_neg (by omega)]
            exact ho2 h
          · simp only [put_obj, put_next, M0_next, freeze_obj, freeze_next, Nat.add_zero, Nat.zero_add, Nat.add_assoc, Nat.add_left_cancel_iff, Nat.add_eq_left, Nat.left_eq_add, decide_eq_true_eq, List.nil_append, List.append_nil, Nat.reduceAdd, Nat.reduceEqDiff, Nat.reduceLeDiff, Nat.reduceLT, reduceIte]
            repeat rw [if_neg (by omega)]
            exact hq q h
        · rintro s ⟨k, hk, h9, h1, h8, h7, h4, oC, oD, oI, oJ, hg, hin, hjn, ho⟩
          have hw1 : IntKind.i64.wrap ((k : Int) + 1) = ((k + 1 : Nat) : Int) := by rw [IntWalk.i64_in _ (by omega)]; omega
          repeat (first | with_reducible refine x_ops ?_ | (simp only [go_sem, Nat.reduceAdd, Nat.reduceEqDiff, Nat.reduceLT, Nat.reduceLeDiff, Nat.reduceMul, Nat.reduceSub, reduceIte, h9, h7, oD, hlen]))
          refine x_if (fun hlt => ?_) (fun hge => ?_)
          · have hlt : k < cs.length := by simpa using hlt
            have hlti : ((k : Nat) : Int) < cs.length := by omega
            have hcs : cs ≠ [] := by rintro rfl; simp at hlt
            have hbv : bv i cs.length = .bsl i 0 cs.length cs.length := if_neg (by omega)
            have oI := oI hcs
            have hl : k < (capT F b cs k).length := by rw [capT_length]; exact hlt
            have gf := crs_f hl
            have gp := crs_p hl
            rw [capT_at hlt] at gf gp
            have lT := crs_len (capT F b cs k)
            rw [capT_length] at lT
            have KEEP := capT_keep (f := F) (b := b) hlt
            have GOOD := good_succ (f := F) hlt
            have SUCC := capT_succ (f := F) (b := b) hlt
            have AT := capT_at (f := F) (b := b) hlt
            have BAD : capGood F (cs.getD k default) ≠ true → ¬ cs.all (capGood F) = true := fun h hall => h (List.all_eq_true.1 hall _ (by rw [List.getD_eq_getElem?_getD, List.getElem?_eq_getElem hlt]; exact List.getElem_mem _))
            repeat (first | with_reducible refine x_ops ?_ | (simp only [go_sem, Nat.reduceAdd, Nat.reduceEqDiff, Nat.reduceLT, Nat.reduceLeDiff, Nat.reduceMul, Nat.reduceSub, reduceIte, h9, h1, h8, h7, h4, oC, oD, oI, hbv, hlti, gf, gp, lT]))
            generalize cs.getD k default = c at *
            refine x_if (fun h0 => ?_) (fun h0 => ?_)
            · have h0 : c.f = 0 := by simpa using h0
              repeat (first | with_reducible refine x_ops ?_ | (simp only [go_sem, Nat.reduceAdd, Nat.reduceEqDiff, Nat.reduceLT, Nat.reduceLeDiff, Nat.reduceMul, Nat.reduceSub, reduceIte, hw1, h9]))
              refine ⟨⟨k + 1, hlt, rfl, h1, h8, h7, h4, oC, oD, fun _ => ?_, oJ, ?_, hin, hjn, ho⟩, ?_⟩
              · rw [KEEP h0]; exact oI
              · rw [GOOD, hg, capGood, h0]; rfl
              · simp [numOf]; omega
            · have h0 : c.f ≠ 0 := by simpa using h0
              repeat (first | with_reducible refine x_ops ?_ | (simp only [go_sem, Nat.reduceAdd, Nat.reduceEqDiff, Nat.reduceLT, Nat.reduceLeDiff, Nat.reduceMul, Nat.reduceSub, reduceIte, h9, h1, h8, h7, h4, oC, oD, oI, hbv, hlti, gf, gp, lT]))
              refine x_if (fun hF => ?_) (fun hF => ?_)
              · have hF : c.f < F := by simpa using hF
                rw [if_neg (BAD (by simp [capGood, h0]; omega))]
                repeat (first | with_reducible refine x_ops ?_ | (simp only [go_sem, Nat.reduceAdd, Nat.reduceEqDiff, Nat.reduceLT, Nat.reduceLeDiff, Nat.reduceMul, Nat.reduceSub, reduceIte, splice, vfill, h4, oC]))
                refine finM_ret (r' := _) (by (simp only [go_sem, Nat.reduceAdd, Nat.reduceEqDiff, Nat.reduceLT, Nat.reduceLeDiff, Nat.reduceMul, Nat.reduceSub, reduceIte, resV, resAll, resOne, oneOr, h4]); try rfl) (pub_pair pub_none) ?_
                intro q h
                simp only [put_obj, put_next, M0_next, freeze_obj, freeze_next, Nat.add_zero, Nat.zero_add, Nat.add_assoc, Nat.add_left_cancel_iff, Nat.add_eq_left, Nat.left_eq_add, decide_eq_true_eq, List.nil_append, List.append_nil, Nat.reduceAdd, Nat.reduceEqDiff, Nat.reduceLeDiff, Nat.reduceLT, reduceIte]
                repeat rw [if_neg (by omega)]
                exact ho q h
              · have hF : ¬ c.f < F := by simpa using hF
                obtain ⟨X1, hX1⟩ : ∃ x, x = IntKind.i64.wrap (c.f - F) := ⟨_, rfl⟩
                obtain ⟨X2, hX2⟩ : ∃ x, x = IntKind.i64.wrap (c.p + b) := ⟨_, rfl⟩
                have hs1 := splice_p hl X2
                rw [AT] at hs1
                obtain ⟨L1, hL1⟩ : ∃ l, l = (capT F b cs k).set k ⟨X2, c.f, c.o⟩ := ⟨_, rfl⟩
                have hk1 : k < L1.length := by rw [hL1, List.length_set]; exact hl
                have hg1 : L1.getD k default = ⟨X2, c.f, c.o⟩ := by rw [hL1, List.getD_eq_getElem?_getD, List.getElem?_set_self hl]; rfl
                have gf1 := crs_f hk1
                have hs2 := splice_f hk1 X1
                rw [hg1] at hs2 gf1
                have e2 : L1.set k ⟨X2, X1, c.o⟩ = capT F b cs (k + 1) := by
                  rw [hL1, List.set_set, ← SUCC, capC, if_neg h0, hX1, hX2]
                rw [← hL1] at hs1
                dsimp only at hs2 gf1
                rw [e2] at hs2
                have lL : (lits (cells3 L1)).length = cs.length * 3 := by rw [crs_len, hL1, List.length_set, capT_length]
                have b1 : k * 3 + 2 ≤ cs.length * 3 := by omega
                have b2 : k * 3 + 1 ≤ cs.length * 3 := by omega
                have n1 : ¬ (m.next + 5 = i) := by omega
                have r1 : m.next + 5 < s.m.next := by omega
                simp only [vint] at hs1 hs2 gf1
                repeat (first | with_reducible refine x_ops ?_ | (simp only [go_sem, Nat.reduceAdd, Nat.reduceEqDiff, Nat.reduceLT, Nat.reduceLeDiff, Nat.reduceMul, Nat.reduceSub, reduceIte, h9, h1, h8, h7, h4, oC, oD, oI, hbv, hlti, gf, gp, lT, hs1, hs2, gf1, lL, b1, b2, n1, ← hX1, ← hX2, hw1, r1, hin]))
                refine ⟨⟨k + 1, hlt, rfl, h1, h8, h7, h4, ?_, ?_, fun _ => ?_, fun h => ?_, ?_, hin, hjn, ?_⟩, ?_⟩
                · simp only [put_obj, put_next, M0_next, freeze_obj, freeze_next, Nat.add_zero, Nat.zero_add, Nat.add_assoc, Nat.add_left_cancel_iff, Nat.add_eq_left, Nat.left_eq_add, decide_eq_true_eq, List.nil_append, List.append_nil, Nat.reduceAdd, Nat.reduceEqDiff, Nat.reduceLeDiff, Nat.reduceLT, reduceIte]
                  repeat rw [if_neg (by omega)]
                  exact oC
                · simp only [put_obj, put_next, M0_next, freeze_obj, freeze_next, Nat.add_zero, Nat.zero_add, Nat.add_assoc, Nat.add_left_cancel_iff, Nat.add_eq_left, Nat.left_eq_add, decide_eq_true_eq, List.nil_append, List.append_nil, Nat.reduceAdd, Nat.reduceEqDiff, Nat.reduceLeDiff, Nat.reduceLT, reduceIte]
                  repeat rw [if_neg (by omega)]
                  exact oD
                · exact if_pos rfl
                · simp only [put_obj, put_next, M0_next, freeze_obj, freeze_next, Nat.add_zero, Nat.zero_add, Nat.add_assoc, Nat.add_left_cancel_iff, Nat.add_eq_left, Nat.left_eq_add, decide_eq_true_eq, List.nil_append, List.append_nil, Nat.reduceAdd, Nat.reduceEqDiff, Nat.reduceLeDiff, Nat.reduceLT, reduceIte]
                  repeat rw [if_neg (by omega)]
                  exact oJ h
                · rw [GOOD, hg, capGood]; simp; omega
                · intro q h
                  simp only [put_obj, put_next, M0_next, freeze_obj, freeze_next, Nat.add_zero, Nat.zero_add, Nat.add_assoc, Nat.add_left_cancel_iff, Nat.add_eq_left, Nat.left_eq_add, decide_eq_true_eq, List.nil_append, List.append_nil, Nat.reduceAdd, Nat.reduceEqDiff, Nat.reduceLeDiff, Nat.reduceLT, reduceIte]
                  repeat rw [if_neg (by omega)]
                  exact ho q h
                · simp [numOf]; omega
          · have hge : ¬ k < cs.length := by simpa using hge
            have hkn : k = cs.length := by omega
            subst hkn
            rw [List.take_length] at hg
            rw [if_pos hg]
            rw [capT_all (Nat.le_refl _)] at oI
            have hFl : (F : Int) ≤ ss.length := by omega
            have hbj : bv j ss.length = .bsl j 0 ss.length ss.length := if_neg (by omega)
            by_cases hFn : F < ss.length
            · have hFi : (F : Int) < ss.length := by omega
              repeat (first | with_reducible refine x_ops ?_ | (simp only [go_sem, Nat.reduceAdd, Nat.reduceEqDiff, Nat.reduceLT, Nat.reduceLeDiff, Nat.reduceMul, Nat.reduceSub, reduceIte, splice, vfill, h9, h1, h8, h7, h4, oC, oD, hbj, vslc, bnds, hFl, hFi, true_or, Nat.mul_one, Nat.zero_add, Int.le_refl]))
              refine x_loop (CtI cs ss F b m i j) (fun s => ss.length - F - numOf (s.t 10)) ?_ ?_
              · refine ⟨0, Nat.zero_le _, rfl, h8, h7, h4, ?_, ?_, fun h => ?_, ?_, hin, hjn, fun q h => ?_⟩
                · simp only [put_obj, put_next, M0_next, freeze_obj, freeze_next, Nat.add_zero, Nat.zero_add, Nat.add_assoc, Nat.add_left_cancel_iff, Nat.add_eq_left, Nat.left_eq_add, decide_eq_true_eq, List.nil_append, List.append_nil, Nat.reduceAdd, Nat.reduceEqDiff, Nat.reduceLeDiff, Nat.reduceLT, reduceIte]
                  repeat rw [if_neg (by omega)]
                  exact oC
                · exact if_pos rfl
                · simp only [put_obj, put_next, M0_next, freeze_obj, freeze_next, Nat.add_zero, Nat.zero_add, Nat.add_assoc, Nat.add_left_cancel_iff, Nat.add_eq_left, Nat.left_eq_add, decide_eq_true_eq, List.nil_append, List.append_nil, Nat.reduceAdd, Nat.reduceEqDiff, Nat.reduceLeDiff, Nat.reduceLT, reduceIte]
                  repeat rw [if_neg (by omega)]
                  exact oI (fun e => h (by rw [e]; rfl))
                · simp only [put_obj, put_next, M0_next, freeze_obj, freeze_next, Nat.add_zero, Nat.zero_add, Nat.add_assoc, Nat.add_left_cancel_iff, Nat.add_eq_left, Nat.left_eq_add, decide_eq_true_eq, List.nil_append, List.append_nil, Nat.reduceAdd, Nat.reduceEqDiff, Nat.reduceLeDiff, Nat.reduceLT, reduceIte]
                  repeat rw [if_neg (by omega)]
                  rw [stT_zero]; exact oJ (fun e => by rw [e] at hFn; simp at hFn)
                · simp only [put_obj, put_next, M0_next, freeze_obj, freeze_next, Nat.add_zero, Nat.zero_add, Nat.add_assoc, Nat.add_left_cancel_iff, Nat.add_eq_left, Nat.left_eq_add, decide_eq_true_eq, List.nil_append, List.append_nil, Nat.reduceAdd, Nat.reduceEqDiff, Nat.reduceLeDiff, Nat.reduceLT, reduceIte]
                  repeat rw [if_neg (by omega)]
                  exact ho q h
              · rintro s ⟨k, hk, h10, h8, h7, h4, oC, oD, oI, oJ, hin, hjn, ho⟩
                have hw1 : IntKind.i64.wrap ((k : Int) + 1) = ((k + 1 : Nat) : Int) := by rw [IntWalk.i64_in _ (by omega)]; omega
                repeat (first | with_reducible refine x_ops ?_ | (simp only [go_sem, Nat.reduceAdd, Nat.reduceEqDiff, Nat.reduceLT, Nat.reduceLeDiff, Nat.reduceMul, Nat.reduceSub, reduceIte, h10, h7, oD]))
                refine x_if (fun hlt => ?_) (fun hge => ?_)
                · have hlt : k < ss.length - F := by simp at hlt; omega
                  have hlti : ((k : Nat) : Int) < ((ss.length - F : Nat) : Int) := by omega
                  have hl : F + k < (stT F b ss k).length := by rw [stT_length (by omega) hk]; omega
                  have gd := ints_at hl
                  have hs := splice_i hl (IntKind.i64.wrap ((ss.drop F).getD k 0 - b))
                  rw [stT_succ (by omega) hlt] at hs
                  rw [stT_at (by omega) hlt] at gd
                  have lT := ints_len (stT F b ss k)
                  rw [stT_length (by omega) hk] at lT
                  generalize (ss.drop F).getD k 0 = x at *
                  obtain ⟨X, hX⟩ : ∃ y, y = IntKind.i64.wrap (x - b) := ⟨_, rfl⟩
                  rw [← hX] at hs
                  have r1 : m.next + 5 < s.m.next := by omega
                  have b1 : F + k + 1 ≤ ss.length := by omega
                  have b2 : F + (k + 1) ≤ ss.length := by omega
                  simp only [vint] at gd hs
                  repeat (first | with_reducible refine x_ops ?_ | (simp only [go_sem, Nat.reduceAdd, Nat.reduceEqDiff, Nat.reduceLT, Nat.reduceLeDiff, Nat.reduceMul, Nat.reduceSub, reduceIte, h10, h8, h7, oC, oD, oJ, hlti, gd, lT, hs, ← hX, r1, hjn, hw1, b1, b2]))
                  refine ⟨⟨k + 1, hlt, rfl, h8, h7, h4, ?_, ?_, fun h => ?_, ?_, hin, hjn, fun q h => ?_⟩, ?_⟩
                  · simp only [put_obj, put_next, M0_next, freeze_obj, freeze_next, Nat.add_zero, Nat.zero_add, Nat.add_assoc, Nat.add_left_cancel_iff, Nat.add_eq_left, Nat.left_eq_add, decide_eq_true_eq, List.nil_append, List.append_nil, Nat.reduceAdd, Nat.reduceEqDiff, Nat.reduceLeDiff, Nat.reduceLT, reduceIte]
                    repeat rw [if_neg (by omega)]
                    exact oC
                  · simp only [put_obj, put_next, M0_next, freeze_obj, freeze_next, Nat.add_zero, Nat.zero_add, Nat.add_assoc, Nat.add_left_cancel_iff, Nat.add_eq_left, Nat.left_eq_add, decide_eq_true_eq, List.nil_append, List.append_nil, Nat.reduceAdd, Nat.reduceEqDiff, Nat.reduceLeDiff, Nat.reduceLT, reduceIte]
                    repeat rw [if_neg (by omega)]
                    exact oD
                  · simp only [put_obj, put_next, M0_next, freeze_obj, freeze_next, Nat.add_zero, Nat.zero_add, Nat.add_assoc, Nat.add_left_cancel_iff, Nat.add_eq_left, Nat.left_eq_add, decide_eq_true_eq, List.nil_append, List.append_nil, Nat.reduceAdd, Nat.reduceEqDiff, Nat.reduceLeDiff, Nat.reduceLT, reduceIte]
                    repeat rw [if_neg (by omega)]
                    exact oI h
                  · exact if_pos rfl
                  · simp only [put_obj, put_next, M0_next, freeze_obj, freeze_next, Nat.add_zero, Nat.zero_add, Nat.add_assoc, Nat.add_left_cancel_iff, Nat.add_eq_left, Nat.left_eq_add, decide_eq_true_eq, List.nil_append, List.append_nil, Nat.reduceAdd, Nat.reduceEqDiff, Nat.reduceLeDiff, Nat.reduceLT, reduceIte]
                    repeat rw [if_neg (by omega)]
                    exact ho q h
                  · simp [numOf]; omega
                · have hge : ¬ k < ss.length - F := by simp at hge; omega
                  have hkn : k = ss.length - F := by omega
                  subst hkn
                  repeat (first | with_reducible refine x_ops ?_ | (simp only [go_sem, Nat.reduceAdd, Nat.reduceEqDiff, Nat.reduceLT, Nat.reduceLeDiff, Nat.reduceMul, Nat.reduceSub, reduceIte, splice, vfill, h7, h4, oC, oD]))
                  refine goR_ifm (by unfold bv; by_cases e1 : cs.length = 0 <;> simp [e1]) ?_
                  repeat (first | with_reducible refine x_ops ?_ | (simp only [go_sem, Nat.reduceAdd, Nat.reduceEqDiff, Nat.reduceLT, Nat.reduceLeDiff, Nat.reduceMul, Nat.reduceSub, reduceIte, splice, vfill, h7, h4, oC, oD]))
                  refine finM_ret (r' := _) (by (simp only [go_sem, Nat.reduceAdd, Nat.reduceEqDiff, Nat.reduceLT, Nat.reduceLeDiff, Nat.reduceMul, Nat.reduceSub, reduceIte, resV, resAll, resOne, oneOr, h4]); try rfl) (pub_pair (pub_two (by omega) (List.length_map _) (fun h => ?_) (pub_cut (by omega) ?_ (stT_all (by omega)) capS_length))) ?_
                  · simp only [put_obj, put_next, M0_next, freeze_obj, freeze_next, Nat.add_zero, Nat.zero_add, Nat.add_assoc, Nat.add_left_cancel_iff, Nat.add_eq_left, Nat.left_eq_add, decide_eq_true_eq, List.nil_append, List.append_nil, Nat.reduceAdd, Nat.reduceEqDiff, Nat.reduceLeDiff, Nat.reduceLT, reduceIte]
                    repeat rw [if_neg (by omega)]
                    exact oI h
                  · simp only [put_obj, put_next, M0_next, freeze_obj, freeze_next, Nat.add_zero, Nat.zero_add, Nat.add_assoc, Nat.add_left_cancel_iff, Nat.add_eq_left, Nat.left_eq_add, decide_eq_true_eq, List.nil_append, List.append_nil, Nat.reduceAdd, Nat.reduceEqDiff, Nat.reduceLeDiff, Nat.reduceLT, reduceIte]
                    repeat rw [if_neg (by omega)]
                    exact oJ
                  · intro q h
                    simp only [put_obj, put_next, M0_next, freeze_obj, freeze_next, Nat.add_zero, Nat.zero_add, Nat.add_assoc, Nat.add_left_cancel_iff, Nat.add_eq_left, Nat.left_eq_add, decide_eq_true_eq, List.nil_append, List.append_nil, Nat.reduceAdd, Nat.reduceEqDiff, Nat.reduceLeDiff, Nat.reduceLT, reduceIte]
                    repeat rw [if_neg (by omega)]
                    exact ho q h
            · have hFi : ¬ ((F : Int) < ss.length) := by omega
              have hF0 : ¬ ((F : Int) = 0) := by omega
              repeat (first | with_reducible refine x_ops ?_ | (simp only [go_sem, Nat.reduceAdd, Nat.reduceEqDiff, Nat.reduceLT, Nat.reduceLeDiff, Nat.reduceMul, Nat.reduceSub, reduceIte, splice, vfill, h9, h1, h8, h7, h4, oC, oD, hbj, vslc, bnds, hFl, hFi, hF0, or_self, Nat.mul_one, Nat.zero_add, Int.le_refl]))
              refine x_loop (fun s' => s'.t 10 = vint 0 ∧ s'.t 7 = .ptr (m.next + 5) 0 ∧ s'.t 4 = .ptr (m.next + 1) 0 ∧ s'.m.obj (m.next + 5) = some (.box [bv i cs.length, .sl 0 [] .no] 39) ∧ s'.m.obj (m.next + 1) = some (.box [.sl 0 [] .exact, .sl 0 [] .exact] 39) ∧
                (cs.length ≠ 0 → s'.m.obj i = some (.box (lits (cells3 (cs.map (capC F b)))) 59)) ∧ ∀ q, q < m.next → s'.m.obj q = m.obj q) (fun _ => 0) ⟨rfl, h7, h4, if_pos rfl, ?_, fun h => ?_, fun q h => ?_⟩ ?_
              · simp only [put_obj, put_next, M0_next, freeze_obj, freeze_next, Nat.add_zero, Nat.zero_add, Nat.add_assoc, Nat.add_left_cancel_iff, Nat.add_eq_left, Nat.left_eq_add, decide_eq_true_eq, List.nil_append, List.append_nil, Nat.reduceAdd, Nat.reduceEqDiff, Nat.reduceLeDiff, Nat.reduceLT, reduceIte]
                repeat rw [if_neg (by omega)]
                exact oC
              · simp only [put_obj, put_next, M0_next, freeze_obj, freeze_next, Nat.add_zero, Nat.zero_add, Nat.add_assoc, Nat.add_left_cancel_iff, Nat.add_eq_left, Nat.left_eq_add, decide_eq_true_eq, List.nil_append, List.append_nil, Nat.reduceAdd, Nat.reduceEqDiff, Nat.reduceLeDiff, Nat.reduceLT, reduceIte]
                repeat rw [if_neg (by omega)]
                exact oI (fun e => h (by rw [e]; rfl))
              · simp only [put_obj, put_next, M0_next, freeze_obj, freeze_next, Nat.add_zero, Nat.zero_add, Nat.add_assoc, Nat.add_left_cancel_iff, Nat.add_eq_left, Nat.left_eq_add, decide_eq_true_eq, List.nil_append, List.append_nil, Nat.reduceAdd, Nat.reduceEqDiff, Nat.reduceLeDiff, Nat.reduceLT, reduceIte]
                repeat rw [if_neg (by omega)]
                exact ho q h
              · rintro s ⟨h10, h7, h4, oD, oC, oI, ho⟩
                repeat (first | with_reducible refine x_ops ?_ | (simp only [go_sem, Nat.reduceAdd, Nat.reduceEqDiff, Nat.reduceLT, Nat.reduceLeDiff, Nat.reduceMul, Nat.reduceSub, reduceIte, h10, h7, oD]))
                refine x_if (fun hlt => by simp at hlt) (fun hge => ?_)
                repeat (first | with_reducible refine x_ops ?_ | (simp only [go_sem, Nat.reduceAdd, Nat.reduceEqDiff, Nat.reduceLT, Nat.reduceLeDiff, Nat.reduceMul, Nat.reduceSub, reduceIte, splice, vfill, h7, h4, oC, oD]))
                refine goR_ifm (by unfold bv; by_cases e1 : cs.length = 0 <;> simp [e1]) ?_
                repeat (first | with_reducible refine x_ops ?_ | (simp only [go_sem, Nat.reduceAdd, Nat.reduceEqDiff, Nat.reduceLT, Nat.reduceLeDiff, Nat.reduceMul, Nat.reduceSub, reduceIte, splice, vfill, h7, h4, oC, oD]))
                refine finM_ret (r' := _) (by (simp only [go_sem, Nat.reduceAdd, Nat.reduceEqDiff, Nat.reduceLT, Nat.reduceLeDiff, Nat.reduceMul, Nat.reduceSub, reduceIte, resV, resAll, resOne, oneOr, h4]); try rfl) (pub_pair (pub_two (by omega) (List.length_map _) (fun h => ?_) (pub_nil (by rw [capS_length]; omega)))) ?_
                · simp only [put_obj, put_next, M0_next, freeze_obj, freeze_next, Nat.add_zero, Nat.zero_add, Nat.add_assoc, Nat.add_left_cancel_iff, Nat.add_eq_left, Nat.left_eq_add, decide_eq_true_eq, List.nil_append, List.append_nil, Nat.reduceAdd, Nat.reduceEqDiff, Nat.reduceLeDiff, Nat.reduceLT, reduceIte]
                  repeat rw [if_neg (by omega)]
                  exact oI h
                · intro q h
                  simp only [put_obj, put_next, M0_next, freeze_obj, freeze_next, Nat.add_zero, Nat.zero_add, Nat.add_assoc, Nat.add_left_cancel_iff, Nat.add_eq_left, Nat.left_eq_add, decide_eq_true_eq, List.nil_append, List.append_nil, Nat.reduceAdd, Nat.reduceEqDiff, Nat.reduceLeDiff, Nat.reduceLT, reduceIte]
                  repeat rw [if_neg (by omega)]
                  exact ho q h
end Go.Proofs.YtbdhjpdjbogggaaDoor
