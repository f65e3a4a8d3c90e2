/- Contracts on values: the program's capo. -/
import Derived.Test.YtbdhjpdjbogggaaDoorX2
namespace Go.Proofs.YtbdhjpdjbogggaaDoor
open Go.RowKit
attribute [local go_sem] vx_skip vx_ret vx_exit vx_seq vx_block vx_scope vx_cond vx_condT vx_condF gR_nil gR_cons VO.stops beq_self_eq_true Bool.false_beq Bool.true_beq Bool.not_true Bool.not_false Bool.false_eq_true if_false exo VI.on if_true exoOp pureSem List.map_cons List.map_nil St.ev initT Option.map_some putT_get putT_none put_obj put_next M0_next freeze_obj freeze_next List.getD_cons_zero List.getD_cons_succ List.getD_nil V.cells rdable Nat.add_assoc Nat.add_zero Nat.add_left_cancel_iff Nat.add_eq_left Nat.left_eq_add decide_true Bool.true_or ite_self onB vbinI vint vbool List.drop_zero List.take_succ_cons List.drop_succ_cons List.take_zero List.length_cons List.length_nil List.getElem?_cons_zero List.getElem?_cons_succ decide_eq_true_eq true_and and_true Nat.le_refl List.zip_cons_cons List.zip_nil_left V.pubs V.pub Option.bind_some List.all_cons List.all_nil V.one Bool.and_self List.cons_append List.nil_append then_nrm then_ret then_exit inB_nrm inB_ret inB_exit Int.toNat_natCast Int.natCast_nonneg eq_self Nat.zero_add Nat.mul_one
set_option linter.unusedSimpArgs false
set_option linter.unusedVariables false

theorem pub_none {n0 : Nat} {m : Mm} : V.pubM n0 m (.agg [.sl 0 [] .exact, .sl 0 [] .exact]) = some (tIns [] []) := by
  rw [V.pubM, V.pubsM, V.pubM, Option.bind_some, V.pubsM, V.pubM, V.pubsM]; rfl
theorem pub_pair {n0 : Nat} {m : Mm} {x y : V} {n : Int} (h : x.pubM n0 m = some y) : V.pubM n0 m (.tup [x, vint n]) = some (.tup [y, vint n]) := by
  rw [V.pubM, V.pubsM, h, Option.bind_some, V.pubsM, vint, V.pubM, V.pubsM]; rfl

def CaI (cs : List Crs) (ss : List Int) (F : Nat) (b : Int) (m : Mm) (i j : Nat) (s : St) : Prop := ∃ k : Nat, k ≤ cs.length ∧ s.t 43 = vint k ∧ s.t 42 = vint cs.length ∧ s.t 1 = vint F ∧ s.t 8 = vint b ∧ s.t 7 = .ptr (m.next + 5) 0 ∧ s.t 4 = .ptr (m.next + 1) 0 ∧
  s.t 2 = .ptr m.next 0 ∧ s.m.obj m.next = some (.box [tCrs cs, tInts ss] 39) ∧ s.m.obj (m.next + 1) = some (.box [.sl 0 [] .exact, .sl 0 [] .exact] 39) ∧
  s.m.obj (m.next + 5) = some (.box [bv i cs.length, bv j ss.length] 39) ∧ (cs ≠ [] → s.m.obj i = some (.box (lits (cells3 (capT F b cs k))) 59)) ∧ (cs.take k).all (capGood F) = true ∧
  m.next + 7 ≤ i ∧ i < s.m.next ∧ ∀ q, q < m.next → s.m.obj q = m.obj q

def CbI (cs : List Crs) (ss : List Int) (F : Nat) (b : Int) (m : Mm) (i : Nat) (s : St) : Prop := ∃ (k : Nat) (t : Tok), k ≤ ss.length - F ∧ s.t 85 = vint k ∧ s.t 84 = vint ((ss.length - F : Nat) : Int) ∧ s.t 83 = .sl (ss.length - F) (lits ((ss.drop F).map (Value.int .i64))) .no ∧
  s.t 8 = vint b ∧ s.t 7 = .ptr (m.next + 5) 0 ∧ s.t 4 = .ptr (m.next + 1) 0 ∧ s.m.obj (m.next + 1) = some (.box [.sl 0 [] .exact, .sl 0 [] .exact] 39) ∧
  s.m.obj (m.next + 5) = some (.box [bv i cs.length, .sl k (lits (((capS b ss F).take k).map (Value.int .i64))) t] 39) ∧ Ap m.next s.m t k 3 1 ∧
  (cs.length ≠ 0 → s.m.obj i = some (.box (lits (cells3 (cs.map (capC F b)))) 59)) ∧ m.next + 7 ≤ i ∧ i < s.m.next ∧ ∀ q, q < m.next → s.m.obj q = m.obj q

theorem capo_fn (cs : List Crs) (ss : List Int) (f : Int) : Fn Tryd.prog Gd 43 [tIns cs ss, vint f] (capV (capO cs ss f)) := by
  refine Fn.of_vxM k_instrument_Capo (by simp) fun m => ?_
  unfold c_instrument_Capo tIns
  repeat (first | with_reducible refine x_ops ?_ | (simp only [go_sem, Nat.reduceAdd, Nat.reduceEqDiff, Nat.reduceLT, Nat.reduceLeDiff, Nat.reduceMul, Nat.reduceSub, reduceIte, splice, vfill]))
  refine x_call none (check_fn cs ss) (by (simp only [go_sem, reduceIte, Nat.reduceEqDiff, V.norms, V.norm]); rfl) ?_
  repeat (first | with_reducible refine x_ops ?_ | (simp only [go_sem, Nat.reduceAdd, Nat.reduceEqDiff, Nat.reduceLT, Nat.reduceLeDiff, Nat.reduceMul, Nat.reduceSub, reduceIte, splice, vfill]))
  refine x_if (fun ht => ?_) (fun ht => ?_)
  · repeat (first | with_reducible refine x_ops ?_ | (simp only [go_sem, Nat.reduceAdd, Nat.reduceEqDiff, Nat.reduceLT, Nat.reduceLeDiff, Nat.reduceMul, Nat.reduceSub, reduceIte, splice, vfill]))
    have h0 : chk cs ss ≠ 0 := by simpa using ht
    rw [capO, if_neg h0]
    refine finM_ret (r' := _) (by (simp only [go_sem, Nat.reduceAdd, Nat.reduceEqDiff, Nat.reduceLT, Nat.reduceLeDiff, Nat.reduceMul, Nat.reduceSub, reduceIte, resV, resAll, resOne, oneOr]); try rfl) (pub_pair pub_none) ?_
    intro q hq
    simp only [put_obj, put_next, M0_next, freeze_obj, freeze_next, Nat.add_zero, Nat.zero_add, Nat.add_assoc, Nat.add_left_cancel_iff, Nat.add_eq_left, Nat.left_eq_add, decide_eq_true_eq, List.nil_append, List.append_nil, Nat.reduceAdd, Nat.reduceEqDiff, Nat.reduceLeDiff, Nat.reduceLT, reduceIte]
    repeat rw [if_neg (by omega)]
  · have h0 : chk cs ss = 0 := by simpa using ht
    rw [capO, if_pos h0]
    have hsm := chk_small h0
    have lC := crs_len cs
    have lS := ints_len ss
    by_cases hf : f < 0 ∨ (ss.length : Int) < f
    · rw [if_pos hf]
      by_cases hneg : f < 0
      · have hf0 : decide (f < 0) = true := by simpa using hneg
        repeat (first | with_reducible refine x_ops ?_ | (simp only [go_sem, Nat.reduceAdd, Nat.reduceEqDiff, Nat.reduceLT, Nat.reduceLeDiff, Nat.reduceMul, Nat.reduceSub, reduceIte, splice, vfill, hf0, tCrs, tInts]))
        refine finM_ret (r' := _) (by (simp only [go_sem, Nat.reduceAdd, Nat.reduceEqDiff, Nat.reduceLT, Nat.reduceLeDiff, Nat.reduceMul, Nat.reduceSub, reduceIte, resV, resAll, resOne, oneOr]); try rfl) (pub_pair pub_none) ?_
        intro q h
        simp only [put_obj, put_next, M0_next, freeze_obj, freeze_next, Nat.add_zero, Nat.zero_add, Nat.add_assoc, Nat.add_left_cancel_iff, Nat.add_eq_left, Nat.left_eq_add, decide_eq_true_eq, List.nil_append, List.append_nil, Nat.reduceAdd, Nat.reduceEqDiff, Nat.reduceLeDiff, Nat.reduceLT, reduceIte]
        repeat rw [if_neg (by omega)]
      · have hf0 : decide (f < 0) = false := by simpa using hneg
        have hf1 : decide (f > ss.length) = true := by simp; omega
        repeat (first | with_reducible refine x_ops ?_ | (simp only [go_sem, Nat.reduceAdd, Nat.reduceEqDiff, Nat.reduceLT, Nat.reduceLeDiff, Nat.reduceMul, Nat.reduceSub, reduceIte, splice, vfill, hf0, hf1, tCrs, tInts]))
        refine finM_ret (r' := _) (by (simp only [go_sem, Nat.reduceAdd, Nat.reduceEqDiff, Nat.reduceLT, Nat.reduceLeDiff, Nat.reduceMul, Nat.reduceSub, reduceIte, resV, resAll, resOne, oneOr]); try rfl) (pub_pair pub_none) ?_
        intro q h
        simp only [put_obj, put_next, M0_next, freeze_obj, freeze_next, Nat.add_zero, Nat.zero_add, Nat.add_assoc, Nat.add_left_cancel_iff, Nat.add_eq_left, Nat.left_eq_add, decide_eq_true_eq, List.nil_append, List.append_nil, Nat.reduceAdd, Nat.reduceEqDiff, Nat.reduceLeDiff, Nat.reduceLT, reduceIte]
        repeat rw [if_neg (by omega)]
    · rw [if_neg hf]
      have hf0 : decide (f < 0) = false := by simp; omega
      obtain ⟨F, rfl⟩ : ∃ F : Nat, f = F := ⟨f.toNat, by simp at hf0; omega⟩
      have hf1 : decide ((F : Int) > ss.length) = false := by simp; omega
      repeat (first | with_reducible refine x_ops ?_ | (simp only [go_sem, Nat.reduceAdd, Nat.reduceEqDiff, Nat.reduceLT, Nat.reduceLeDiff, Nat.reduceMul, Nat.reduceSub, reduceIte, splice, vfill, hf0, hf1, tCrs, tInts]))
      refine x_scall (clone_sfn cs ss (by omega) (by omega) _) (by (simp only [go_sem, reduceIte, Nat.reduceEqDiff, V.norms, V.norm]); rfl) (CopyP.ex _ _ _) ?_
      rintro r m2 ⟨i, j, hi, hj, hij, hi2, hj2, rfl, ho1, ho2, hk⟩
      have hA : m2.obj m.next = some (.box [tCrs cs, tInts ss] 39) := by
        rw [hk _ (by show m.next < m.next + 3 + 4; omega)]; simp only [put_obj, put_next, M0_next, freeze_obj, freeze_next, Nat.add_zero, Nat.zero_add, Nat.add_assoc, Nat.add_left_cancel_iff, Nat.add_eq_left, Nat.left_eq_add, decide_eq_true_eq, List.nil_append, List.append_nil, Nat.reduceAdd, Nat.reduceEqDiff, Nat.reduceLeDiff, Nat.reduceLT, reduceIte]; rfl
      have hC : m2.obj (m.next + 1) = some (.box [.sl 0 [] .exact, .sl 0 [] .exact] 39) := by
        rw [hk _ (by show m.next + 1 < m.next + 3 + 4; omega)]; simp only [put_obj, put_next, M0_next, freeze_obj, freeze_next, Nat.add_zero, Nat.zero_add, Nat.add_assoc, Nat.add_left_cancel_iff, Nat.add_eq_left, Nat.left_eq_add, decide_eq_true_eq, List.nil_append, List.append_nil, Nat.reduceAdd, Nat.reduceEqDiff, Nat.reduceLeDiff, Nat.reduceLT, reduceIte]
      have hq : ∀ q, q < m.next → m2.obj q = m.obj q := fun q hq => by
        rw [hk _ (by show q < m.next + 3 + 4; omega)]
        simp only [put_obj, put_next, M0_next, freeze_obj, freeze_next, Nat.add_zero, Nat.zero_add, Nat.add_assoc, Nat.add_left_cancel_iff, Nat.add_eq_left, Nat.left_eq_add, decide_eq_true_eq, List.nil_append, List.append_nil, Nat.reduceAdd, Nat.reduceEqDiff, Nat.reduceLeDiff, Nat.reduceLT, reduceIte]
        repeat rw [if_neg (by omega)]
      have hi' : m.next + 7 ≤ i := hi
      have hj' : m.next + 7 ≤ j := hj
      clear hk hi hj hj2
      repeat (first | with_reducible refine x_ops ?_ | (simp only [go_sem, Nat.reduceAdd, Nat.reduceEqDiff, Nat.reduceLT, Nat.reduceLeDiff, Nat.reduceMul, Nat.reduceSub, reduceIte, splice, vfill, hA, hC, tCrs, tInts]))
      refine goR_ifm (by unfold bv; by_cases e1 : cs.length = 0 <;> by_cases e2 : ss.length = 0 <;> simp [e1, e2]) ?_
      repeat (first | with_reducible refine x_ops ?_ | (simp only [go_sem, Nat.reduceAdd, Nat.reduceEqDiff, Nat.reduceLT, Nat.reduceLeDiff, Nat.reduceMul, Nat.reduceSub, reduceIte, splice, vfill, hA, hC, tCrs, tInts]))
      refine x_if (fun hz => ?_) (fun hz => ?_)
      · have hz : F = 0 := by simpa using hz
        subst hz
        rw [if_pos (by rfl)]
        repeat (first | with_reducible refine x_ops ?_ | (simp only [go_sem, Nat.reduceAdd, Nat.reduceEqDiff, Nat.reduceLT, Nat.reduceLeDiff, Nat.reduceMul, Nat.reduceSub, reduceIte, splice, vfill, hA, hC, tCrs, tInts]))
        refine goR_ifm (by unfold bv; by_cases e1 : cs.length = 0 <;> by_cases e2 : ss.length = 0 <;> simp [e1, e2]) ?_
        repeat (first | with_reducible refine x_ops ?_ | (simp only [go_sem, Nat.reduceAdd, Nat.reduceEqDiff, Nat.reduceLT, Nat.reduceLeDiff, Nat.reduceMul, Nat.reduceSub, reduceIte, splice, vfill, hA, hC, tCrs, tInts]))
        refine finM_ret (r' := _) (by (simp only [go_sem, Nat.reduceAdd, Nat.reduceEqDiff, Nat.reduceLT, Nat.reduceLeDiff, Nat.reduceMul, Nat.reduceSub, reduceIte, resV, resAll, resOne, oneOr]); try rfl) (pub_pair (pub_ins (by omega) (by omega) (fun h => ?_) (fun h => ?_))) ?_
        · simp only [put_obj, put_next, M0_next, freeze_obj, freeze_next, Nat.add_zero, Nat.zero_add, Nat.add_assoc, Nat.add_left_cancel_iff, Nat.add_eq_left, Nat.left_eq_add, decide_eq_true_eq, List.nil_append, List.append_nil, Nat.reduceAdd, Nat.reduceEqDiff, Nat.reduceLeDiff, Nat.reduceLT, reduceIte]
          repeat rw [if_neg (by omega)]
          exact ho1 h
        · simp only [put_obj, put_next, M0_next, freeze_obj, freeze_next, Nat.add_zero, Nat.zero_add, Nat.add_assoc, Nat.add_left_cancel_iff, Nat.add_eq_left, Nat.left_eq_add, decide_eq_true_eq, List.nil_append, List.append_nil, Nat.reduceAdd, Nat.reduceEqDiff, Nat.reduceLeDiff, Nat.reduceLT, reduceIte]
          repeat rw [if_neg (by omega)]
          exact ho2 h
        · intro q h
          simp only [put_obj, put_next, M0_next, freeze_obj, freeze_next, Nat.add_zero, Nat.zero_add, Nat.add_assoc, Nat.add_left_cancel_iff, Nat.add_eq_left, Nat.left_eq_add, decide_eq_true_eq, List.nil_append, List.append_nil, Nat.reduceAdd, Nat.reduceEqDiff, Nat.reduceLeDiff, Nat.reduceLT, reduceIte]
          repeat rw [if_neg (by omega)]
          exact hq q h
      · have hz : F ≠ 0 := by simpa using hz
        rw [if_neg (by omega)]
        have hw : IntKind.i64.wrap ((F : Int) - 1) = ((F - 1 : Nat) : Int) := by rw [IntWalk.i64_in _ (by omega)]; omega
        have hl : ((F - 1 : Nat) : Int) < ss.length := by omega
        have gS := ints_at (l := ss) (k := F - 1) (by omega)
        have hlen := len_bv i cs.length
        simp only [pureSem, vint] at hlen
        repeat (first | with_reducible refine x_ops ?_ | (simp only [go_sem, Nat.reduceAdd, Nat.reduceEqDiff, Nat.reduceLT, Nat.reduceLeDiff, Nat.reduceMul, Nat.reduceSub, reduceIte, hA, hC, tCrs, tInts, hw, hl, gS, lS, hlen]))
        generalize ss.getD (F - 1) 0 = b
        refine x_loop (CaI cs ss F b m i j) (fun s => cs.length - numOf (s.t 43)) ?_ ?_
        · refine ⟨0, Nat.zero_le _, rfl, rfl, rfl, rfl, rfl, rfl, rfl, ?_, ?_, ?_, ?_, rfl, hi', ?_, ?_⟩
          · show (if _ then _ else _) = _
            rw [if_neg (by omega)]; show (if _ then _ else _) = _
            rw [if_neg (by omega)]; exact hA
          · show (if _ then _ else _) = _
            rw [if_neg (by omega)]; show (if _ then _ else _) = _
            rw [if_neg (by omega)]; exact hC
          · exact if_pos rfl
          · intro h
            show (if _ then _ else _) = _
            rw [if_neg (by omega)]; show (if _ then _ else _) = _
            rw [if_neg (by omega), capT_zero]; exact ho1 h
          · exact hi2
          · intro q h
            show (if _ then _ else _) = _
            rw [if_neg (by omega)]; show (if _ then _ else _) = _
            rw [if_neg (by omega)]; exact hq q h
        · rintro s ⟨k, hk, h43, h42, h1, h8, h7, h4, h2, oA, oC, oD, oI, hg, _, hin, ho⟩
          have hw1 : IntKind.i64.wrap ((k : Int) + 1) = ((k + 1 : Nat) : Int) := by rw [IntWalk.i64_in _ (by omega)]; omega
          repeat (first | with_reducible refine x_ops ?_ | (simp only [go_sem, Nat.reduceAdd, Nat.reduceEqDiff, Nat.reduceLT, Nat.reduceLeDiff, Nat.reduceMul, Nat.reduceSub, reduceIte, h43, h42]))
          refine x_if (fun hlt => ?_) (fun hge => ?_)
          · have hlt : k < cs.length := by simpa using hlt
            have hlti : ((k : Nat) : Int) < cs.length := by omega
            have hcs : cs ≠ [] := by rintro rfl; simp at hlt
            have hbv : bv i cs.length = .bsl i 0 cs.length cs.length := if_neg (by omega)
            have oI := oI hcs
            have hl : k < (capT F b cs k).length := by rw [capT_length]; exact hlt
            have gf := crs_f hl
            have gp := crs_p hl
            rw [capT_at hlt] at gf gp
            have lT := crs_len (capT F b cs k)
            rw [capT_length] at lT
            have KEEP := capT_keep (f := F) (b := b) hlt
            have GOOD := good_succ (f := F) hlt
            have SUCC := capT_succ (f := F) (b := b) hlt
            have AT := capT_at (f := F) (b := b) hlt
            have BAD : capGood F (cs.getD k default) ≠ true → ¬ cs.all (capGood F) = true := fun h hall => h (List.all_eq_true.1 hall _ (by rw [List.getD_eq_getElem?_getD, List.getElem?_eq_getElem hlt]; exact List.getElem_mem _))
            repeat (first | with_reducible refine x_ops ?_ | (simp only [go_sem, Nat.reduceAdd, Nat.reduceEqDiff, Nat.reduceLT, Nat.reduceLeDiff, Nat.reduceMul, Nat.reduceSub, reduceIte, h43, h42, h1, h8, h7, h4, h2, oA, oC, oD, oI, hbv, hlti, gf, gp, lT]))
            generalize cs.getD k default = c at *
            refine x_if (fun h0 => ?_) (fun h0 => ?_)
            · have h0 : c.f = 0 := by simpa using h0
              repeat (first | with_reducible refine x_ops ?_ | (simp only [go_sem, Nat.reduceAdd, Nat.reduceEqDiff, Nat.reduceLT, Nat.reduceLeDiff, Nat.reduceMul, Nat.reduceSub, reduceIte, hw1, h43]))
              refine ⟨⟨k + 1, hlt, rfl, h42, h1, h8, h7, h4, h2, oA, oC, oD, fun _ => ?_, ?_, hi', hin, ho⟩, ?_⟩
              · rw [KEEP h0]; exact oI
              · rw [GOOD, hg, capGood, h0]; rfl
              · simp [numOf]; omega
            · have h0 : c.f ≠ 0 := by simpa using h0
              repeat (first | with_reducible refine x_ops ?_ | (simp only [go_sem, Nat.reduceAdd, Nat.reduceEqDiff, Nat.reduceLT, Nat.reduceLeDiff, Nat.reduceMul, Nat.reduceSub, reduceIte, h43, h42, h1, h8, h7, h4, h2, oA, oC, oD, oI, hbv, hlti, gf, gp, lT]))
              refine x_if (fun hF => ?_) (fun hF => ?_)
              · have hF : c.f < F := by simpa using hF
                rw [if_neg (BAD (by simp [capGood, h0]; omega))]
                repeat (first | with_reducible refine x_ops ?_ | (simp only [go_sem, Nat.reduceAdd, Nat.reduceEqDiff, Nat.reduceLT, Nat.reduceLeDiff, Nat.reduceMul, Nat.reduceSub, reduceIte, splice, vfill, h4, oC]))
                refine finM_ret (r' := _) (by (simp only [go_sem, Nat.reduceAdd, Nat.reduceEqDiff, Nat.reduceLT, Nat.reduceLeDiff, Nat.reduceMul, Nat.reduceSub, reduceIte, resV, resAll, resOne, oneOr, h4]); try rfl) (pub_pair pub_none) ?_
                intro q h
                simp only [put_obj, put_next, M0_next, freeze_obj, freeze_next, Nat.add_zero, Nat.zero_add, Nat.add_assoc, Nat.add_left_cancel_iff, Nat.add_eq_left, Nat.left_eq_add, decide_eq_true_eq, List.nil_append, List.append_nil, Nat.reduceAdd, Nat.reduceEqDiff, Nat.reduceLeDiff, Nat.reduceLT, reduceIte]
                repeat rw [if_neg (by omega)]
                exact ho q h
              · have hF : ¬ c.f < F := by simpa using hF
                obtain ⟨X1, hX1⟩ : ∃ x, x = IntKind.i64.wrap (c.f - F) := ⟨_, rfl⟩
                obtain ⟨X2, hX2⟩ : ∃ x, x = IntKind.i64.wrap (c.p + b) := ⟨_, rfl⟩
                have hs1 := splice_f hl X1
                rw [AT] at hs1
                obtain ⟨L1, hL1⟩ : ∃ l, l = (capT F b cs k).set k ⟨c.p, X1, c.o⟩ := ⟨_, rfl⟩
                have hk1 : k < L1.length := by rw [hL1, List.length_set]; exact hl
                have hg1 : L1.getD k default = ⟨c.p, X1, c.o⟩ := by rw [hL1, List.getD_eq_getElem?_getD, List.getElem?_set_self hl]; rfl
                have gp1 := crs_p hk1
                have hs2 := splice_p hk1 X2
                rw [hg1] at hs2 gp1
                have e2 : L1.set k ⟨X2, X1, c.o⟩ = capT F b cs (k + 1) := by
                  rw [hL1, List.set_set, ← SUCC, capC, if_neg h0, hX1, hX2]
                rw [← hL1] at hs1
                dsimp only at hs2 gp1
                rw [e2] at hs2
                have lL : (lits (cells3 L1)).length = cs.length * 3 := by rw [crs_len, hL1, List.length_set, capT_length]
                have b1 : k * 3 + 2 ≤ cs.length * 3 := by omega
                have b2 : k * 3 + 1 ≤ cs.length * 3 := by omega
                have n1 : ¬ (m.next + 5 = i) := by omega
                have oI2 : s.m.obj i = some (.box (lits (cells3 (capT F b cs k))) 59) := oI
                simp only [vint] at hs1 hs2 gp1
                repeat (first | with_reducible refine x_ops ?_ | (simp only [go_sem, Nat.reduceAdd, Nat.reduceEqDiff, Nat.reduceLT, Nat.reduceLeDiff, Nat.reduceMul, Nat.reduceSub, reduceIte, h43, h42, h1, h8, h7, h4, h2, oA, oC, oD, oI, hbv, hlti, gf, gp, lT, hs1, hs2, gp1, lL, b1, b2, n1, ← hX1, ← hX2, hw1]))
                refine ⟨⟨k + 1, hlt, rfl, h42, h1, h8, h7, h4, h2, ?_, ?_, ?_, fun _ => ?_, ?_, hi', hin, ?_⟩, ?_⟩
                · simp only [put_obj, put_next, M0_next, freeze_obj, freeze_next, Nat.add_zero, Nat.zero_add, Nat.add_assoc, Nat.add_left_cancel_iff, Nat.add_eq_left, Nat.left_eq_add, decide_eq_true_eq, List.nil_append, List.append_nil, Nat.reduceAdd, Nat.reduceEqDiff, Nat.reduceLeDiff, Nat.reduceLT, reduceIte]
                  repeat rw [if_neg (by omega)]
                  exact oA
                · simp only [put_obj, put_next, M0_next, freeze_obj, freeze_next, Nat.add_zero, Nat.zero_add, Nat.add_assoc, Nat.add_left_cancel_iff, Nat.add_eq_left, Nat.left_eq_add, decide_eq_true_eq, List.nil_append, List.append_nil, Nat.reduceAdd, Nat.reduceEqDiff, Nat.reduceLeDiff, Nat.reduceLT, reduceIte]
                  repeat rw [if_neg (by omega)]
                  exact oC
                · simp only [put_obj, put_next, M0_next, freeze_obj, freeze_next, Nat.add_zero, Nat.zero_add, Nat.add_assoc, Nat.add_left_cancel_iff, Nat.add_eq_left, Nat.left_eq_add, decide_eq_true_eq, List.nil_append, List.append_nil, Nat.reduceAdd, Nat.reduceEqDiff, Nat.reduceLeDiff, Nat.reduceLT, reduceIte]
                  repeat rw [if_neg (by omega)]
                  exact oD
                · exact if_pos rfl
                · rw [GOOD, hg, capGood]; simp; omega
                · intro q h
                  simp only [put_obj, put_next, M0_next, freeze_obj, freeze_next, Nat.add_zero, Nat.zero_add, Nat.add_assoc, Nat.add_left_cancel_iff, Nat.add_eq_left, Nat.left_eq_add, decide_eq_true_eq, List.nil_append, List.append_nil, Nat.reduceAdd, Nat.reduceEqDiff, Nat.reduceLeDiff, Nat.reduceLT, reduceIte]
                  repeat rw [if_neg (by omega)]
                  exact ho q h
                · simp [numOf]; omega
          · have hge : ¬ k < cs.length := by simpa using hge
            have hkn : k = cs.length := by omega
            subst hkn
            rw [List.take_length] at hg
            rw [if_pos hg]
            rw [capT_all (Nat.le_refl _)] at oI
            have hFl : (F : Int) ≤ ss.length := by omega
            have hdr := drop_ints ss F
            have lD : (lits ((ss.drop F).map (Value.int .i64))).length = ss.length - F := by rw [ints_len, List.length_drop]
            repeat (first | with_reducible refine x_ops ?_ | (simp only [go_sem, Nat.reduceAdd, Nat.reduceEqDiff, Nat.reduceLT, Nat.reduceLeDiff, Nat.reduceMul, Nat.reduceSub, reduceIte, splice, vfill, h43, h42, h1, h8, h7, h4, h2, oA, oC, oD, vslc, bnds, hFl, hdr, Nat.mul_one, tInts, Int.le_refl]))
            refine x_loop (CbI cs ss F b m i) (fun s => ss.length - F - numOf (s.t 85)) ?_ ?_
            · refine ⟨0, .exact, Nat.zero_le _, rfl, rfl, rfl, h8, h7, h4, ?_, ?_, .inl rfl, fun h => ?_, hi', hin, fun q h => ?_⟩
              · simp only [put_obj, put_next, M0_next, freeze_obj, freeze_next, Nat.add_zero, Nat.zero_add, Nat.add_assoc, Nat.add_left_cancel_iff, Nat.add_eq_left, Nat.left_eq_add, decide_eq_true_eq, List.nil_append, List.append_nil, Nat.reduceAdd, Nat.reduceEqDiff, Nat.reduceLeDiff, Nat.reduceLT, reduceIte]
                repeat rw [if_neg (by omega)]
                exact oC
              · exact if_pos rfl
              · simp only [put_obj, put_next, M0_next, freeze_obj, freeze_next, Nat.add_zero, Nat.zero_add, Nat.add_assoc, Nat.add_left_cancel_iff, Nat.add_eq_left, Nat.left_eq_add, decide_eq_true_eq, List.nil_append, List.append_nil, Nat.reduceAdd, Nat.reduceEqDiff, Nat.reduceLeDiff, Nat.reduceLT, reduceIte]
                repeat rw [if_neg (by omega)]
                exact oI (fun e => h (by rw [e]; rfl))
              · simp only [put_obj, put_next, M0_next, freeze_obj, freeze_next, Nat.add_zero, Nat.zero_add, Nat.add_assoc, Nat.add_left_cancel_iff, Nat.add_eq_left, Nat.left_eq_add, decide_eq_true_eq, List.nil_append, List.append_nil, Nat.reduceAdd, Nat.reduceEqDiff, Nat.reduceLeDiff, Nat.reduceLT, reduceIte]
                repeat rw [if_neg (by omega)]
                exact ho q h
            · rintro s ⟨k, t, hk, h85, h84, h83, h8, h7, h4, oC, oD, hap, oI, _, hin, ho⟩
              have hw1 : IntKind.i64.wrap ((k : Int) + 1) = ((k + 1 : Nat) : Int) := by rw [IntWalk.i64_in _ (by omega)]; omega
              repeat (first | with_reducible refine x_ops ?_ | (simp only [go_sem, Nat.reduceAdd, Nat.reduceEqDiff, Nat.reduceLT, Nat.reduceLeDiff, Nat.reduceMul, Nat.reduceSub, reduceIte, h85, h84]))
              refine x_if (fun hlt => ?_) (fun hge => ?_)
              · have hlt : k < ss.length - F := by simp at hlt; omega
                have hlti : ((k : Nat) : Int) < ((ss.length - F : Nat) : Int) := by omega
                have gd := ints_at (l := ss.drop F) (k := k) (by rw [List.length_drop]; exact hlt)
                have hst := capS_step (b := b) (ss := ss) (F := F) (k := k) hlt
                generalize (ss.drop F).getD k 0 = x at *
                simp only [vint] at gd
                repeat (first | with_reducible refine x_ops ?_ | (simp only [go_sem, Nat.reduceAdd, Nat.reduceEqDiff, Nat.reduceLT, Nat.reduceLeDiff, Nat.reduceMul, Nat.reduceSub, reduceIte, splice, vfill, h85, h84, h83, h8, h7, oC, oD, hlti, gd, lD, Nat.mul_one, Nat.zero_add]))
                refine x_app m.next (n := k) (xs := lits (((capS b ss F).take k).map (Value.int .i64))) (j := 1) (ys := [vint (IntKind.i64.wrap (x - b))]) (k := t) (k2 := .exact) rfl rfl hap (by rw [ints_len, List.length_take, capS_length]; omega) rfl (by omega) (by unfold maxLen; omega) (by omega) (fun t' m' hap' hnx hkeep hbx => ?_)
                have oC' := hbx _ _ _ oC (by show _ ≠ s.m.next + 6; omega)
                have oD' := hbx _ _ _ oD (by show _ ≠ s.m.next + 6; omega)
                have oI' : cs.length ≠ 0 → m'.obj i = some (.box (lits (cells3 (cs.map (capC F b)))) 59) := fun h => hbx _ _ _ (oI h) (by show _ ≠ s.m.next + 6; omega)
                repeat (first | with_reducible refine x_ops ?_ | (simp only [go_sem, Nat.reduceAdd, Nat.reduceEqDiff, Nat.reduceLT, Nat.reduceLeDiff, Nat.reduceMul, Nat.reduceSub, reduceIte, splice, vfill, h85, h7, oD', hw1]))
                refine ⟨⟨k + 1, t', hlt, rfl, h84, h83, h8, h7, h4, ?_, ?_, hap'.put oD' _, fun h => ?_, hi', ?_, fun q h => ?_⟩, ?_⟩
                · simp only [put_obj, put_next, M0_next, freeze_obj, freeze_next, Nat.add_zero, Nat.zero_add, Nat.add_assoc, Nat.add_left_cancel_iff, Nat.add_eq_left, Nat.left_eq_add, decide_eq_true_eq, List.nil_append, List.append_nil, Nat.reduceAdd, Nat.reduceEqDiff, Nat.reduceLeDiff, Nat.reduceLT, reduceIte]
                  repeat rw [if_neg (by omega)]
                  exact oC'
                · rw [hst, List.map_append, lits_append]
                  exact if_pos rfl
                · simp only [put_obj, put_next, M0_next, freeze_obj, freeze_next, Nat.add_zero, Nat.zero_add, Nat.add_assoc, Nat.add_left_cancel_iff, Nat.add_eq_left, Nat.left_eq_add, decide_eq_true_eq, List.nil_append, List.append_nil, Nat.reduceAdd, Nat.reduceEqDiff, Nat.reduceLeDiff, Nat.reduceLT, reduceIte]
                  repeat rw [if_neg (by omega)]
                  exact oI' h
                · show i < m'.next
                  rw [hnx]; show i < s.m.next + 9; omega
                · simp only [put_obj, put_next, M0_next, freeze_obj, freeze_next, Nat.add_zero, Nat.zero_add, Nat.add_assoc, Nat.add_left_cancel_iff, Nat.add_eq_left, Nat.left_eq_add, decide_eq_true_eq, List.nil_append, List.append_nil, Nat.reduceAdd, Nat.reduceEqDiff, Nat.reduceLeDiff, Nat.reduceLT, reduceIte]
                  repeat rw [if_neg (by omega)]
                  exact (hkeep q h).trans (ho q h)
                · simp [numOf]; omega
              · have hge : ¬ k < ss.length - F := by simp at hge; omega
                have hkn : k = ss.length - F := by omega
                rw [List.take_of_length_le (by rw [capS_length]; omega)] at oD
                repeat (first | with_reducible refine x_ops ?_ | (simp only [go_sem, Nat.reduceAdd, Nat.reduceEqDiff, Nat.reduceLT, Nat.reduceLeDiff, Nat.reduceMul, Nat.reduceSub, reduceIte, splice, vfill, h7, h4, oC, oD]))
                refine goR_ifm (by unfold bv; by_cases e1 : cs.length = 0 <;> simp [e1]) ?_
                repeat (first | with_reducible refine x_ops ?_ | (simp only [go_sem, Nat.reduceAdd, Nat.reduceEqDiff, Nat.reduceLT, Nat.reduceLeDiff, Nat.reduceMul, Nat.reduceSub, reduceIte, splice, vfill, h7, h4, oC, oD]))
                refine finM_ret (r' := _) (by (simp only [go_sem, Nat.reduceAdd, Nat.reduceEqDiff, Nat.reduceLT, Nat.reduceLeDiff, Nat.reduceMul, Nat.reduceSub, reduceIte, resV, resAll, resOne, oneOr, h4]); try rfl) (pub_pair (pub_row (by omega) (List.length_map _) ?_ fun h => ?_)) ?_
                · rw [capS_length]; omega
                · simp only [put_obj, put_next, M0_next, freeze_obj, freeze_next, Nat.add_zero, Nat.zero_add, Nat.add_assoc, Nat.add_left_cancel_iff, Nat.add_eq_left, Nat.left_eq_add, decide_eq_true_eq, List.nil_append, List.append_nil, Nat.reduceAdd, Nat.reduceEqDiff, Nat.reduceLeDiff, Nat.reduceLT, reduceIte]
                  repeat rw [if_neg (by omega)]
                  exact oI h
                · intro q h
                  simp only [put_obj, put_next, M0_next, freeze_obj, freeze_next, Nat.add_zero, Nat.zero_add, Nat.add_assoc, Nat.add_left_cancel_iff, Nat.add_eq_left, Nat.left_eq_add, decide_eq_true_eq, List.nil_append, List.append_nil, Nat.reduceAdd, Nat.reduceEqDiff, Nat.reduceLeDiff, Nat.reduceLT, reduceIte]
                  repeat rw [if_neg (by omega)]
                  exact ho q h
end Go.Proofs.YtbdhjpdjbogggaaDoor
