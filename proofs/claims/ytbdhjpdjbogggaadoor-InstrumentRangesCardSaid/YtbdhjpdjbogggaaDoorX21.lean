/- Contracts on values: lowest and highest pitch; courses that are higher than the one before; equal numbers. -/
import Derived.Test.YtbdhjpdjbogggaaDoorPl8
import Derived.Test.YtbdhjpdjbogggaaDoorX10
import Derived.Test.YtbdhjpdjbogggaaDoorPl7
import Derived.Test.YtbdhjpdjbogggaaDoorX19
namespace Go.Proofs.YtbdhjpdjbogggaaDoor
open Go.RowKit
attribute [local go_sem] vx_skip vx_ret vx_exit vx_seq vx_block vx_scope vx_cond vx_condT vx_condF gR_nil gR_cons VO.stops beq_self_eq_true Bool.false_beq Bool.true_beq Bool.not_true Bool.not_false Bool.false_eq_true if_false exo VI.on if_true exoOp pureSem List.map_cons List.map_nil St.ev initT Option.map_some putT_get putT_none put_obj put_next M0_next freeze_obj freeze_next List.getD_cons_zero List.getD_cons_succ List.getD_nil V.cells rdable Nat.add_assoc Nat.add_zero Nat.add_left_cancel_iff Nat.add_eq_left Nat.left_eq_add decide_true Bool.true_or ite_self onB vbinI vint vbool List.drop_zero List.take_succ_cons List.drop_succ_cons List.take_zero List.length_cons List.length_nil List.getElem?_cons_zero List.getElem?_cons_succ decide_eq_true_eq true_and and_true Nat.le_refl List.zip_cons_cons List.zip_nil_left V.pubs V.pub Option.bind_some List.all_cons List.all_nil V.one Bool.and_self List.cons_append List.nil_append then_nrm then_ret then_exit inB_nrm inB_ret inB_exit Int.toNat_natCast Int.natCast_nonneg eq_self Nat.zero_add Nat.mul_one
set_option linter.unusedSimpArgs false
set_option linter.unusedVariables false

def SiI (l : List Int) (s : St) : Prop := ∃ k : Nat, k ≤ l.length ∧ s.t 5 = vint k ∧ s.t 0 = tInts l ∧ s.t 1 = tInts l
theorem sameints_fn (l : List Int) (h : l.length ≤ 1000000) : Fn Tryd.prog Gd 53 [tInts l, tInts l] (vbool true) := by
  have hp : V.pure (tInts l) = true := by rw [tInts, V.pure]; (intro t h; cases h)
  refine Fn.of_vx0 k_theorbolaw01_SameInts (by simp) (pures_cons hp (pures1 hp)) ?_
  unfold c_theorbolaw01_SameInts
  repeat (first | with_reducible refine x_ops ?_ | (simp only [go_sem, Nat.reduceAdd, Nat.reduceEqDiff, Nat.reduceLT, Nat.reduceLeDiff, Nat.reduceMul, Nat.reduceSub, reduceIte, splice, vfill, tInts, bne_self_eq_false]))
  refine x_loop (SiI l) (fun s => l.length - numOf (s.t 5)) ⟨0, Nat.zero_le _, rfl, rfl, rfl⟩ ?_
  rintro s ⟨k, hk, h5, h0, h1⟩
  by_cases hlt : k < l.length
  · have d3 : decide ((k : Int) < l.length) = true := by simp; omega
    have hlti : ((k : Nat) : Int) < l.length := by omega
    have gk := ints_at hlt
    have lS := ints_len l
    simp only [vint] at gk
    have hw1 : IntKind.i64.wrap ((k : Int) + 1) = ((k + 1 : Nat) : Int) := by rw [IntWalk.i64_in _ (by omega)]; omega
    repeat (first | with_reducible refine x_ops ?_ | (simp only [go_sem, Nat.reduceAdd, Nat.reduceEqDiff, Nat.reduceLT, Nat.reduceLeDiff, Nat.reduceMul, Nat.reduceSub, reduceIte, splice, vfill, h5, h0, tInts, d3]))
    repeat (first | with_reducible refine x_ops ?_ | (simp only [go_sem, Nat.reduceAdd, Nat.reduceEqDiff, Nat.reduceLT, Nat.reduceLeDiff, Nat.reduceMul, Nat.reduceSub, reduceIte, splice, vfill, h5, h0, h1, tInts, hlti, lS, gk, bne_self_eq_false, hw1]))
    refine ⟨⟨k + 1, hlt, rfl, h0, h1⟩, ?_⟩
    simp only [numOf, vint, putT_get, reduceIte, Nat.reduceEqDiff, Int.toNat_natCast, h5]; omega
  · have d3 : decide ((k : Int) < l.length) = false := by simp; omega
    repeat (first | with_reducible refine x_ops ?_ | (simp only [go_sem, Nat.reduceAdd, Nat.reduceEqDiff, Nat.reduceLT, Nat.reduceLeDiff, Nat.reduceMul, Nat.reduceSub, reduceIte, splice, vfill, h5, h0, tInts, d3]))
    exact finV_ret (r' := _) (by (simp only [go_sem, Nat.reduceAdd, Nat.reduceEqDiff, Nat.reduceLT, Nat.reduceLeDiff, Nat.reduceMul, Nat.reduceSub, reduceIte, resV, resAll, resOne, oneOr]); try rfl) (.lit _)

def RrI (cs : List Crs) (ss : List Int) (s : St) : Prop := ∃ (k : Nat) (t : Tok), 1 ≤ k ∧ (k ≤ cs.length ∨ k = 1) ∧ s.t 6 = vint ((k : Int) + 1) ∧ s.t 5 = .sl (reent cs k).length (lits ((reent cs k).map (Value.int .i64))) t ∧
  Apb s.m t (reent cs k).length 3 1 ∧ s.t 1 = .ptr 0 0 ∧ s.m.obj 0 = some (.box [tCrs cs, tInts ss] 39) ∧ 0 < s.m.next
theorem rreent_fn (cs : List Crs) (ss : List Int) : Fn Tryd.prog Gd 55 [tIns cs ss] (if chk cs ss = 0 then .tup [tInts (reent cs cs.length), vint 0] else .tup [.sl 0 [] .no, vint (chk cs ss)]) := by
  refine Fn.of_vx0 k_theorboref01_Reentrant (by simp) (pures1 (pures_tIns cs ss)) ?_
  unfold c_theorboref01_Reentrant tIns
  repeat (first | with_reducible refine x_ops ?_ | (simp only [go_sem, Nat.reduceAdd, Nat.reduceEqDiff, Nat.reduceLT, Nat.reduceLeDiff, Nat.reduceMul, Nat.reduceSub, reduceIte, splice, vfill]))
  refine x_call none (rcheck_fn cs ss) (by (simp only [go_sem, reduceIte, Nat.reduceEqDiff, V.norms, V.norm]); rfl) ?_
  repeat (first | with_reducible refine x_ops ?_ | (simp only [go_sem, Nat.reduceAdd, Nat.reduceEqDiff, Nat.reduceLT, Nat.reduceLeDiff, Nat.reduceMul, Nat.reduceSub, reduceIte, splice, vfill]))
  refine x_if (fun ht => ?_) (fun ht => ?_)
  · repeat (first | with_reducible refine x_ops ?_ | (simp only [go_sem, Nat.reduceAdd, Nat.reduceEqDiff, Nat.reduceLT, Nat.reduceLeDiff, Nat.reduceMul, Nat.reduceSub, reduceIte, splice, vfill]))
    have h0 : chk cs ss ≠ 0 := by simpa using ht
    rw [if_neg h0]
    exact finV_ret (r' := _) (by (simp only [go_sem, Nat.reduceAdd, Nat.reduceEqDiff, Nat.reduceLT, Nat.reduceLeDiff, Nat.reduceMul, Nat.reduceSub, reduceIte, resV, resAll, resOne, oneOr]); try rfl) (vw_pair (.sl _ _ _))
  · have h0 : chk cs ss = 0 := by simpa using ht
    rw [if_pos h0]
    have hsm := chk_small h0
    have lC := crs_len cs
    repeat (first | with_reducible refine x_ops ?_ | (simp only [go_sem, Nat.reduceAdd, Nat.reduceEqDiff, Nat.reduceLT, Nat.reduceLeDiff, Nat.reduceMul, Nat.reduceSub, reduceIte, splice, vfill]))
    refine x_loop (RrI cs ss) (fun s => cs.length + 1 - numOf (s.t 6)) ?_ ?_
    · refine ⟨1, .exact, Nat.le_refl _, .inr rfl, rfl, rfl, .inl rfl, rfl, ?_, ?_⟩
      · simp only [put_obj, put_next, M0_next, freeze_obj, freeze_next, Nat.add_zero, Nat.zero_add, Nat.add_assoc, Nat.add_left_cancel_iff, Nat.add_eq_left, Nat.left_eq_add, decide_eq_true_eq, List.nil_append, List.append_nil, Nat.reduceAdd, Nat.reduceEqDiff, Nat.reduceLeDiff, Nat.reduceLT, reduceIte]; try rfl
      · simp only [put_obj, put_next, M0_next, freeze_obj, freeze_next, Nat.add_zero, Nat.zero_add, Nat.add_assoc, Nat.add_left_cancel_iff, Nat.add_eq_left, Nat.left_eq_add, decide_eq_true_eq, List.nil_append, List.append_nil, Nat.reduceAdd, Nat.reduceEqDiff, Nat.reduceLeDiff, Nat.reduceLT, reduceIte]; try omega
    · rintro s ⟨k, t, hk1, hk2, h6, h5, hap, h1, hb, hn⟩
      by_cases hlt : k < cs.length
      · have d3 : decide (((k : Int) + 1) ≤ (cs.length : Int)) = true := by simp; omega
        have hw1 : IntKind.i64.wrap ((k : Int) + 1 - 1) = (k : Int) := by rw [IntWalk.i64_in _ (by omega)]; omega
        have hw2 : IntKind.i64.wrap ((k : Int) + 1 - 2) = ((k - 1 : Nat) : Int) := by rw [IntWalk.i64_in _ (by omega)]; omega
        have hw3 : IntKind.i64.wrap ((k : Int) + 1 + 1) = ((k + 1 : Nat) : Int) + 1 := by rw [IntWalk.i64_in _ (by omega)]; omega
        have hlti : (k : Int) < cs.length := by omega
        have hlti2 : ((k - 1 : Nat) : Int) < cs.length := by omega
        have g1 := crs_p hlt
        have g2 := crs_p (l := cs) (k := k - 1) (by omega)
        simp only [vint] at g1 g2
        repeat (first | with_reducible refine x_ops ?_ | (simp only [go_sem, Nat.reduceAdd, Nat.reduceEqDiff, Nat.reduceLT, Nat.reduceLeDiff, Nat.reduceMul, Nat.reduceSub, reduceIte, splice, vfill, h1, h6, hb, tCrs, d3]))
        repeat (first | with_reducible refine x_ops ?_ | (simp only [go_sem, Nat.reduceAdd, Nat.reduceEqDiff, Nat.reduceLT, Nat.reduceLeDiff, Nat.reduceMul, Nat.reduceSub, reduceIte, splice, vfill, h1, h6, hb, tCrs, hlti, hlti2, lC, hw1, hw2, g1, g2, hn]))
        refine x_if (fun hup => ?_) (fun hup => ?_)
        · have hr : reent cs (k + 1) = reent cs k ++ [(k : Int) + 1] := by
            rw [reent, if_pos ⟨by omega, by simpa [reUp] using hup⟩]
          have hle := reent_le cs k
          repeat (first | with_reducible refine x_ops ?_ | (simp only [go_sem, Nat.reduceAdd, Nat.reduceEqDiff, Nat.reduceLT, Nat.reduceLeDiff, Nat.reduceMul, Nat.reduceSub, reduceIte, splice, vfill, h5, h6, hw3]))
          refine x_appb (k := t) (by (simp only [go_sem, reduceIte, Nat.reduceEqDiff, V.norms, V.norm]); try rfl) (by (simp only [go_sem, reduceIte, Nat.reduceEqDiff, V.norms, V.norm]); try rfl) (hap.mono (fun _ _ _ => rfl) (by (simp only [put_obj, put_next, M0_next, freeze_obj, freeze_next, Nat.add_zero, Nat.zero_add, Nat.add_assoc, Nat.add_left_cancel_iff, Nat.add_eq_left, Nat.left_eq_add, decide_eq_true_eq, List.nil_append, List.append_nil, Nat.reduceAdd, Nat.reduceEqDiff, Nat.reduceLeDiff, Nat.reduceLT, reduceIte]); try omega)) (by rw [ints_len]; omega) (by simp) (by omega) (by unfold maxLen; omega) (by (simp only [put_obj, put_next, M0_next, freeze_obj, freeze_next, Nat.add_zero, Nat.zero_add, Nat.add_assoc, Nat.add_left_cancel_iff, Nat.add_eq_left, Nat.left_eq_add, decide_eq_true_eq, List.nil_append, List.append_nil, Nat.reduceAdd, Nat.reduceEqDiff, Nat.reduceLeDiff, Nat.reduceLT, reduceIte]); try omega) (fun t' m' hap' hnx hbx hot => ?_)
          have hnx : m'.next = s.m.next + 5 := hnx
          repeat (first | with_reducible refine x_ops ?_ | (simp only [go_sem, Nat.reduceAdd, Nat.reduceEqDiff, Nat.reduceLT, Nat.reduceLeDiff, Nat.reduceMul, Nat.reduceSub, reduceIte, splice, vfill, h6, hw3]))
          refine ⟨⟨k + 1, t', by omega, by omega, rfl, ?_, ?_, h1, hbx _ _ _ hb (by omega), (by show 0 < m'.next; omega)⟩, ?_⟩
          · rw [hr, List.map_append, lits_append, List.length_append]; rfl
          · rw [hr, List.length_append]; exact hap'
          · simp [numOf]; omega
        · have hr : reent cs (k + 1) = reent cs k := by
            rw [reent, if_neg (by rintro ⟨_, h⟩; simp [reUp] at h hup; omega)]
          repeat (first | with_reducible refine x_ops ?_ | (simp only [go_sem, Nat.reduceAdd, Nat.reduceEqDiff, Nat.reduceLT, Nat.reduceLeDiff, Nat.reduceMul, Nat.reduceSub, reduceIte, splice, vfill, h6, hw3]))
          refine ⟨⟨k + 1, t, by omega, by omega, rfl, by rw [hr]; exact h5, by rw [hr]; exact hap, h1, hb, hn⟩, ?_⟩
          simp [numOf]; omega
      · have d3 : decide (((k : Int) + 1) ≤ (cs.length : Int)) = false := by simp; omega
        have hkl : reent cs k = reent cs cs.length := by
          rcases hk2 with h | h
          · rw [show k = cs.length by omega]
          · subst h
            have : cs.length = 0 ∨ cs.length = 1 := by omega
            rcases this with h | h <;> rw [h] <;> simp [reent]
        rw [hkl] at h5
        repeat (first | with_reducible refine x_ops ?_ | (simp only [go_sem, Nat.reduceAdd, Nat.reduceEqDiff, Nat.reduceLT, Nat.reduceLeDiff, Nat.reduceMul, Nat.reduceSub, reduceIte, splice, vfill, h1, h6, hb, tCrs, d3, h5]))
        exact finV_ret (r' := _) (by (simp only [go_sem, Nat.reduceAdd, Nat.reduceEqDiff, Nat.reduceLT, Nat.reduceLeDiff, Nat.reduceMul, Nat.reduceSub, reduceIte, resV, resAll, resOne, oneOr, h5]); try rfl) (vw_pair (.sl _ _ _))

/-- Three things that a function gives. -/
theorem vw_tri {m : Mm} {S : Nat → Bool} (a b c : Int) : Vw m S (.tup [vint a, vint b, vint c]) (.tup [vint a, vint b, vint c]) := .tup (.cons (.lit _) (.cons (.lit _) (.cons (.lit _) .nil)))
def comV (cs : List Crs) (ss : List Int) : V := if chk cs ss = 0 then .tup [vint (loT cs cs.length), vint (hiT cs ss cs.length), vint 0] else .tup [vint 0, vint 0, vint (chk cs ss)]
theorem stop_fits {cs : List Crs} {ss : List Int} (h0 : chk cs ss = 0) {k m : Nat} (hk : k < cs.length) (hm : m ≤ ss.length) : 0 ≤ stopOf ss (cs.getD k default).p m ∧ stopOf ss (cs.getD k default).p m ≤ 254 := by
  obtain ⟨_, _, hst, _⟩ := chk_zero h0
  have hp := pitch_at h0 hk
  have hb : 0 ≤ (if 0 < (m : Int) then ss.getD ((m : Int).toNat - 1) 0 else 0) ∧ (if 0 < (m : Int) then ss.getD ((m : Int).toNat - 1) 0 else 0) ≤ 127 := by
    split
    · have hn := steps_nth hst ((m : Int).toNat - 1) (by omega)
      omega
    · omega
  unfold stopOf
  omega
theorem frets_at {cs : List Crs} {ss : List Int} (h0 : chk cs ss = 0) {k : Nat} (hk : k < cs.length) : 0 ≤ (cs.getD k default).f ∧ (cs.getD k default).f ≤ ss.length := by
  obtain ⟨_, _, _, hall⟩ := chk_zero h0
  have hm : cs.getD k default ∈ cs := by
    rw [List.getD_eq_getElem?_getD, List.getElem?_eq_getElem hk]; exact List.getElem_mem hk
  have := crsE_zero (hall _ hm)
  exact ⟨this.1, this.2.1⟩
def CoI (cs : List Crs) (ss : List Int) (s : St) : Prop := ∃ k : Nat, k ≤ cs.length ∧ s.t 16 = vint k ∧ s.t 15 = vint cs.length ∧ s.t 14 = tCrs cs ∧ s.t 2 = vint (loT cs k) ∧ s.t 3 = vint (hiT cs ss k) ∧ s.t 1 = .ptr 0 0 ∧ s.m.obj 0 = some (.box [tCrs cs, tInts ss] 39) ∧ 0 < s.m.next
theorem compass_fn (cs : List Crs) (ss : List Int) : Fn Tryd.prog Gd 49 [tIns cs ss] (comV cs ss) := by
  refine Fn.of_vx0 k_instrument_Compass (by simp) (pures1 (pures_tIns cs ss)) ?_
  unfold c_instrument_Compass tIns
  repeat (first | with_reducible refine x_ops ?_ | (simp only [go_sem, Nat.reduceAdd, Nat.reduceEqDiff, Nat.reduceLT, Nat.reduceLeDiff, Nat.reduceMul, Nat.reduceSub, reduceIte, splice, vfill]))
  refine x_call none (check_fn cs ss) (by (simp only [go_sem, reduceIte, Nat.reduceEqDiff, V.norms, V.norm]); rfl) ?_
  repeat (first | with_reducible refine x_ops ?_ | (simp only [go_sem, Nat.reduceAdd, Nat.reduceEqDiff, Nat.reduceLT, Nat.reduceLeDiff, Nat.reduceMul, Nat.reduceSub, reduceIte, splice, vfill]))
  refine x_if (fun ht => ?_) (fun ht => ?_)
  · repeat (first | with_reducible refine x_ops ?_ | (simp only [go_sem, Nat.reduceAdd, Nat.reduceEqDiff, Nat.reduceLT, Nat.reduceLeDiff, Nat.reduceMul, Nat.reduceSub, reduceIte, splice, vfill]))
    have h0 : chk cs ss ≠ 0 := by simpa using ht
    rw [comV, if_neg h0]
    exact finV_ret (r' := _) (by (simp only [go_sem, Nat.reduceAdd, Nat.reduceEqDiff, Nat.reduceLT, Nat.reduceLeDiff, Nat.reduceMul, Nat.reduceSub, reduceIte, resV, resAll, resOne, oneOr]); try rfl) (vw_tri _ _ _)
  · have h0 : chk cs ss = 0 := by simpa using ht
    rw [comV, if_pos h0]
    have hsm := chk_small h0
    have lC := crs_len cs
    repeat (first | with_reducible refine x_ops ?_ | (simp only [go_sem, Nat.reduceAdd, Nat.reduceEqDiff, Nat.reduceLT, Nat.reduceLeDiff, Nat.reduceMul, Nat.reduceSub, reduceIte, splice, vfill, tCrs]))
    refine x_loop (CoI cs ss) (fun s => cs.length - numOf (s.t 16)) ?_ ?_
    · refine ⟨0, Nat.zero_le _, rfl, rfl, rfl, rfl, rfl, rfl, ?_, ?_⟩
      · simp only [put_obj, put_next, M0_next, freeze_obj, freeze_next, Nat.add_zero, Nat.zero_add, Nat.add_assoc, Nat.add_left_cancel_iff, Nat.add_eq_left, Nat.left_eq_add, decide_eq_true_eq, List.nil_append, List.append_nil, Nat.reduceAdd, Nat.reduceEqDiff, Nat.reduceLeDiff, Nat.reduceLT, reduceIte]; try rfl
      · simp only [put_obj, put_next, M0_next, freeze_obj, freeze_next, Nat.add_zero, Nat.zero_add, Nat.add_assoc, Nat.add_left_cancel_iff, Nat.add_eq_left, Nat.left_eq_add, decide_eq_true_eq, List.nil_append, List.append_nil, Nat.reduceAdd, Nat.reduceEqDiff, Nat.reduceLeDiff, Nat.reduceLT, reduceIte]; try omega
    · rintro s ⟨k, hk, h16, h15, h14, h2, h3, h1, hb, hn⟩
      by_cases hlt : k < cs.length
      · have d3 : decide ((k : Int) < (cs.length : Int)) = true := by simp; omega
        have hw1 : IntKind.i64.wrap ((k : Int) + 1) = ((k + 1 : Nat) : Int) := by rw [IntWalk.i64_in _ (by omega)]; omega
        have hlti : (k : Int) < cs.length := by omega
        have g3 := crs_three hlt
        have bk : k * 3 + 3 ≤ cs.length * 3 := by omega
        simp only [vint, vbool] at g3
        obtain ⟨hf0, hf1⟩ := frets_at h0 hlt
        obtain ⟨fr, hfr⟩ : ∃ fr : Nat, (cs.getD k default).f = fr := ⟨(cs.getD k default).f.toNat, by omega⟩
        have S1 := stopped_fn cs ss (cs.getD k default) fr (by omega) (by omega) (by have := stop_fits h0 hlt (m := fr) (by omega); exact IntWalk.i64_in _ (by omega))
        unfold tC at S1
        have hlo : loT cs (k + 1) = if (cs.getD k default).p < loT cs k then (cs.getD k default).p else loT cs k := rfl
        have hhi : hiT cs ss (k + 1) = if stopOf ss (cs.getD k default).p (cs.getD k default).f > hiT cs ss k then stopOf ss (cs.getD k default).p (cs.getD k default).f else hiT cs ss k := rfl
        have z0 : ¬ (0 = s.m.next + 2) := by omega
        rw [hfr] at hhi
        repeat (first | with_reducible refine x_ops ?_ | (simp only [go_sem, Nat.reduceAdd, Nat.reduceEqDiff, Nat.reduceLT, Nat.reduceLeDiff, Nat.reduceMul, Nat.reduceSub, reduceIte, splice, vfill, h16, h15, h14, d3]))
        repeat (first | with_reducible refine x_ops ?_ | (simp only [go_sem, Nat.reduceAdd, Nat.reduceEqDiff, Nat.reduceLT, Nat.reduceLeDiff, Nat.reduceMul, Nat.reduceSub, reduceIte, splice, vfill, h16, h14, tCrs, hlti, lC, g3, bk, h2, h3, h1, hb, hw1, z0, tInts]))
        refine x_call none S1 (by (simp only [go_sem, reduceIte, Nat.reduceEqDiff, V.norms, V.norm]); rw [hfr]; rfl) ?_
        repeat (first | with_reducible refine x_ops ?_ | (simp only [go_sem, Nat.reduceAdd, Nat.reduceEqDiff, Nat.reduceLT, Nat.reduceLeDiff, Nat.reduceMul, Nat.reduceSub, reduceIte, splice, vfill, h3, h16, hw1]))
        refine ⟨⟨k + 1, hlt, rfl, h15, h14, ?_, ?_, h1, ?_, ?_⟩, ?_⟩
        · rw [hlo]; rfl
        · rw [hhi]; rfl
        · simp only [put_obj, put_next, M0_next, freeze_obj, freeze_next, Nat.add_zero, Nat.zero_add, Nat.add_assoc, Nat.add_left_cancel_iff, Nat.add_eq_left, Nat.left_eq_add, decide_eq_true_eq, List.nil_append, List.append_nil, Nat.reduceAdd, Nat.reduceEqDiff, Nat.reduceLeDiff, Nat.reduceLT, reduceIte]; first | exact hb | (simp only [if_neg z0]; exact hb)
        · simp only [put_obj, put_next, M0_next, freeze_obj, freeze_next, Nat.add_zero, Nat.zero_add, Nat.add_assoc, Nat.add_left_cancel_iff, Nat.add_eq_left, Nat.left_eq_add, decide_eq_true_eq, List.nil_append, List.append_nil, Nat.reduceAdd, Nat.reduceEqDiff, Nat.reduceLeDiff, Nat.reduceLT, reduceIte]; try omega
        · simp only [numOf, vint, putT_get, reduceIte, Nat.reduceEqDiff, Int.toNat_natCast, h16]; omega
      · have d3 : decide ((k : Int) < (cs.length : Int)) = false := by simp; omega
        have hke : k = cs.length := by omega
        subst hke
        repeat (first | with_reducible refine x_ops ?_ | (simp only [go_sem, Nat.reduceAdd, Nat.reduceEqDiff, Nat.reduceLT, Nat.reduceLeDiff, Nat.reduceMul, Nat.reduceSub, reduceIte, splice, vfill, h16, h15, h14, d3, h2, h3]))
        exact finV_ret (r' := _) (by (simp only [go_sem, Nat.reduceAdd, Nat.reduceEqDiff, Nat.reduceLT, Nat.reduceLeDiff, Nat.reduceMul, Nat.reduceSub, reduceIte, resV, resAll, resOne, oneOr, h2, h3]); try rfl) (vw_tri _ _ _)

theorem sound_fn (cs : List Crs) (ss : List Int) (h0 : chk cs ss = 0) {k m : Nat} (hk : k < cs.length) (hm : m ≤ ss.length) : Fn Tryd.prog Gd 68 [tIns cs ss, tPl ((k : Int) + 1) m] (vint (stopOf ss (cs.getD k default).p m)) := by
  refine Fn.of_vx0 k_theorboref01_Sound (by simp) (pures_cons (pures_tIns cs ss) (pures1 (by rw [tPl, V.pure, V.pures, V.pures, V.pures, vint, vint, V.pure, V.pure]; rfl))) ?_
  unfold c_theorboref01_Sound tIns tPl
  have hsm := chk_small h0
  have hw1 : IntKind.i64.wrap ((k : Int) + 1 - 1) = (k : Int) := by rw [IntWalk.i64_in _ (by omega)]; omega
  have hlti : (k : Int) < cs.length := by omega
  have lC := crs_len cs
  have lS := ints_len ss
  have g1 := crs_p hk
  have hf := stop_fits h0 hk hm
  simp only [vint] at g1
  by_cases h : m = 0
  · subst h
    rw [stop_zero]
    have d3 : decide (((0 : Nat) : Int) > 0) = false := rfl
    repeat (first | with_reducible refine x_ops ?_ | (simp only [go_sem, Nat.reduceAdd, Nat.reduceEqDiff, Nat.reduceLT, Nat.reduceLeDiff, Nat.reduceMul, Nat.reduceSub, reduceIte, splice, vfill, tCrs, tInts, hw1, hlti, lC, g1, d3]))
    exact finV_ret (r' := _) (by (simp only [go_sem, Nat.reduceAdd, Nat.reduceEqDiff, Nat.reduceLT, Nat.reduceLeDiff, Nat.reduceMul, Nat.reduceSub, reduceIte, resV, resAll, resOne, oneOr]); try rfl) (.lit _)
  · have d3 : decide ((m : Int) > 0) = true := by simp; omega
    have hw2 : IntKind.i64.wrap ((m : Int) - 1) = ((m - 1 : Nat) : Int) := by rw [IntWalk.i64_in _ (by omega)]; omega
    have hlti2 : ((m - 1 : Nat) : Int) < ss.length := by omega
    have g2 := ints_at (l := ss) (k := m - 1) (by omega)
    simp only [vint] at g2
    have e : stopOf ss (cs.getD k default).p (m : Int) = (cs.getD k default).p + ss.getD (m - 1) 0 := by
      rw [stopOf, if_pos (by omega), show ((m : Int)).toNat - 1 = m - 1 by omega]
    rw [e] at hf ⊢
    have hw : IntKind.i64.wrap ((cs.getD k default).p + ss.getD (m - 1) 0) = (cs.getD k default).p + ss.getD (m - 1) 0 := IntWalk.i64_in _ (by omega)
    repeat (first | with_reducible refine x_ops ?_ | (simp only [go_sem, Nat.reduceAdd, Nat.reduceEqDiff, Nat.reduceLT, Nat.reduceLeDiff, Nat.reduceMul, Nat.reduceSub, reduceIte, splice, vfill, tCrs, tInts, hw1, hlti, lC, g1, d3, hw2, hlti2, lS, g2, hw]))
    exact finV_ret (r' := _) (by (simp only [go_sem, Nat.reduceAdd, Nat.reduceEqDiff, Nat.reduceLT, Nat.reduceLeDiff, Nat.reduceMul, Nat.reduceSub, reduceIte, resV, resAll, resOne, oneOr]); try rfl) (.lit _)

def RcO (cs : List Crs) (ss : List Int) (s : St) : Prop := ∃ k : Nat, k ≤ cs.length ∧ s.t 8 = vint ((k : Int) + 1) ∧ s.t 6 = vint (loT cs k) ∧ s.t 7 = vint (hiT cs ss k) ∧ s.t 1 = .ptr 0 0 ∧ s.m.obj 0 = some (.box [tCrs cs, tInts ss] 39)
def RcN (cs : List Crs) (ss : List Int) (k : Nat) (s : St) : Prop := ∃ m : Nat, (m : Int) ≤ (cs.getD k default).f + 1 ∧ s.t 9 = vint m ∧ s.t 8 = vint ((k : Int) + 1) ∧ s.t 6 = vint (loF cs k m) ∧ s.t 7 = vint (hiF cs ss k m) ∧ s.t 1 = .ptr 0 0 ∧ s.m.obj 0 = some (.box [tCrs cs, tInts ss] 39)
theorem rcompass_fn (cs : List Crs) (ss : List Int) : Fn Tryd.prog Gd 50 [tIns cs ss] (comV cs ss) := by
  refine Fn.of_vx0 k_theorboref01_Compass (by simp) (pures1 (pures_tIns cs ss)) ?_
  unfold c_theorboref01_Compass tIns
  repeat (first | with_reducible refine x_ops ?_ | (simp only [go_sem, Nat.reduceAdd, Nat.reduceEqDiff, Nat.reduceLT, Nat.reduceLeDiff, Nat.reduceMul, Nat.reduceSub, reduceIte, splice, vfill]))
  refine x_call none (rcheck_fn cs ss) (by (simp only [go_sem, reduceIte, Nat.reduceEqDiff, V.norms, V.norm]); rfl) ?_
  repeat (first | with_reducible refine x_ops ?_ | (simp only [go_sem, Nat.reduceAdd, Nat.reduceEqDiff, Nat.reduceLT, Nat.reduceLeDiff, Nat.reduceMul, Nat.reduceSub, reduceIte, splice, vfill]))
  refine x_if (fun ht => ?_) (fun ht => ?_)
  · repeat (first | with_reducible refine x_ops ?_ | (simp only [go_sem, Nat.reduceAdd, Nat.reduceEqDiff, Nat.reduceLT, Nat.reduceLeDiff, Nat.reduceMul, Nat.reduceSub, reduceIte, splice, vfill]))
    have h0 : chk cs ss ≠ 0 := by simpa using ht
    rw [comV, if_neg h0]
    exact finV_ret (r' := _) (by (simp only [go_sem, Nat.reduceAdd, Nat.reduceEqDiff, Nat.reduceLT, Nat.reduceLeDiff, Nat.reduceMul, Nat.reduceSub, reduceIte, resV, resAll, resOne, oneOr]); try rfl) (vw_tri _ _ _)
  · have h0 : chk cs ss = 0 := by simpa using ht
    rw [comV, if_pos h0]
    have hsm := chk_small h0
    obtain ⟨_, _, hst, _⟩ := chk_zero h0
    have lC := crs_len cs
    repeat (first | with_reducible refine x_ops ?_ | (simp only [go_sem, Nat.reduceAdd, Nat.reduceEqDiff, Nat.reduceLT, Nat.reduceLeDiff, Nat.reduceMul, Nat.reduceSub, reduceIte, splice, vfill, tCrs]))
    refine x_loop (RcO cs ss) (fun s => cs.length + 1 - numOf (s.t 8)) ?_ ?_
    · refine ⟨0, Nat.zero_le _, rfl, rfl, rfl, rfl, ?_⟩
      simp only [put_obj, put_next, M0_next, freeze_obj, freeze_next, Nat.add_zero, Nat.zero_add, Nat.add_assoc, Nat.add_left_cancel_iff, Nat.add_eq_left, Nat.left_eq_add, decide_eq_true_eq, List.nil_append, List.append_nil, Nat.reduceAdd, Nat.reduceEqDiff, Nat.reduceLeDiff, Nat.reduceLT, reduceIte]; try rfl
    · rintro s ⟨k, hk, h8, h6, h7, h1, hb⟩
      by_cases hlt : k < cs.length
      · have d3 : decide (((k : Int) + 1) ≤ (cs.length : Int)) = true := by simp; omega
        have hw1 : IntKind.i64.wrap ((k : Int) + 1 - 1) = (k : Int) := by rw [IntWalk.i64_in _ (by omega)]; omega
        have hw3 : IntKind.i64.wrap ((k : Int) + 1 + 1) = ((k + 1 : Nat) : Int) + 1 := by rw [IntWalk.i64_in _ (by omega)]; omega
        have hlti : (k : Int) < cs.length := by omega
        have g2 := crs_f hlt
        simp only [vint] at g2
        obtain ⟨hf0, hf1⟩ := frets_at h0 hlt
        repeat (first | with_reducible refine x_ops ?_ | (simp only [go_sem, Nat.reduceAdd, Nat.reduceEqDiff, Nat.reduceLT, Nat.reduceLeDiff, Nat.reduceMul, Nat.reduceSub, reduceIte, splice, vfill, h8, h1, hb, tCrs, d3]))
        refine x_loop (RcN cs ss k) (fun s => (cs.getD k default).f.toNat + 1 - numOf (s.t 9)) ?_ ?_
        · exact ⟨0, by omega, rfl, h8, h6, h7, h1, hb⟩
        · rintro s' ⟨m, hm, h9, h8, h6, h7, h1, hb⟩
          by_cases k1 : (m : Int) ≤ (cs.getD k default).f
          · have d4 : decide ((m : Int) ≤ (cs.getD k default).f) = true := by simpa using k1
            have hwm : IntKind.i64.wrap ((m : Int) + 1) = ((m + 1 : Nat) : Int) := by rw [IntWalk.i64_in _ (by omega)]; omega
            have S1 := sound_fn cs ss h0 hlt (m := m) (by omega)
            unfold tPl at S1
            have hlo := loF_succ (cs := cs) hst (k := k) (m := m) (by omega)
            have hhi := hiF_succ (cs := cs) hst (k := k) (m := m) (by omega)
            repeat (first | with_reducible refine x_ops ?_ | (simp only [go_sem, Nat.reduceAdd, Nat.reduceEqDiff, Nat.reduceLT, Nat.reduceLeDiff, Nat.reduceMul, Nat.reduceSub, reduceIte, splice, vfill, h9, h8, h1, hb, tCrs, tInts, hlti, lC, hw1, g2, d4, h6]))
            refine x_call none S1 (by (simp only [go_sem, reduceIte, Nat.reduceEqDiff, V.norms, V.norm]); try rfl) ?_
            repeat (first | with_reducible refine x_ops ?_ | (simp only [go_sem, Nat.reduceAdd, Nat.reduceEqDiff, Nat.reduceLT, Nat.reduceLeDiff, Nat.reduceMul, Nat.reduceSub, reduceIte, splice, vfill, h9, h8, h1, hb, tCrs, tInts, h6, h7]))
            refine x_call none S1 (by (simp only [go_sem, reduceIte, Nat.reduceEqDiff, V.norms, V.norm]); try rfl) ?_
            repeat (first | with_reducible refine x_ops ?_ | (simp only [go_sem, Nat.reduceAdd, Nat.reduceEqDiff, Nat.reduceLT, Nat.reduceLeDiff, Nat.reduceMul, Nat.reduceSub, reduceIte, splice, vfill, h9, h7, hwm]))
            refine ⟨⟨m + 1, by omega, rfl, h8, ?_, ?_, h1, hb⟩, ?_⟩
            · rw [← hlo]; rfl
            · rw [← hhi]; rfl
            · simp only [numOf, vint, putT_get, reduceIte, Nat.reduceEqDiff, Int.toNat_natCast, h9]; omega
          · have d4 : decide ((m : Int) ≤ (cs.getD k default).f) = false := by simpa using k1
            have hme : m = (cs.getD k default).f.toNat + 1 := by omega
            rw [hme, hiF_end hf0] at h7
            rw [hme] at h6
            repeat (first | with_reducible refine x_ops ?_ | (simp only [go_sem, Nat.reduceAdd, Nat.reduceEqDiff, Nat.reduceLT, Nat.reduceLeDiff, Nat.reduceMul, Nat.reduceSub, reduceIte, splice, vfill, h9, h8, h1, hb, tCrs, tInts, hlti, lC, hw1, g2, d4, hw3]))
            refine ⟨⟨k + 1, hlt, rfl, h6, h7, h1, hb⟩, ?_⟩
            simp [numOf]; omega
      · have d3 : decide (((k : Int) + 1) ≤ (cs.length : Int)) = false := by simp; omega
        have hke : k = cs.length := by omega
        subst hke
        repeat (first | with_reducible refine x_ops ?_ | (simp only [go_sem, Nat.reduceAdd, Nat.reduceEqDiff, Nat.reduceLT, Nat.reduceLeDiff, Nat.reduceMul, Nat.reduceSub, reduceIte, splice, vfill, h8, h1, hb, tCrs, d3, h6, h7]))
        exact finV_ret (r' := _) (by (simp only [go_sem, Nat.reduceAdd, Nat.reduceEqDiff, Nat.reduceLT, Nat.reduceLeDiff, Nat.reduceMul, Nat.reduceSub, reduceIte, resV, resAll, resOne, oneOr, h6, h7]); try rfl) (vw_tri _ _ _)
end Go.Proofs.YtbdhjpdjbogggaaDoor
