/- The law of tuning there and back: on values. -/
import Derived.Test.YtbdhjpdjbogggaaDoorPl7
import Derived.Test.YtbdhjpdjbogggaaDoorX16
import Derived.Test.YtbdhjpdjbogggaaDoorX10
namespace Go.Proofs.YtbdhjpdjbogggaaDoor
open Go.RowKit
attribute [local go_sem] vx_skip vx_ret vx_exit vx_seq vx_block vx_scope vx_cond vx_condT vx_condF gR_nil gR_cons VO.stops beq_self_eq_true Bool.false_beq Bool.true_beq Bool.not_true Bool.not_false Bool.false_eq_true if_false exo VI.on if_true exoOp pureSem List.map_cons List.map_nil St.ev initT Option.map_some putT_get putT_none put_obj put_next M0_next freeze_obj freeze_next List.getD_cons_zero List.getD_cons_succ List.getD_nil V.cells rdable Nat.add_assoc Nat.add_zero Nat.add_left_cancel_iff Nat.add_eq_left Nat.left_eq_add decide_true Bool.true_or ite_self onB vbinI vint vbool List.drop_zero List.take_succ_cons List.drop_succ_cons List.take_zero List.length_cons List.length_nil List.getElem?_cons_zero List.getElem?_cons_succ decide_eq_true_eq true_and and_true Nat.le_refl List.zip_cons_cons List.zip_nil_left V.pubs V.pub Option.bind_some List.all_cons List.all_nil V.one Bool.and_self List.cons_append List.nil_append then_nrm then_ret then_exit inB_nrm inB_ret inB_exit Int.toNat_natCast Int.natCast_nonneg eq_self Nat.zero_add Nat.mul_one
set_option linter.unusedSimpArgs false
set_option linter.unusedVariables false

/-- What the law's last part begins with. -/
def TbS (cs : List Crs) (ss : List Int) (b : Int) (s : St) : Prop := s.t 3 = .ptr 0 0 ∧ s.m.obj 0 = some (.box [tCrs cs, tInts ss] 39) ∧ s.t 2 = vint b ∧ 0 < s.m.next
theorem tb_post {cs : List Crs} {ss : List Int} {b : Int} (h64 : cs.length ≤ 64) (h64s : ss.length ≤ 64) {l : List Crs} {s1 : List Int} {e : Int} {A : Nat} {s : St} (hS : TbS cs ss b s) (h17 : s.t 17 = .ptr A 0) (oA : s.m.obj A = some (.box [tCrs l, tInts s1] 39)) (hA : A < s.m.next)
    (hz : e = 0 → l = cs.map (upBy b) ∧ s1 = ss ∧ chk cs ss = 0 ∧ -127 ≤ b ∧ b ≤ 127 ∧ chk l ss = 0) : condR Tryd.prog Gd (.lit (.bool (e != 0))) c_theorbolaw01_InstrumentTunesBack_18 .skip (VX.then (VC.vx Tryd.prog Gd c_theorbolaw01_InstrumentTunesBack_21 (FinV [.t 6] (.lit (.bool true)))) (FinV [.t 6] (.lit (.bool true)))) s := by
  obtain ⟨h3, o0, h2, hn⟩ := hS
  refine x_if (fun he => ?_) (fun he => ?_)
  · repeat (first | with_reducible refine x_ops ?_ | (simp only [go_sem, Nat.reduceAdd, Nat.reduceEqDiff, Nat.reduceLT, Nat.reduceLeDiff, Nat.reduceMul, Nat.reduceSub, reduceIte, splice, vfill]))
    refine x_call none works_fn (by (simp only [go_sem, reduceIte, Nat.reduceEqDiff, V.norms, V.norm])) ?_
    repeat (first | with_reducible refine x_ops ?_ | (simp only [go_sem, Nat.reduceAdd, Nat.reduceEqDiff, Nat.reduceLT, Nat.reduceLeDiff, Nat.reduceMul, Nat.reduceSub, reduceIte, splice, vfill]))
    exact finV_ret (r' := _) (by (simp only [go_sem, Nat.reduceAdd, Nat.reduceEqDiff, Nat.reduceLT, Nat.reduceLeDiff, Nat.reduceMul, Nat.reduceSub, reduceIte, resV, resAll, resOne, oneOr]); try rfl) (.lit _)
  · have he : e = 0 := by simpa using he
    obtain ⟨rfl, rfl, h0, hb1, hb2, hc⟩ := hz he
    have C3 := trans_fn cs s1 b
    rw [transV, if_pos h0, if_neg (by omega), tunV, if_pos hc] at C3
    have nA : ¬ (A = s.m.next + 7) := by omega
    repeat (first | with_reducible refine x_ops ?_ | (simp only [go_sem, Nat.reduceAdd, Nat.reduceEqDiff, Nat.reduceLT, Nat.reduceLeDiff, Nat.reduceMul, Nat.reduceSub, reduceIte, h3, o0, h2, tCrs, tInts]))
    refine x_call none (copy_fn cs s1 (by omega) (by omega)) (by (simp only [go_sem, reduceIte, Nat.reduceEqDiff, V.norms, V.norm]); rfl) ?_
    repeat (first | with_reducible refine x_ops ?_ | (simp only [go_sem, Nat.reduceAdd, Nat.reduceEqDiff, Nat.reduceLT, Nat.reduceLeDiff, Nat.reduceMul, Nat.reduceSub, reduceIte, h2, tIns, tCrs, tInts]))
    refine x_call none C3 (by (simp only [go_sem, reduceIte, Nat.reduceEqDiff, V.norms, V.norm]); rfl) ?_
    repeat (first | with_reducible refine x_ops ?_ | (simp only [go_sem, Nat.reduceAdd, Nat.reduceEqDiff, Nat.reduceLT, Nat.reduceLeDiff, Nat.reduceMul, Nat.reduceSub, reduceIte, splice, vfill, tIns, tCrs, tInts, h17, oA, nA]))
    refine x_on rfl ?_
    refine x_call none (same_self (cs.map (upBy b)) s1 (by rw [List.length_map]; omega) (by omega)) (by (simp only [go_sem, reduceIte, Nat.reduceEqDiff, V.norms, V.norm]); rfl) ?_
    repeat (first | with_reducible refine x_ops ?_ | (simp only [go_sem, Nat.reduceAdd, Nat.reduceEqDiff, Nat.reduceLT, Nat.reduceLeDiff, Nat.reduceMul, Nat.reduceSub, reduceIte, splice, vfill]))
    refine x_on rfl ?_
    refine x_call none works_fn (by (simp only [go_sem, reduceIte, Nat.reduceEqDiff, V.norms, V.norm])) ?_
    repeat (first | with_reducible refine x_ops ?_ | (simp only [go_sem, Nat.reduceAdd, Nat.reduceEqDiff, Nat.reduceLT, Nat.reduceLeDiff, Nat.reduceMul, Nat.reduceSub, reduceIte, splice, vfill]))
    exact finV_ret (r' := _) (by (simp only [go_sem, Nat.reduceAdd, Nat.reduceEqDiff, Nat.reduceLT, Nat.reduceLeDiff, Nat.reduceMul, Nat.reduceSub, reduceIte, resV, resAll, resOne, oneOr]); try rfl) (.lit _)

def TbI (cs : List Crs) (ss : List Int) (b : Int) (A : Nat) (s : St) : Prop := ∃ (k : Nat) (l : List Crs) (s1 : List Int) (e : Int), k ≤ cs.length ∧ s.t 19 = vint ((k : Int) + 1) ∧ s.t 17 = .ptr A 0 ∧ s.m.obj A = some (.box [tCrs l, tInts s1] 39) ∧ s.t 18 = vint e ∧ A < s.m.next ∧ A ≠ 0 ∧ TbS cs ss b s ∧
  l.length ≤ 64 ∧ s1.length ≤ 64 ∧ (e = 0 → l = mapT (upBy b) cs k ∧ s1 = ss ∧ chk cs ss = 0 ∧ (0 < k → -127 ≤ b ∧ b ≤ 127 ∧ chk l ss = 0))
theorem tb_tail {cs : List Crs} {ss : List Int} {b : Int} (h64 : cs.length ≤ 64) (h64s : ss.length ≤ 64) {s : St} (hS : TbS cs ss b s) : VC.vx Tryd.prog Gd c_theorbolaw01_InstrumentTunesBack_25 (FinV [.t 6] (vbool true)) s := by
  obtain ⟨h3, o0, h2, hn⟩ := hS
  have n0 : ¬ (0 = s.m.next + 2) := by omega
  repeat (first | with_reducible refine x_ops ?_ | (simp only [go_sem, Nat.reduceAdd, Nat.reduceEqDiff, Nat.reduceLT, Nat.reduceLeDiff, Nat.reduceMul, Nat.reduceSub, reduceIte, h3, o0, tCrs, tInts]))
  refine x_call none (copy_fn cs ss (by omega) (by omega)) (by (simp only [go_sem, reduceIte, Nat.reduceEqDiff, V.norms, V.norm]); rfl) ?_
  repeat (first | with_reducible refine x_ops ?_ | (simp only [go_sem, Nat.reduceAdd, Nat.reduceEqDiff, Nat.reduceLT, Nat.reduceLeDiff, Nat.reduceMul, Nat.reduceSub, reduceIte, splice, vfill, tIns, tCrs, tInts]))
  refine x_call none (check_fn cs ss) (by (simp only [go_sem, reduceIte, Nat.reduceEqDiff, V.norms, V.norm]); rfl) ?_
  repeat (first | with_reducible refine x_ops ?_ | (simp only [go_sem, Nat.reduceAdd, Nat.reduceEqDiff, Nat.reduceLT, Nat.reduceLeDiff, Nat.reduceMul, Nat.reduceSub, reduceIte, splice, vfill]))
  refine x_loop (TbI cs ss b (s.m.next + 2)) (fun s => cs.length + 1 - numOf (s.t 19)) ?_ ?_
  · refine ⟨0, cs, ss, chk cs ss, Nat.zero_le _, rfl, rfl, ?_, rfl, ?_, by omega, ⟨?_, ?_, ?_, ?_⟩, h64, h64s, fun h => ⟨mapT_zero.symm, rfl, h, fun h => absurd h (Nat.lt_irrefl _)⟩⟩
    · simp only [put_obj, put_next, M0_next, freeze_obj, freeze_next, Nat.add_zero, Nat.zero_add, Nat.add_assoc, Nat.add_left_cancel_iff, Nat.add_eq_left, Nat.left_eq_add, decide_eq_true_eq, List.nil_append, List.append_nil, Nat.reduceAdd, Nat.reduceEqDiff, Nat.reduceLeDiff, Nat.reduceLT, reduceIte]; rfl
    · show s.m.next + 2 < s.m.next + 4; omega
    · exact h3
    · simp only [put_obj, if_neg n0]; exact o0
    · exact h2
    · show 0 < s.m.next + 4; omega
  · rintro s' ⟨k, l, s1, e, hk, h19, h17, oA, h18, hA, hA0, hS', hl, hs1, hz⟩
    have hS2 := hS'
    obtain ⟨h3, o0, h2, hn⟩ := hS'
    by_cases k1 : ((k : Int) + 1) ≤ cs.length
    · have d1 : decide (((k : Int) + 1) ≤ (cs.length : Int)) = true := by simpa using k1
      by_cases k2 : ((k : Int) + 1) ≤ 14
      · have d2 : decide (((k : Int) + 1) ≤ 14) = true := by simpa using k2
        by_cases k3 : e = 0
        · subst k3
          obtain ⟨rfl, rfl, h0, hbb⟩ := hz rfl
          have C1 := tune_fn (mapT (upBy b) cs k) s1 ((k : Int) + 1) b
          rw [tuneV_O] at C1
          have hL := tuneO_length (mapT (upBy b) cs k) s1 ((k : Int) + 1) b
          have hstep : ∀ {l : List Crs} {s : List Int}, tuneO (mapT (upBy b) cs k) s1 ((k : Int) + 1) b = (l, s, 0) → _ := fun h => tune_step (cs := cs) (ss := s1) (b := b) (k := k) (by omega) h
          generalize tuneO (mapT (upBy b) cs k) s1 ((k : Int) + 1) b = o1 at C1 hL hstep
          obtain ⟨l1, s2, e1⟩ := o1
          dsimp only at hL
          have hw : IntKind.i64.wrap ((k : Int) + 1 + 1) = ((k + 1 : Nat) : Int) + 1 := by rw [IntWalk.i64_in _ (by omega)]; omega
          repeat (first | with_reducible refine x_ops ?_ | (simp only [go_sem, Nat.reduceAdd, Nat.reduceEqDiff, Nat.reduceLT, Nat.reduceLeDiff, Nat.reduceMul, Nat.reduceSub, reduceIte, splice, vfill, h19, h3, o0, tCrs, tInts, d1, d2, h18]))
          repeat (first | with_reducible refine x_ops ?_ | (simp only [go_sem, Nat.reduceAdd, Nat.reduceEqDiff, Nat.reduceLT, Nat.reduceLeDiff, Nat.reduceMul, Nat.reduceSub, reduceIte, splice, vfill, h17, oA, h19, h2, tCrs, tInts]))
          refine x_call none C1 (by (simp only [go_sem, reduceIte, Nat.reduceEqDiff, V.norms, V.norm]); rfl) ?_
          repeat (first | with_reducible refine x_ops ?_ | (simp only [go_sem, Nat.reduceAdd, Nat.reduceEqDiff, Nat.reduceLT, Nat.reduceLeDiff, Nat.reduceMul, Nat.reduceSub, reduceIte, splice, vfill, h17, oA, h19, capV, tIns, tCrs, tInts, hw]))
          refine ⟨⟨k + 1, l1, s2, e1, by omega, rfl, h17, ?_, rfl, hA, hA0, ⟨h3, ?_, h2, hn⟩, by rw [mapT_length] at hL; omega, by omega, ?_⟩, ?_⟩
          · simp only [put_obj, put_next, M0_next, freeze_obj, freeze_next, Nat.add_zero, Nat.zero_add, Nat.add_assoc, Nat.add_left_cancel_iff, Nat.add_eq_left, Nat.left_eq_add, decide_eq_true_eq, List.nil_append, List.append_nil, Nat.reduceAdd, Nat.reduceEqDiff, Nat.reduceLeDiff, Nat.reduceLT, reduceIte]; rfl
          · simp only [put_obj, if_neg (Ne.symm hA0)]; exact o0
          · rintro rfl
            obtain ⟨e1, e2, e3, e4, e5⟩ := hstep rfl
            exact ⟨e1, e2, h0, fun _ => ⟨e3, e4, e5⟩⟩
          · have e1 : numOf (V.lit (Value.int .i64 (((k + 1 : Nat) : Int) + 1))) = k + 2 := by simp only [numOf]; omega
            have e2 : numOf (V.lit (Value.int .i64 ((k : Int) + 1))) = k + 1 := by simp only [numOf]; omega
            simp only [h19, vint, putT_get, if_true, reduceIte, e1, e2]
            first | omega | (rw [e1]; omega)
        · have d3 : (e == 0) = false := by simpa using k3
          repeat (first | with_reducible refine x_ops ?_ | (simp only [go_sem, Nat.reduceAdd, Nat.reduceEqDiff, Nat.reduceLT, Nat.reduceLeDiff, Nat.reduceMul, Nat.reduceSub, reduceIte, splice, vfill, h19, h3, o0, tCrs, tInts, d1, d2, h18, d3]))
          exact tb_post h64 h64s ⟨h3, o0, h2, hn⟩ h17 oA hA (fun h => absurd h k3)
      · have d2 : decide (((k : Int) + 1) ≤ 14) = false := by simpa using k2
        repeat (first | with_reducible refine x_ops ?_ | (simp only [go_sem, Nat.reduceAdd, Nat.reduceEqDiff, Nat.reduceLT, Nat.reduceLeDiff, Nat.reduceMul, Nat.reduceSub, reduceIte, splice, vfill, h19, h3, o0, tCrs, tInts, d1, d2, h18]))
        exact tb_post h64 h64s ⟨h3, o0, h2, hn⟩ h17 oA hA (fun h => by
          obtain ⟨_, _, h0, _⟩ := hz h
          have := chk_small h0
          omega)
    · have d1 : decide (((k : Int) + 1) ≤ (cs.length : Int)) = false := by simpa using k1
      repeat (first | with_reducible refine x_ops ?_ | (simp only [go_sem, Nat.reduceAdd, Nat.reduceEqDiff, Nat.reduceLT, Nat.reduceLeDiff, Nat.reduceMul, Nat.reduceSub, reduceIte, splice, vfill, h19, h3, o0, tCrs, tInts, d1, h18]))
      exact tb_post h64 h64s ⟨h3, o0, h2, hn⟩ h17 oA hA (fun h => by
        obtain ⟨h5, h6, h0, h7⟩ := hz h
        have hne := chk_ne h0
        have : cs.length ≠ 0 := fun e => hne (List.eq_nil_of_length_eq_zero e)
        have h8 := h7 (by omega)
        rw [mapT_all (by omega)] at h5
        exact ⟨h5, h6, h0, h8.1, h8.2.1, h8.2.2⟩)
end Go.Proofs.YtbdhjpdjbogggaaDoor
