/- The law of tuning there and back: on values. -/
import Derived.Test.YtbdhjpdjbogggaaDoorX17
namespace Go.Proofs.YtbdhjpdjbogggaaDoor
open Go.RowKit
attribute [local go_sem] vx_skip vx_ret vx_exit vx_seq vx_block vx_scope vx_cond vx_condT vx_condF gR_nil gR_cons VO.stops beq_self_eq_true Bool.false_beq Bool.true_beq Bool.not_true Bool.not_false Bool.false_eq_true if_false exo VI.on if_true exoOp pureSem List.map_cons List.map_nil St.ev initT Option.map_some putT_get putT_none put_obj put_next M0_next freeze_obj freeze_next List.getD_cons_zero List.getD_cons_succ List.getD_nil V.cells rdable Nat.add_assoc Nat.add_zero Nat.add_left_cancel_iff Nat.add_eq_left Nat.left_eq_add decide_true Bool.true_or ite_self onB vbinI vint vbool List.drop_zero List.take_succ_cons List.drop_succ_cons List.take_zero List.length_cons List.length_nil List.getElem?_cons_zero List.getElem?_cons_succ decide_eq_true_eq true_and and_true Nat.le_refl List.zip_cons_cons List.zip_nil_left V.pubs V.pub Option.bind_some List.all_cons List.all_nil V.one Bool.and_self List.cons_append List.nil_append then_nrm then_ret then_exit inB_nrm inB_ret inB_exit Int.toNat_natCast Int.natCast_nonneg eq_self Nat.zero_add Nat.mul_one
set_option linter.unusedSimpArgs false
set_option linter.unusedVariables false

/-- How far a number is below another one. -/
def below (k : Int) : V → Nat
  | .lit (.int _ n) => (k - n).toNat
  | _ => 0
def TbL (cs : List Crs) (ss : List Int) (co b : Int) (s : St) : Prop := s.t 3 = .ptr 0 0 ∧ s.m.obj 0 = some (.box [tCrs cs, tInts ss] 39) ∧ s.t 7 = .ptr 10 0 ∧ s.m.obj 10 = some (.box [tCrs (tuned cs (co.toNat - 1) b), tInts ss] 39) ∧ s.t 1 = vint co ∧ s.t 2 = vint b ∧ 0 < s.m.next
def TbO (cs : List Crs) (ss : List Int) (co b : Int) (s : St) : Prop := ∃ c : Nat, c ≤ cs.length ∧ s.t 11 = vint ((c : Int) + 1) ∧ TbL cs ss co b s
def TbN (cs : List Crs) (ss : List Int) (co b : Int) (c : Nat) (s : St) : Prop := ∃ f : Nat, f ≤ 21 ∧ s.t 12 = vint ((f : Int) - 1) ∧ s.t 11 = vint ((c : Int) + 1) ∧ TbL cs ss co b s
theorem tunesback_fn (cs : List Crs) (ss : List Int) (co b : Int) : Fn Tryd.prog Gd 15 [tIns cs ss, vint co, vint b] (vbool true) := by
  refine Fn.of_vx0 k_theorbolaw01_InstrumentTunesBack (by simp) (pures_cons (pures_tIns cs ss) (pures_cons (pure_vint co) (pures1 (pure_vint b)))) ?_
  unfold c_theorbolaw01_InstrumentTunesBack tIns
  repeat (first | with_reducible refine x_ops ?_ | (simp only [go_sem, Nat.reduceAdd, Nat.reduceEqDiff, Nat.reduceLT, Nat.reduceLeDiff, Nat.reduceMul, Nat.reduceSub, reduceIte, splice, vfill]))
  refine x_call none (big_fn cs ss) (by (simp only [go_sem, reduceIte, Nat.reduceEqDiff, V.norms, V.norm]); rfl) ?_
  repeat (first | with_reducible refine x_ops ?_ | (simp only [go_sem, Nat.reduceAdd, Nat.reduceEqDiff, Nat.reduceLT, Nat.reduceLeDiff, Nat.reduceMul, Nat.reduceSub, reduceIte, splice, vfill]))
  refine x_if (fun ht => ?_) (fun ht => ?_)
  · repeat (first | with_reducible refine x_ops ?_ | (simp only [go_sem, Nat.reduceAdd, Nat.reduceEqDiff, Nat.reduceLT, Nat.reduceLeDiff, Nat.reduceMul, Nat.reduceSub, reduceIte, splice, vfill]))
    refine x_call none works_fn (by (simp only [go_sem, reduceIte, Nat.reduceEqDiff, V.norms, V.norm])) ?_
    repeat (first | with_reducible refine x_ops ?_ | (simp only [go_sem, Nat.reduceAdd, Nat.reduceEqDiff, Nat.reduceLT, Nat.reduceLeDiff, Nat.reduceMul, Nat.reduceSub, reduceIte, splice, vfill]))
    exact finV_ret (r' := _) (by (simp only [go_sem, Nat.reduceAdd, Nat.reduceEqDiff, Nat.reduceLT, Nat.reduceLeDiff, Nat.reduceMul, Nat.reduceSub, reduceIte, resV, resAll, resOne, oneOr]); try rfl) (.lit _)
  · have hsm : cs.length ≤ 64 ∧ ss.length ≤ 64 := by simp at ht; omega
    have C1 := tune_fn cs ss co b
    rw [tuneV_O] at C1
    have hz : ∀ {c : List Crs} {s : List Int}, tuneO cs ss co b = (c, s, 0) → _ := fun h => tuneO_zero h
    generalize tuneO cs ss co b = o1 at C1 hz
    obtain ⟨c1, s1, e1⟩ := o1
    have hT : ∀ s, TbS cs ss b s → VC.vx Tryd.prog Gd c_theorbolaw01_InstrumentTunesBack_25 (FinV [.t 6] (.lit (.bool true))) s := fun s h => tb_tail hsm.1 hsm.2 h
    repeat (first | with_reducible refine x_ops ?_ | (simp only [go_sem, Nat.reduceAdd, Nat.reduceEqDiff, Nat.reduceLT, Nat.reduceLeDiff, Nat.reduceMul, Nat.reduceSub, reduceIte, splice, vfill]))
    refine x_call none (copy_fn cs ss (by omega) (by omega)) (by (simp only [go_sem, reduceIte, Nat.reduceEqDiff, V.norms, V.norm]); rfl) ?_
    repeat (first | with_reducible refine x_ops ?_ | (simp only [go_sem, Nat.reduceAdd, Nat.reduceEqDiff, Nat.reduceLT, Nat.reduceLeDiff, Nat.reduceMul, Nat.reduceSub, reduceIte, splice, vfill, tIns, tCrs, tInts]))
    refine x_call none C1 (by (simp only [go_sem, reduceIte, Nat.reduceEqDiff, V.norms, V.norm]); rfl) ?_
    repeat (first | with_reducible refine x_ops ?_ | (simp only [go_sem, Nat.reduceAdd, Nat.reduceEqDiff, Nat.reduceLT, Nat.reduceLeDiff, Nat.reduceMul, Nat.reduceSub, reduceIte, splice, vfill, capV, tIns, tCrs, tInts]))
    generalize VC.vx Tryd.prog Gd c_theorbolaw01_InstrumentTunesBack_25 (FinV [.t 6] (.lit (.bool true))) = K25 at hT ⊢
    refine x_if (fun he => ?_) (fun he => ?_)
    · have he : e1 = 0 := by simpa using he
      subst he
      obtain ⟨h0, hc1, hc2, hb1, hb2, rfl, rfl, hch⟩ := hz rfl
      have hw : IntKind.i64.wrap (0 - b) = -b := by rw [IntWalk.i64_in _ (by omega)]; omega
      have C2 := tune_fn (tuned cs (co.toNat - 1) b) s1 co (-b)
      rw [tuneV_O, tuned_back h0 hc1 hc2 ⟨hb1, hb2⟩ hch] at C2
      have hs14 := chk_small h0
      repeat (first | with_reducible refine x_ops ?_ | (simp only [go_sem, Nat.reduceAdd, Nat.reduceEqDiff, Nat.reduceLT, Nat.reduceLeDiff, Nat.reduceMul, Nat.reduceSub, reduceIte, splice, vfill, hw]))
      refine x_call none C2 (by (simp only [go_sem, reduceIte, Nat.reduceEqDiff, V.norms, V.norm]); rfl) ?_
      repeat (first | with_reducible refine x_ops ?_ | (simp only [go_sem, Nat.reduceAdd, Nat.reduceEqDiff, Nat.reduceLT, Nat.reduceLeDiff, Nat.reduceMul, Nat.reduceSub, reduceIte, splice, vfill, capV, tIns, tCrs, tInts, bne_self_eq_false]))
      refine x_on rfl ?_
      refine x_call _ (copy_fn cs s1 (by omega) (by omega)) (by (simp only [go_sem, reduceIte, Nat.reduceEqDiff, V.norms, V.norm]); rfl) ?_
      repeat (first | with_reducible refine x_ops ?_ | (simp only [go_sem, Nat.reduceAdd, Nat.reduceEqDiff, Nat.reduceLT, Nat.reduceLeDiff, Nat.reduceMul, Nat.reduceSub, reduceIte, splice, vfill, tIns, tCrs, tInts]))
      refine x_on rfl ?_
      refine x_call _ (same_self cs s1 (by omega) (by omega)) (by (simp only [go_sem, reduceIte, Nat.reduceEqDiff, V.norms, V.norm]); rfl) ?_
      repeat (first | with_reducible refine x_ops ?_ | (simp only [go_sem, Nat.reduceAdd, Nat.reduceEqDiff, Nat.reduceLT, Nat.reduceLeDiff, Nat.reduceMul, Nat.reduceSub, reduceIte, splice, vfill]))
      refine x_loop (TbO cs s1 co b) (fun s => below (cs.length + 1) (s.t 11)) ?_ ?_
      · refine ⟨0, Nat.zero_le _, rfl, rfl, ?_, rfl, ?_, rfl, rfl, ?_⟩
        · simp only [put_obj, put_next, M0_next, freeze_obj, freeze_next, Nat.add_zero, Nat.zero_add, Nat.add_assoc, Nat.add_left_cancel_iff, Nat.add_eq_left, Nat.left_eq_add, decide_eq_true_eq, List.nil_append, List.append_nil, Nat.reduceAdd, Nat.reduceEqDiff, Nat.reduceLeDiff, Nat.reduceLT, reduceIte]; try rfl
        · simp only [put_obj, put_next, M0_next, freeze_obj, freeze_next, Nat.add_zero, Nat.zero_add, Nat.add_assoc, Nat.add_left_cancel_iff, Nat.add_eq_left, Nat.left_eq_add, decide_eq_true_eq, List.nil_append, List.append_nil, Nat.reduceAdd, Nat.reduceEqDiff, Nat.reduceLeDiff, Nat.reduceLT, reduceIte]; try rfl
        · simp only [put_obj, put_next, M0_next, freeze_obj, freeze_next, Nat.add_zero, Nat.zero_add, Nat.add_assoc, Nat.add_left_cancel_iff, Nat.add_eq_left, Nat.left_eq_add, decide_eq_true_eq, List.nil_append, List.append_nil, Nat.reduceAdd, Nat.reduceEqDiff, Nat.reduceLeDiff, Nat.reduceLT, reduceIte]; try omega
      · rintro s ⟨c, hc, h11, hL⟩
        have hL' := hL
        obtain ⟨h3, o0, h7, o7, h1, h2, hn⟩ := hL'
        by_cases k1 : ((c : Int) + 1) ≤ cs.length
        · have d1 : decide (((c : Int) + 1) ≤ (cs.length : Int)) = true := by simpa using k1
          have d2 : decide (((c : Int) + 1) ≤ 14) = true := by simp; omega
          repeat (first | with_reducible refine x_ops ?_ | (simp only [go_sem, Nat.reduceAdd, Nat.reduceEqDiff, Nat.reduceLT, Nat.reduceLeDiff, Nat.reduceMul, Nat.reduceSub, reduceIte, splice, vfill, h11, h3, o0, tCrs, tInts, d1, d2]))
          refine x_loop (TbN cs s1 co b c) (fun s => below 20 (s.t 12)) ?_ ?_
          · exact ⟨0, by omega, rfl, h11, h3, o0, h7, o7, h1, h2, hn⟩
          · rintro s ⟨f, hf, h12, h11, hL⟩
            have hL' := hL
            obtain ⟨h3, o0, h7, o7, h1, h2, hn⟩ := hL'
            by_cases k2 : ((f : Int) - 1) ≤ 19
            · have d3 : decide (((f : Int) - 1) ≤ 19) = true := by simpa using k2
              have hw1 : IntKind.i64.wrap ((f : Int) - 1 + 1) = ((f + 1 : Nat) : Int) - 1 := by rw [IntWalk.i64_in _ (by omega)]; omega
              have A1 := at_fn cs s1 ((c : Int) + 1) ((f : Int) - 1)
              have A2 := at_fn (tuned cs (co.toNat - 1) b) s1 ((c : Int) + 1) ((f : Int) - 1)
              have hEE := tuned_atE (b := b) h0 hc1 hc2 hch (c := (c : Int) + 1) (f := (f : Int) - 1) (by omega) (by omega)
              have hVV := tuned_atV (b := b) h0 hc1 hc2 ⟨hb1, hb2⟩ hch (c := (c : Int) + 1) (f := (f : Int) - 1) (by omega) (by omega)
              rw [hEE] at A2
              generalize atE cs s1 ((c : Int) + 1) ((f : Int) - 1) = ee at A1 A2 hVV
              generalize atV (tuned cs (co.toNat - 1) b) s1 ((c : Int) + 1) ((f : Int) - 1) = v2 at A2 hVV
              generalize atV cs s1 ((c : Int) + 1) ((f : Int) - 1) = v1 at A1 hVV
              unfold tPl at A1 A2
              repeat (first | with_reducible refine x_ops ?_ | (simp only [go_sem, Nat.reduceAdd, Nat.reduceEqDiff, Nat.reduceLT, Nat.reduceLeDiff, Nat.reduceMul, Nat.reduceSub, reduceIte, splice, vfill, h12, d3]))
              repeat (first | with_reducible refine x_ops ?_ | (simp only [go_sem, Nat.reduceAdd, Nat.reduceEqDiff, Nat.reduceLT, Nat.reduceLeDiff, Nat.reduceMul, Nat.reduceSub, reduceIte, splice, vfill, h11, h12, h3, o0, tCrs, tInts, bne_self_eq_false]))
              refine x_call _ (copy_fn cs s1 (by omega) (by omega)) (by (simp only [go_sem, reduceIte, Nat.reduceEqDiff, V.norms, V.norm]); rfl) ?_
              repeat (first | with_reducible refine x_ops ?_ | (simp only [go_sem, Nat.reduceAdd, Nat.reduceEqDiff, Nat.reduceLT, Nat.reduceLeDiff, Nat.reduceMul, Nat.reduceSub, reduceIte, splice, vfill, h11, h12, tIns, tCrs, tInts]))
              refine x_call _ A1 (by (simp only [go_sem, reduceIte, Nat.reduceEqDiff, V.norms, V.norm]); rfl) ?_
              repeat (first | with_reducible refine x_ops ?_ | (simp only [go_sem, Nat.reduceAdd, Nat.reduceEqDiff, Nat.reduceLT, Nat.reduceLeDiff, Nat.reduceMul, Nat.reduceSub, reduceIte, splice, vfill, h11, h12, h7, o7, tIns, tCrs, tInts]))
              refine x_call _ A2 (by (simp only [go_sem, reduceIte, Nat.reduceEqDiff, V.norms, V.norm]); rfl) ?_
              by_cases k3 : ee = 0
              · subst k3
                have hVV := hVV rfl
                by_cases k4 : (c : Int) + 1 = co
                · rw [if_pos k4] at hVV
                  have e5 : (((c : Int) + 1) == co) = true := by simpa using k4
                  have e6 : (((c : Int) + 1) != co) = false := by simpa using k4
                  subst hVV
                  repeat (first | with_reducible refine x_ops ?_ | (simp only [go_sem, Nat.reduceAdd, Nat.reduceEqDiff, Nat.reduceLT, Nat.reduceLeDiff, Nat.reduceMul, Nat.reduceSub, reduceIte, splice, vfill, h11, h12, h1, h2, bne_self_eq_false, e5, e6, hw1]))
                  refine ⟨⟨f + 1, by omega, rfl, h11, h3, o0, h7, o7, h1, h2, hn⟩, ?_⟩
                  simp [below]; omega
                · rw [if_neg k4] at hVV
                  have e5 : (((c : Int) + 1) == co) = false := by simpa using k4
                  have e6 : (((c : Int) + 1) != co) = true := by simpa using k4
                  subst hVV
                  repeat (first | with_reducible refine x_ops ?_ | (simp only [go_sem, Nat.reduceAdd, Nat.reduceEqDiff, Nat.reduceLT, Nat.reduceLeDiff, Nat.reduceMul, Nat.reduceSub, reduceIte, splice, vfill, h11, h12, h1, h2, bne_self_eq_false, e5, e6, hw1]))
                  refine ⟨⟨f + 1, by omega, rfl, h11, h3, o0, h7, o7, h1, h2, hn⟩, ?_⟩
                  simp [below]; omega
              · have e5 : (ee == 0) = false := by simpa using k3
                repeat (first | with_reducible refine x_ops ?_ | (simp only [go_sem, Nat.reduceAdd, Nat.reduceEqDiff, Nat.reduceLT, Nat.reduceLeDiff, Nat.reduceMul, Nat.reduceSub, reduceIte, splice, vfill, h11, h12, h1, h2, bne_self_eq_false, e5, hw1]))
                refine ⟨⟨f + 1, by omega, rfl, h11, h3, o0, h7, o7, h1, h2, hn⟩, ?_⟩
                simp [below]; omega
            · have d3 : decide (((f : Int) - 1) ≤ 19) = false := by simpa using k2
              have hw1 : IntKind.i64.wrap ((c : Int) + 1 + 1) = ((c + 1 : Nat) : Int) + 1 := by rw [IntWalk.i64_in _ (by omega)]; omega
              repeat (first | with_reducible refine x_ops ?_ | (simp only [go_sem, Nat.reduceAdd, Nat.reduceEqDiff, Nat.reduceLT, Nat.reduceLeDiff, Nat.reduceMul, Nat.reduceSub, reduceIte, splice, vfill, h12, d3, h11, hw1]))
              refine ⟨⟨c + 1, by omega, rfl, h3, o0, h7, o7, h1, h2, hn⟩, ?_⟩
              simp [below]; omega
        · have d1 : decide (((c : Int) + 1) ≤ (cs.length : Int)) = false := by simpa using k1
          repeat (first | with_reducible refine x_ops ?_ | (simp only [go_sem, Nat.reduceAdd, Nat.reduceEqDiff, Nat.reduceLT, Nat.reduceLeDiff, Nat.reduceMul, Nat.reduceSub, reduceIte, splice, vfill, h11, h3, o0, tCrs, tInts, d1]))
          apply hT
          exact ⟨h3, o0, h2, hn⟩
    · repeat (first | with_reducible refine x_ops ?_ | (simp only [go_sem, Nat.reduceAdd, Nat.reduceEqDiff, Nat.reduceLT, Nat.reduceLeDiff, Nat.reduceMul, Nat.reduceSub, reduceIte, splice, vfill]))
      apply hT
      refine ⟨rfl, ?_, rfl, ?_⟩
      · simp only [put_obj, put_next, M0_next, freeze_obj, freeze_next, Nat.add_zero, Nat.zero_add, Nat.add_assoc, Nat.add_left_cancel_iff, Nat.add_eq_left, Nat.left_eq_add, decide_eq_true_eq, List.nil_append, List.append_nil, Nat.reduceAdd, Nat.reduceEqDiff, Nat.reduceLeDiff, Nat.reduceLT, reduceIte]; try rfl
      · simp only [put_obj, put_next, M0_next, freeze_obj, freeze_next, Nat.add_zero, Nat.zero_add, Nat.add_assoc, Nat.add_left_cancel_iff, Nat.add_eq_left, Nat.left_eq_add, decide_eq_true_eq, List.nil_append, List.append_nil, Nat.reduceAdd, Nat.reduceEqDiff, Nat.reduceLeDiff, Nat.reduceLT, reduceIte]; try omega
end Go.Proofs.YtbdhjpdjbogggaaDoor
