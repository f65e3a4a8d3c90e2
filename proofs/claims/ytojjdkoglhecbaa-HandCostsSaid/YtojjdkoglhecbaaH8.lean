/- Sequences of chords: the reference, on values. -/
import Derived.Test.YtojjdkoglhecbaaH7
namespace Go.Proofs.Ytojjdkoglhecbaa
open Go.RowKit
attribute [local go_sem] vx_skip vx_ret vx_exit vx_seq vx_block vx_scope vx_cond vx_condT vx_condF gR_nil gR_cons VO.stops beq_self_eq_true Bool.false_beq Bool.true_beq Bool.not_true Bool.not_false Bool.false_eq_true if_false exo VI.on if_true exoOp pureSem List.map_cons List.map_nil St.ev initT Option.map_some putT_get putT_none put_obj put_next M0_next freeze_obj freeze_next List.getD_cons_zero List.getD_cons_succ List.getD_nil V.cells rdable Nat.add_assoc Nat.add_zero Nat.add_left_cancel_iff Nat.add_eq_left Nat.left_eq_add decide_true Bool.true_or ite_self onB vbinI vint vbool List.drop_zero List.take_succ_cons List.drop_succ_cons List.take_zero List.length_cons List.length_nil List.getElem?_cons_zero List.getElem?_cons_succ decide_eq_true_eq true_and and_true Nat.le_refl List.zip_cons_cons List.zip_nil_left V.pubs V.pub Option.bind_some List.all_cons List.all_nil V.one Bool.and_self List.cons_append List.nil_append then_nrm then_ret then_exit inB_nrm inB_ret inB_exit Int.toNat_natCast Int.natCast_nonneg eq_self Nat.zero_add Nat.mul_one
set_option linter.unusedSimpArgs false
set_option linter.unusedVariables false

theorem ints_at' {l : List Int} {k : Nat} (h : k < l.length) : (List.map vint l)[k]? = some (V.lit (.int .i64 (l.getD k 0))) := ints_at h
theorem chs_at1 {l : List Chord} {k : Nat} (h : k < l.length) : (l.flatMap Chord.cells)[k * 3 + 1]? = some (tIs (l.getD k noC).held) := by
  rw [flat_at (j := 1) chs_l noC h (by decide)]; rfl
set_option maxHeartbeats 1000000 in
theorem rcheckchords_fn (l : List Chord) (hl : Fits l) : Fn Try.prog Gd 27 [tCs l] (vint (seqE l)) := by
  refine Fn.of_vx0 k_theorboref06_CheckChords (by simp) (by rw [V.pures, pure_tCs]; rfl) ?_
  have hl0 := hl.1
  unfold c_theorboref06_CheckChords tCs
  by_cases hm : 400 < l.length
  · have c1 : (400 : Int) < (l.length : Int) := by omega
    repeat' (first | with_reducible refine x_ops ?_ | simp only [go_sem, wsl, vund, bne, List.length_map, Int.reduceBEq, Int.reduceLT, stOk, ownOk, List.contains_cons, List.contains_nil, Nat.reduceBEq, tIs, tBs, tPs, Nat.reduceAdd, Nat.reduceEqDiff, Nat.reduceLT, Nat.reduceLeDiff, Nat.reduceMul, Nat.reduceSub, Nat.reducePow, Nat.reduceDiv, Nat.reduceMod, reduceIte, splice, vfill, mix_get, ge_iff_le, gt_iff_lt, ite_not, not_true, not_false_eq_true, *] | ((first | refine vrun_guard (by (simp only [go_sem, reduceIte, Nat.reduceEqDiff, V.norms, V.norm]); try rfl) (fun hc => ?_) (fun hc => ?_) | refine goR_guard (fun hc => ?_) (fun hc => ?_) | refine x_if (fun hc => ?_) (fun hc => ?_)) <;> (try simp only [hcl, bne, eq_self, not_true, ne_eq, not_false_eq_true, reduceCtorEq] at hc)))
    exact finV_lit (by (simp only [go_sem, Nat.reduceAdd, Nat.reduceEqDiff, Nat.reduceLT, Nat.reduceLeDiff, Nat.reduceMul, Nat.reduceSub, reduceIte, resV, resAll, resOne, oneOr]); first | done | rfl) (seq_many hm)
  have c1 : ¬ (400 : Int) < (l.length : Int) := by omega
  repeat' (first | with_reducible refine x_ops ?_ | simp only [go_sem, wsl, vund, bne, List.length_map, Int.reduceBEq, Int.reduceLT, stOk, ownOk, List.contains_cons, List.contains_nil, Nat.reduceBEq, tIs, tBs, tPs, Nat.reduceAdd, Nat.reduceEqDiff, Nat.reduceLT, Nat.reduceLeDiff, Nat.reduceMul, Nat.reduceSub, Nat.reducePow, Nat.reduceDiv, Nat.reduceMod, reduceIte, splice, vfill, mix_get, ge_iff_le, gt_iff_lt, ite_not, not_true, not_false_eq_true, *] | ((first | refine vrun_guard (by (simp only [go_sem, reduceIte, Nat.reduceEqDiff, V.norms, V.norm]); try rfl) (fun hc => ?_) (fun hc => ?_) | refine goR_guard (fun hc => ?_) (fun hc => ?_) | refine x_if (fun hc => ?_) (fun hc => ?_)) <;> (try simp only [hcl, bne, eq_self, not_true, ne_eq, not_false_eq_true, reduceCtorEq] at hc)))
  refine x_loopF w_theorboref06_CheckChords_p11 (by kernel_rfl) l.length (fun k t => t 3 = vint (k : Int) ∧ ∀ i, i < k → ChordOk (l.getD i noC) ∧ (0 < i → Fol (l.getD (i - 1) noC) (l.getD i noC))) ?_ ?_
  · exact ⟨by (simp only [go_sem, Nat.reduceAdd, Nat.reduceEqDiff, Nat.reduceLT, Nat.reduceLeDiff, Nat.reduceMul, Nat.reduceSub, reduceIte, resV, resAll, resOne, oneOr]); first | done | rfl, fun i h => by omega⟩
  rintro k t hk ⟨h3, hI⟩
  by_cases hlt : k < l.length
  · have g1 := chs_take hlt
    have g2 := chs_len l
    have g3 := chs_at1 hlt
    have c2 : (k : Int) < (l.length : Int) := by omega
    have c3 : k * 3 + 3 ≤ l.length * 3 := by omega
    have w2 := w_add1 (k := k) (by omega)
    have R := good_fn (l.getD k noC) (hl.at k)
    cases hr : rgtB (l.getD k noC)
    · rw [hr] at R
      unfold Chord.val Chord.cells at R
      repeat' (first | with_reducible refine x_ops ?_ | simp only [go_sem, wsl, vund, bne, List.length_map, Int.reduceBEq, Int.reduceLT, stOk, ownOk, List.contains_cons, List.contains_nil, Nat.reduceBEq, tIs, tBs, tPs, Nat.reduceAdd, Nat.reduceEqDiff, Nat.reduceLT, Nat.reduceLeDiff, Nat.reduceMul, Nat.reduceSub, Nat.reducePow, Nat.reduceDiv, Nat.reduceMod, reduceIte, splice, vfill, mix_get, ge_iff_le, gt_iff_lt, ite_not, not_true, not_false_eq_true, w_theorboref06_CheckChords_p11, *] | (with_reducible refine x_call _ (R) (by (simp only [go_sem, reduceIte, Nat.reduceEqDiff, Nat.reducePow, Nat.reduceDiv, Nat.reduceMod, mix_get, V.norms, V.norm, tIs, tBs, tPs, *]); first | done | rfl) ?_) | ((first | refine vrun_guard (by (simp only [go_sem, reduceIte, Nat.reduceEqDiff, V.norms, V.norm]); try rfl) (fun hc => ?_) (fun hc => ?_) | refine goR_guard (fun hc => ?_) (fun hc => ?_) | refine x_if (fun hc => ?_) (fun hc => ?_)) <;> (try simp only [hcl, bne, eq_self, not_true, ne_eq, not_false_eq_true, reduceCtorEq] at hc)))
      refine finV_lit (by (simp only [go_sem, Nat.reduceAdd, Nat.reduceEqDiff, Nat.reduceLT, Nat.reduceLeDiff, Nat.reduceMul, Nat.reduceSub, reduceIte, resV, resAll, resOne, oneOr]); first | done | rfl) (seq_bad hm fun hs => ?_)
      rw [rgt_true.2 (hs k hlt).1] at hr
      cases hr
    rw [hr] at R
    have hok := rgt_true.1 hr
    unfold Chord.val Chord.cells at R
    repeat' (first | with_reducible refine x_ops ?_ | simp only [go_sem, wsl, vund, bne, List.length_map, Int.reduceBEq, Int.reduceLT, stOk, ownOk, List.contains_cons, List.contains_nil, Nat.reduceBEq, tIs, tBs, tPs, Nat.reduceAdd, Nat.reduceEqDiff, Nat.reduceLT, Nat.reduceLeDiff, Nat.reduceMul, Nat.reduceSub, Nat.reducePow, Nat.reduceDiv, Nat.reduceMod, reduceIte, splice, vfill, mix_get, ge_iff_le, gt_iff_lt, ite_not, not_true, not_false_eq_true, w_theorboref06_CheckChords_p11, *] | (with_reducible refine x_call _ (R) (by (simp only [go_sem, reduceIte, Nat.reduceEqDiff, Nat.reducePow, Nat.reduceDiv, Nat.reduceMod, mix_get, V.norms, V.norm, tIs, tBs, tPs, *]); first | done | rfl) ?_) | ((first | refine vrun_guard (by (simp only [go_sem, reduceIte, Nat.reduceEqDiff, V.norms, V.norm]); try rfl) (fun hc => ?_) (fun hc => ?_) | refine goR_guard (fun hc => ?_) (fun hc => ?_) | refine x_if (fun hc => ?_) (fun hc => ?_)) <;> (try simp only [hcl, bne, eq_self, not_true, ne_eq, not_false_eq_true, reduceCtorEq] at hc)))
    refine x_loopF w_theorboref06_CheckChords_p6 (by kernel_rfl) (l.getD k noC).held.length (fun j t => t 4 = vint (j : Int) ∧ ∀ i, i < j → plA (l.getD (k - 1) noC).down ((l.getD k noC).held.getD i 0) = plA (l.getD k noC).down ((l.getD k noC).held.getD i 0)) ?_ ?_
    · exact ⟨by (simp only [go_sem, Nat.reduceAdd, Nat.reduceEqDiff, Nat.reduceLT, Nat.reduceLeDiff, Nat.reduceMul, Nat.reduceSub, reduceIte, resV, resAll, resOne, oneOr]); first | done | rfl, fun i h => by omega⟩
    rintro q t' hq ⟨h4, hJ⟩
    by_cases hk0 : 0 < k
    · have c6 : (0 : Int) < (k : Int) := by omega
      by_cases hql : q < (l.getD k noC).held.length
      · have g4 := chs_take (l := l) (k := k - 1) (by omega)
        have g5 := ints_at hql
        have c4 : ((k - 1 : Nat) : Int) < (l.length : Int) := by omega
        have c5 : (k - 1) * 3 + 3 ≤ l.length * 3 := by omega
        have c7 : (q : Int) < ((l.getD k noC).held.length : Int) := by omega
        have w1 := w_sub1 hk0 (by omega)
        have w3 := w_add1 (k := q) (by have := (hl.at k).2.1; omega)
        have D1 := fun co => place_fn (l.getD k noC) co (hl.at k).1
        have D2 := fun co => place_fn (l.getD (k - 1) noC) co (hl.at (k - 1)).1
        unfold Chord.val Chord.cells at D1 D2
        have eqk := eq_pl (plA (l.getD k noC).down ((l.getD k noC).held.getD q 0)) (plA (l.getD (k - 1) noC).down ((l.getD k noC).held.getD q 0))
        repeat' (first | with_reducible refine x_ops ?_ | simp only [go_sem, wsl, vund, bne, List.length_map, Int.reduceBEq, Int.reduceLT, stOk, ownOk, List.contains_cons, List.contains_nil, Nat.reduceBEq, tIs, tBs, tPs, Nat.reduceAdd, Nat.reduceEqDiff, Nat.reduceLT, Nat.reduceLeDiff, Nat.reduceMul, Nat.reduceSub, Nat.reducePow, Nat.reduceDiv, Nat.reduceMod, reduceIte, splice, vfill, mix_get, ge_iff_le, gt_iff_lt, ite_not, not_true, not_false_eq_true, List.length_map, w_theorboref06_CheckChords_p11, w_theorboref06_CheckChords_p6, eqOffs, eqSc, *] | (with_reducible refine x_call _ (D1 _) (by (simp only [go_sem, reduceIte, Nat.reduceEqDiff, Nat.reducePow, Nat.reduceDiv, Nat.reduceMod, mix_get, V.norms, V.norm, tIs, tBs, tPs, *]); first | done | rfl) ?_) | (with_reducible refine x_call _ (D2 _) (by (simp only [go_sem, reduceIte, Nat.reduceEqDiff, Nat.reducePow, Nat.reduceDiv, Nat.reduceMod, mix_get, V.norms, V.norm, tIs, tBs, tPs, *]); first | done | rfl) ?_) | ((first | refine vrun_guard (by (simp only [go_sem, reduceIte, Nat.reduceEqDiff, V.norms, V.norm]); try rfl) (fun hc => ?_) (fun hc => ?_) | refine goR_guard (fun hc => ?_) (fun hc => ?_) | refine x_if (fun hc => ?_) (fun hc => ?_)) <;> (try simp only [hcl, bne, eq_self, not_true, ne_eq, not_false_eq_true, reduceCtorEq] at hc)))
        · exact finV_lit (by (simp only [go_sem, Nat.reduceAdd, Nat.reduceEqDiff, Nat.reduceLT, Nat.reduceLeDiff, Nat.reduceMul, Nat.reduceSub, reduceIte, resV, resAll, resOne, oneOr]); first | done | rfl) (seq_bad hm fun hs => hc ((hs k hlt).2 hk0 q hql).symm)
        · refine nf (by omega) ⟨by (simp only [go_sem, Nat.reduceAdd, Nat.reduceEqDiff, Nat.reduceLT, Nat.reduceLeDiff, Nat.reduceMul, Nat.reduceSub, reduceIte, resV, resAll, resOne, oneOr]); first | done | rfl, fun i h => ?_⟩ rfl
          by_cases hi : i = q
          · subst hi; rw [hc]
          · exact hJ i (by omega)
      · have c7 : ¬ (q : Int) < ((l.getD k noC).held.length : Int) := by omega
        repeat' (first | with_reducible refine x_ops ?_ | simp only [go_sem, wsl, vund, bne, List.length_map, Int.reduceBEq, Int.reduceLT, stOk, ownOk, List.contains_cons, List.contains_nil, Nat.reduceBEq, tIs, tBs, tPs, Nat.reduceAdd, Nat.reduceEqDiff, Nat.reduceLT, Nat.reduceLeDiff, Nat.reduceMul, Nat.reduceSub, Nat.reducePow, Nat.reduceDiv, Nat.reduceMod, reduceIte, splice, vfill, mix_get, ge_iff_le, gt_iff_lt, ite_not, not_true, not_false_eq_true, w_theorboref06_CheckChords_p11, w_theorboref06_CheckChords_p6, *] | ((first | refine vrun_guard (by (simp only [go_sem, reduceIte, Nat.reduceEqDiff, V.norms, V.norm]); try rfl) (fun hc => ?_) (fun hc => ?_) | refine goR_guard (fun hc => ?_) (fun hc => ?_) | refine x_if (fun hc => ?_) (fun hc => ?_)) <;> (try simp only [hcl, bne, eq_self, not_true, ne_eq, not_false_eq_true, reduceCtorEq] at hc)))
        refine nf (by omega) ⟨by (simp only [go_sem, Nat.reduceAdd, Nat.reduceEqDiff, Nat.reduceLT, Nat.reduceLeDiff, Nat.reduceMul, Nat.reduceSub, reduceIte, resV, resAll, resOne, oneOr]); first | done | rfl, fun i h => ?_⟩ rfl
        by_cases hi : i = k
        · subst hi; exact ⟨hok, fun _ j hj => hJ j (by omega)⟩
        · exact hI i (by omega)
    · have c6 : ¬ (0 : Int) < (k : Int) := by omega
      repeat' (first | with_reducible refine x_ops ?_ | simp only [go_sem, wsl, vund, bne, List.length_map, Int.reduceBEq, Int.reduceLT, stOk, ownOk, List.contains_cons, List.contains_nil, Nat.reduceBEq, tIs, tBs, tPs, Nat.reduceAdd, Nat.reduceEqDiff, Nat.reduceLT, Nat.reduceLeDiff, Nat.reduceMul, Nat.reduceSub, Nat.reducePow, Nat.reduceDiv, Nat.reduceMod, reduceIte, splice, vfill, mix_get, ge_iff_le, gt_iff_lt, ite_not, not_true, not_false_eq_true, w_theorboref06_CheckChords_p11, w_theorboref06_CheckChords_p6, *] | ((first | refine vrun_guard (by (simp only [go_sem, reduceIte, Nat.reduceEqDiff, V.norms, V.norm]); try rfl) (fun hc => ?_) (fun hc => ?_) | refine goR_guard (fun hc => ?_) (fun hc => ?_) | refine x_if (fun hc => ?_) (fun hc => ?_)) <;> (try simp only [hcl, bne, eq_self, not_true, ne_eq, not_false_eq_true, reduceCtorEq] at hc)))
      refine nf (by omega) ⟨by (simp only [go_sem, Nat.reduceAdd, Nat.reduceEqDiff, Nat.reduceLT, Nat.reduceLeDiff, Nat.reduceMul, Nat.reduceSub, reduceIte, resV, resAll, resOne, oneOr]); first | done | rfl, fun i h => ?_⟩ rfl
      have hi : i = k := by omega
      subst hi; exact ⟨hok, fun h => absurd h hk0⟩
  · have c2 : ¬ ((k : Int) < (l.length : Int)) := by omega
    repeat' (first | with_reducible refine x_ops ?_ | simp only [go_sem, wsl, vund, bne, List.length_map, Int.reduceBEq, Int.reduceLT, stOk, ownOk, List.contains_cons, List.contains_nil, Nat.reduceBEq, tIs, tBs, tPs, Nat.reduceAdd, Nat.reduceEqDiff, Nat.reduceLT, Nat.reduceLeDiff, Nat.reduceMul, Nat.reduceSub, Nat.reducePow, Nat.reduceDiv, Nat.reduceMod, reduceIte, splice, vfill, mix_get, ge_iff_le, gt_iff_lt, ite_not, not_true, not_false_eq_true, w_theorboref06_CheckChords_p11, *] | ((first | refine vrun_guard (by (simp only [go_sem, reduceIte, Nat.reduceEqDiff, V.norms, V.norm]); try rfl) (fun hc => ?_) (fun hc => ?_) | refine goR_guard (fun hc => ?_) (fun hc => ?_) | refine x_if (fun hc => ?_) (fun hc => ?_)) <;> (try simp only [hcl, bne, eq_self, not_true, ne_eq, not_false_eq_true, reduceCtorEq] at hc)))
    exact finV_lit (by (simp only [go_sem, Nat.reduceAdd, Nat.reduceEqDiff, Nat.reduceLT, Nat.reduceLeDiff, Nat.reduceMul, Nat.reduceSub, reduceIte, resV, resAll, resOne, oneOr]); first | done | rfl) (seq_good hm fun i hi => hI i (by omega))
end Go.Proofs.Ytojjdkoglhecbaa
