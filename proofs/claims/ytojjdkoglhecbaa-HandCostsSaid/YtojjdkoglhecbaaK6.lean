/- Step, program and reference, on values. -/
import Derived.Test.YtojjdkoglhecbaaK5
import Derived.Test.YtojjdkoglhecbaaH8
namespace Go.Proofs.Ytojjdkoglhecbaa
open Go.RowKit
attribute [local go_sem] vx_skip vx_ret vx_exit vx_seq vx_block vx_scope vx_cond vx_condT vx_condF gR_nil gR_cons VO.stops beq_self_eq_true Bool.false_beq Bool.true_beq Bool.not_true Bool.not_false Bool.false_eq_true if_false exo VI.on if_true exoOp pureSem List.map_cons List.map_nil St.ev initT Option.map_some putT_get putT_none put_obj put_next M0_next freeze_obj freeze_next List.getD_cons_zero List.getD_cons_succ List.getD_nil V.cells rdable Nat.add_assoc Nat.add_zero Nat.add_left_cancel_iff Nat.add_eq_left Nat.left_eq_add decide_true Bool.true_or ite_self onB vbinI vint vbool List.drop_zero List.take_succ_cons List.drop_succ_cons List.take_zero List.length_cons List.length_nil List.getElem?_cons_zero List.getElem?_cons_succ decide_eq_true_eq true_and and_true Nat.le_refl List.zip_cons_cons List.zip_nil_left V.pubs V.pub Option.bind_some List.all_cons List.all_nil V.one Bool.and_self List.cons_append List.nil_append then_nrm then_ret then_exit inB_nrm inB_ret inB_exit Int.toNat_natCast Int.natCast_nonneg eq_self Nat.zero_add Nat.mul_one
set_option linter.unusedSimpArgs false
set_option linter.unusedVariables false

/-- What Step answers. -/
noncomputable def stepA (h : Hand) (a : Chord) (g : Grip) (b : Chord) (k : Grip) : Int × Int :=
  if chkE h = 0 then (if seqE [a, b] = 0 then (if fitB h a g = true ∧ fitB h b k = true then (if (stepR h a g b k).2 = true then ((stepR h a g b k).1, 0) else (0, 61)) else (0, 61)) else (0, seqE [a, b])) else (0, 60)
theorem fits_two {a b : Chord} (fa : FitC a) (fb : FitC b) : Fits [a, b] := ⟨by simp, fun c hc => by
  rcases List.mem_cons.1 hc with rfl | hc
  · exact fa
  · rcases List.mem_cons.1 hc with rfl | hc
    · exact fb
    · cases hc⟩
theorem seq_val (l : List Chord) : seqE l = 0 ∨ seqE l = 1 ∨ seqE l = 2 := by 
  rw [seqE]
  split
  · simp
  · split <;> simp
theorem seq_two {a b : Chord} (hs : seqE [a, b] = 0) : ChordOk a ∧ ChordOk b ∧ Fol a b := by
  rw [seqE, if_neg (by simp)] at hs
  split at hs
  · rename_i h1
    have h2 : SeqOk [a, b] := by simpa using h1
    exact ⟨(h2 0 (by simp)).1, (h2 1 (by simp)).1, (h2 1 (by simp)).2 (by decide)⟩
  · cases hs
set_option maxHeartbeats 2000000 in
theorem Step_fn (h : Hand) (a b : Chord) (fa : FitC a) (fb : FitC b) (g k : Grip) (hg : g.fingers.length ≤ 17592186044416) (hkk : k.fingers.length ≤ 17592186044416) :
    Fn Try.prog Gd 45 [h.val, a.val, g.val, b.val, k.val] (.tup [vint (stepA h a g b k).1, vint (stepA h a g b k).2]) := by
  refine Fn.of_vx0 k_hand_Step (by simp) (by rw [V.pures, pure_hand, V.pures, pure_chord, V.pures, pure_grip, V.pures, pure_chord, V.pures, pure_grip]; rfl) ?_
  have C1 := check_fn h
  have C2 := checkchords_fn [a, b] (fits_two fa fb)
  have sv := seq_val [a, b]
  have s2 := @seq_two a b
  unfold stepA
  unfold tCs at C2
  have un : [a, b].flatMap Chord.cells = a.cells ++ b.cells := by simp
  rw [un] at C2
  clear un
  generalize hse : seqE [a, b] = se at C2 sv s2
  replace hse := Hid.mk hse
  by_cases he : chkE h = 0
  case neg =>
    rw [if_neg he]
    rw [chk_bad he] at C1
    clear he s2 sv
    unfold Hand.val at C1
    unfold c_hand_Step Hand.val Chord.val Chord.cells Grip.val Grip.cells
    repeat' (first | with_reducible refine x_ops ?_ | simp only [go_sem, wsl, vund, bne, List.length_map, Int.reduceBEq, Int.reduceLT, stOk, ownOk, List.contains_cons, List.contains_nil, Nat.reduceBEq, tIs, tBs, tPs, Nat.reduceAdd, Nat.reduceEqDiff, Nat.reduceLT, Nat.reduceLeDiff, Nat.reduceMul, Nat.reduceSub, Nat.reducePow, Nat.reduceDiv, Nat.reduceMod, reduceIte, splice, vfill, mix_get, ge_iff_le, gt_iff_lt, ite_not, not_true, not_false_eq_true, *] | (with_reducible refine x_call _ (C1) (by (simp only [go_sem, reduceIte, Nat.reduceEqDiff, Nat.reducePow, Nat.reduceDiv, Nat.reduceMod, mix_get, V.norms, V.norm, tIs, tBs, tPs, *]); first | done | rfl) ?_) | ((first | refine vrun_guard (by (simp only [go_sem, reduceIte, Nat.reduceEqDiff, V.norms, V.norm]); try rfl) (fun hc => ?_) (fun hc => ?_) | refine goR_guard (fun hc => ?_) (fun hc => ?_) | refine x_if (fun hc => ?_) (fun hc => ?_)) <;> (try simp only [hcl, bne, eq_self, not_true, ne_eq, not_false_eq_true, reduceCtorEq] at hc)))
    all_goals exact finV_dry rfl (by (simp only [go_sem, Nat.reduceAdd, Nat.reduceEqDiff, Nat.reduceLT, Nat.reduceLeDiff, Nat.reduceMul, Nat.reduceSub, reduceIte, resV, resAll, resOne, oneOr]); first | done | rfl)
  have hk := chk_ok he
  rw [if_pos he]
  rw [he] at C1
  clear he
  by_cases hs : se = 0
  case neg =>
    rw [if_neg hs]
    have e1 : (se == 0) = false := by simpa using hs
    clear sv s2 hs
    unfold Hand.val at C1
    unfold Chord.cells at C2
    unfold c_hand_Step Hand.val Chord.val Chord.cells Grip.val Grip.cells
    repeat' (first | with_reducible refine x_ops ?_ | simp only [go_sem, wsl, vund, bne, List.length_map, Int.reduceBEq, Int.reduceLT, stOk, ownOk, List.contains_cons, List.contains_nil, Nat.reduceBEq, tIs, tBs, tPs, Nat.reduceAdd, Nat.reduceEqDiff, Nat.reduceLT, Nat.reduceLeDiff, Nat.reduceMul, Nat.reduceSub, Nat.reducePow, Nat.reduceDiv, Nat.reduceMod, reduceIte, splice, vfill, mix_get, ge_iff_le, gt_iff_lt, ite_not, not_true, not_false_eq_true, *] | (with_reducible refine x_call _ (C1) (by (simp only [go_sem, reduceIte, Nat.reduceEqDiff, Nat.reducePow, Nat.reduceDiv, Nat.reduceMod, mix_get, V.norms, V.norm, tIs, tBs, tPs, *]); first | done | rfl) ?_) | (with_reducible refine x_call _ (C2) (by (simp only [go_sem, reduceIte, Nat.reduceEqDiff, Nat.reducePow, Nat.reduceDiv, Nat.reduceMod, mix_get, V.norms, V.norm, tIs, tBs, tPs, *]); first | done | rfl) ?_) | ((first | refine vrun_guard (by (simp only [go_sem, reduceIte, Nat.reduceEqDiff, V.norms, V.norm]); try rfl) (fun hc => ?_) (fun hc => ?_) | refine goR_guard (fun hc => ?_) (fun hc => ?_) | refine x_if (fun hc => ?_) (fun hc => ?_)) <;> (try simp only [hcl, bne, eq_self, not_true, ne_eq, not_false_eq_true, reduceCtorEq] at hc)))
    all_goals exact finV_dry rfl (by (simp only [go_sem, Nat.reduceAdd, Nat.reduceEqDiff, Nat.reduceLT, Nat.reduceLeDiff, Nat.reduceMul, Nat.reduceSub, reduceIte, resV, resAll, resOne, oneOr]); first | done | rfl)
  rw [if_pos hs]
  obtain ⟨ha, hb, hfol⟩ := s2 hs
  subst hs
  clear sv s2
  have C3 := fits_fn h hk a fa g hg
  have C4 := fits_fn h hk b fb k hkk
  cases h1 : fitB h a g
  · rw [h1] at C3
    rw [if_neg (fun hh => by cases hh.1)]
    clear ha hb hfol
    unfold Hand.val at C1 C3
    unfold Chord.cells at C2
    unfold Chord.val Chord.cells Grip.val Grip.cells at C3
    unfold c_hand_Step Hand.val Chord.val Chord.cells Grip.val Grip.cells
    repeat' (first | with_reducible refine x_ops ?_ | simp only [go_sem, wsl, vund, bne, List.length_map, Int.reduceBEq, Int.reduceLT, stOk, ownOk, List.contains_cons, List.contains_nil, Nat.reduceBEq, tIs, tBs, tPs, Nat.reduceAdd, Nat.reduceEqDiff, Nat.reduceLT, Nat.reduceLeDiff, Nat.reduceMul, Nat.reduceSub, Nat.reducePow, Nat.reduceDiv, Nat.reduceMod, reduceIte, splice, vfill, mix_get, ge_iff_le, gt_iff_lt, ite_not, not_true, not_false_eq_true, *] | (with_reducible refine x_call _ (C1) (by (simp only [go_sem, reduceIte, Nat.reduceEqDiff, Nat.reducePow, Nat.reduceDiv, Nat.reduceMod, mix_get, V.norms, V.norm, tIs, tBs, tPs, *]); first | done | rfl) ?_) | (with_reducible refine x_call _ (C2) (by (simp only [go_sem, reduceIte, Nat.reduceEqDiff, Nat.reducePow, Nat.reduceDiv, Nat.reduceMod, mix_get, V.norms, V.norm, tIs, tBs, tPs, *]); first | done | rfl) ?_) | (with_reducible refine x_call _ (C3) (by (simp only [go_sem, reduceIte, Nat.reduceEqDiff, Nat.reducePow, Nat.reduceDiv, Nat.reduceMod, mix_get, V.norms, V.norm, tIs, tBs, tPs, *]); first | done | rfl) ?_) | ((first | refine vrun_guard (by (simp only [go_sem, reduceIte, Nat.reduceEqDiff, V.norms, V.norm]); try rfl) (fun hc => ?_) (fun hc => ?_) | refine goR_guard (fun hc => ?_) (fun hc => ?_) | refine x_if (fun hc => ?_) (fun hc => ?_)) <;> (try simp only [hcl, bne, eq_self, not_true, ne_eq, not_false_eq_true, reduceCtorEq] at hc)))
    all_goals exact finV_dry rfl (by (simp only [go_sem, Nat.reduceAdd, Nat.reduceEqDiff, Nat.reduceLT, Nat.reduceLeDiff, Nat.reduceMul, Nat.reduceSub, reduceIte, resV, resAll, resOne, oneOr]); first | done | rfl)
  rw [h1] at C3
  cases h2 : fitB h b k
  · rw [h2] at C4
    rw [if_neg (fun hh => by cases hh.2)]
    clear ha hb hfol
    unfold Hand.val at C1 C3 C4
    unfold Chord.cells at C2
    unfold Chord.val Chord.cells Grip.val Grip.cells at C3 C4
    unfold c_hand_Step Hand.val Chord.val Chord.cells Grip.val Grip.cells
    repeat' (first | with_reducible refine x_ops ?_ | simp only [go_sem, wsl, vund, bne, List.length_map, Int.reduceBEq, Int.reduceLT, stOk, ownOk, List.contains_cons, List.contains_nil, Nat.reduceBEq, tIs, tBs, tPs, Nat.reduceAdd, Nat.reduceEqDiff, Nat.reduceLT, Nat.reduceLeDiff, Nat.reduceMul, Nat.reduceSub, Nat.reducePow, Nat.reduceDiv, Nat.reduceMod, reduceIte, splice, vfill, mix_get, ge_iff_le, gt_iff_lt, ite_not, not_true, not_false_eq_true, *] | (with_reducible refine x_call _ (C1) (by (simp only [go_sem, reduceIte, Nat.reduceEqDiff, Nat.reducePow, Nat.reduceDiv, Nat.reduceMod, mix_get, V.norms, V.norm, tIs, tBs, tPs, *]); first | done | rfl) ?_) | (with_reducible refine x_call _ (C2) (by (simp only [go_sem, reduceIte, Nat.reduceEqDiff, Nat.reducePow, Nat.reduceDiv, Nat.reduceMod, mix_get, V.norms, V.norm, tIs, tBs, tPs, *]); first | done | rfl) ?_) | (with_reducible refine x_call _ (C3) (by (simp only [go_sem, reduceIte, Nat.reduceEqDiff, Nat.reducePow, Nat.reduceDiv, Nat.reduceMod, mix_get, V.norms, V.norm, tIs, tBs, tPs, *]); first | done | rfl) ?_) | (with_reducible refine x_call _ (C4) (by (simp only [go_sem, reduceIte, Nat.reduceEqDiff, Nat.reducePow, Nat.reduceDiv, Nat.reduceMod, mix_get, V.norms, V.norm, tIs, tBs, tPs, *]); first | done | rfl) ?_) | ((first | refine vrun_guard (by (simp only [go_sem, reduceIte, Nat.reduceEqDiff, V.norms, V.norm]); try rfl) (fun hc => ?_) (fun hc => ?_) | refine goR_guard (fun hc => ?_) (fun hc => ?_) | refine x_if (fun hc => ?_) (fun hc => ?_)) <;> (try simp only [hcl, bne, eq_self, not_true, ne_eq, not_false_eq_true, reduceCtorEq] at hc)))
    all_goals exact finV_dry rfl (by (simp only [go_sem, Nat.reduceAdd, Nat.reduceEqDiff, Nat.reduceLT, Nat.reduceLeDiff, Nat.reduceMul, Nat.reduceSub, reduceIte, resV, resAll, resOne, oneOr]); first | done | rfl)
  rw [h2] at C4
  rw [if_pos ⟨rfl, rfl⟩]
  have f1 := fit_true.1 h1
  have f2 := fit_true.1 h2
  have C5 := step_fn h hk a b ha hb hfol fa fb g k f1.len f2.len ⟨f1.pos.1, by have := f1.pos.2; have := hk.top; omega⟩ ⟨f2.pos.1, by have := f2.pos.2; have := hk.top; omega⟩
  clear ha hb hfol f1 f2
  generalize stepR h a g b k = sr at C5
  obtain ⟨n, is⟩ := sr
  unfold Hand.val at C1 C3 C4 C5
  unfold Chord.cells at C2
  unfold Chord.val Chord.cells Grip.val Grip.cells at C3 C4 C5
  unfold c_hand_Step Hand.val Chord.val Chord.cells Grip.val Grip.cells
  cases is
  · repeat' (first | with_reducible refine x_ops ?_ | simp only [go_sem, wsl, vund, bne, List.length_map, Int.reduceBEq, Int.reduceLT, stOk, ownOk, List.contains_cons, List.contains_nil, Nat.reduceBEq, tIs, tBs, tPs, Nat.reduceAdd, Nat.reduceEqDiff, Nat.reduceLT, Nat.reduceLeDiff, Nat.reduceMul, Nat.reduceSub, Nat.reducePow, Nat.reduceDiv, Nat.reduceMod, reduceIte, splice, vfill, mix_get, ge_iff_le, gt_iff_lt, ite_not, not_true, not_false_eq_true, *] | (with_reducible refine x_call _ (C1) (by (simp only [go_sem, reduceIte, Nat.reduceEqDiff, Nat.reducePow, Nat.reduceDiv, Nat.reduceMod, mix_get, V.norms, V.norm, tIs, tBs, tPs, *]); first | done | rfl) ?_) | (with_reducible refine x_call _ (C2) (by (simp only [go_sem, reduceIte, Nat.reduceEqDiff, Nat.reducePow, Nat.reduceDiv, Nat.reduceMod, mix_get, V.norms, V.norm, tIs, tBs, tPs, *]); first | done | rfl) ?_) | (with_reducible refine x_call _ (C3) (by (simp only [go_sem, reduceIte, Nat.reduceEqDiff, Nat.reducePow, Nat.reduceDiv, Nat.reduceMod, mix_get, V.norms, V.norm, tIs, tBs, tPs, *]); first | done | rfl) ?_) | (with_reducible refine x_call _ (C4) (by (simp only [go_sem, reduceIte, Nat.reduceEqDiff, Nat.reducePow, Nat.reduceDiv, Nat.reduceMod, mix_get, V.norms, V.norm, tIs, tBs, tPs, *]); first | done | rfl) ?_) | (with_reducible refine x_call _ (C5) (by (simp only [go_sem, reduceIte, Nat.reduceEqDiff, Nat.reducePow, Nat.reduceDiv, Nat.reduceMod, mix_get, V.norms, V.norm, tIs, tBs, tPs, *]); first | done | rfl) ?_) | ((first | refine vrun_guard (by (simp only [go_sem, reduceIte, Nat.reduceEqDiff, V.norms, V.norm]); try rfl) (fun hc => ?_) (fun hc => ?_) | refine goR_guard (fun hc => ?_) (fun hc => ?_) | refine x_if (fun hc => ?_) (fun hc => ?_)) <;> (try simp only [hcl, bne, eq_self, not_true, ne_eq, not_false_eq_true, reduceCtorEq] at hc)))
    all_goals exact finV_dry rfl (by (simp only [go_sem, Nat.reduceAdd, Nat.reduceEqDiff, Nat.reduceLT, Nat.reduceLeDiff, Nat.reduceMul, Nat.reduceSub, reduceIte, resV, resAll, resOne, oneOr]); first | done | rfl)
  · repeat' (first | with_reducible refine x_ops ?_ | simp only [go_sem, wsl, vund, bne, List.length_map, Int.reduceBEq, Int.reduceLT, stOk, ownOk, List.contains_cons, List.contains_nil, Nat.reduceBEq, tIs, tBs, tPs, Nat.reduceAdd, Nat.reduceEqDiff, Nat.reduceLT, Nat.reduceLeDiff, Nat.reduceMul, Nat.reduceSub, Nat.reducePow, Nat.reduceDiv, Nat.reduceMod, reduceIte, splice, vfill, mix_get, ge_iff_le, gt_iff_lt, ite_not, not_true, not_false_eq_true, *] | (with_reducible refine x_call _ (C1) (by (simp only [go_sem, reduceIte, Nat.reduceEqDiff, Nat.reducePow, Nat.reduceDiv, Nat.reduceMod, mix_get, V.norms, V.norm, tIs, tBs, tPs, *]); first | done | rfl) ?_) | (with_reducible refine x_call _ (C2) (by (simp only [go_sem, reduceIte, Nat.reduceEqDiff, Nat.reducePow, Nat.reduceDiv, Nat.reduceMod, mix_get, V.norms, V.norm, tIs, tBs, tPs, *]); first | done | rfl) ?_) | (with_reducible refine x_call _ (C3) (by (simp only [go_sem, reduceIte, Nat.reduceEqDiff, Nat.reducePow, Nat.reduceDiv, Nat.reduceMod, mix_get, V.norms, V.norm, tIs, tBs, tPs, *]); first | done | rfl) ?_) | (with_reducible refine x_call _ (C4) (by (simp only [go_sem, reduceIte, Nat.reduceEqDiff, Nat.reducePow, Nat.reduceDiv, Nat.reduceMod, mix_get, V.norms, V.norm, tIs, tBs, tPs, *]); first | done | rfl) ?_) | (with_reducible refine x_call _ (C5) (by (simp only [go_sem, reduceIte, Nat.reduceEqDiff, Nat.reducePow, Nat.reduceDiv, Nat.reduceMod, mix_get, V.norms, V.norm, tIs, tBs, tPs, *]); first | done | rfl) ?_) | ((first | refine vrun_guard (by (simp only [go_sem, reduceIte, Nat.reduceEqDiff, V.norms, V.norm]); try rfl) (fun hc => ?_) (fun hc => ?_) | refine goR_guard (fun hc => ?_) (fun hc => ?_) | refine x_if (fun hc => ?_) (fun hc => ?_)) <;> (try simp only [hcl, bne, eq_self, not_true, ne_eq, not_false_eq_true, reduceCtorEq] at hc)))
    all_goals exact finV_dry rfl (by (simp only [go_sem, Nat.reduceAdd, Nat.reduceEqDiff, Nat.reduceLT, Nat.reduceLeDiff, Nat.reduceMul, Nat.reduceSub, reduceIte, resV, resAll, resOne, oneOr]); first | done | rfl)
set_option maxHeartbeats 2000000 in
theorem rStep_fn (h : Hand) (a b : Chord) (fa : FitC a) (fb : FitC b) (g k : Grip) (hg : g.fingers.length ≤ 17592186044416) (hkk : k.fingers.length ≤ 17592186044416) :
    Fn Try.prog Gd 46 [h.val, a.val, g.val, b.val, k.val] (.tup [vint (stepA h a g b k).1, vint (stepA h a g b k).2]) := by
  refine Fn.of_vx0 k_theorboref06_Step (by simp) (by rw [V.pures, pure_hand, V.pures, pure_chord, V.pures, pure_grip, V.pures, pure_chord, V.pures, pure_grip]; rfl) ?_
  have C1 := rcheck_fn h
  have C2 := rcheckchords_fn [a, b] (fits_two fa fb)
  have sv := seq_val [a, b]
  have s2 := @seq_two a b
  unfold stepA
  unfold tCs at C2
  have un : [a, b].flatMap Chord.cells = a.cells ++ b.cells := by simp
  rw [un] at C2
  clear un
  generalize hse : seqE [a, b] = se at C2 sv s2
  replace hse := Hid.mk hse
  by_cases he : chkE h = 0
  case neg =>
    rw [if_neg he]
    rw [chk_bad he] at C1
    clear he s2 sv
    unfold Hand.val at C1
    unfold c_theorboref06_Step Hand.val Chord.val Chord.cells Grip.val Grip.cells
    repeat' (first | with_reducible refine x_ops ?_ | simp only [go_sem, wsl, vund, bne, List.length_map, Int.reduceBEq, Int.reduceLT, stOk, ownOk, List.contains_cons, List.contains_nil, Nat.reduceBEq, tIs, tBs, tPs, Nat.reduceAdd, Nat.reduceEqDiff, Nat.reduceLT, Nat.reduceLeDiff, Nat.reduceMul, Nat.reduceSub, Nat.reducePow, Nat.reduceDiv, Nat.reduceMod, reduceIte, splice, vfill, mix_get, ge_iff_le, gt_iff_lt, ite_not, not_true, not_false_eq_true, *] | (with_reducible refine x_call _ (C1) (by (simp only [go_sem, reduceIte, Nat.reduceEqDiff, Nat.reducePow, Nat.reduceDiv, Nat.reduceMod, mix_get, V.norms, V.norm, tIs, tBs, tPs, *]); first | done | rfl) ?_) | ((first | refine vrun_guard (by (simp only [go_sem, reduceIte, Nat.reduceEqDiff, V.norms, V.norm]); try rfl) (fun hc => ?_) (fun hc => ?_) | refine goR_guard (fun hc => ?_) (fun hc => ?_) | refine x_if (fun hc => ?_) (fun hc => ?_)) <;> (try simp only [hcl, bne, eq_self, not_true, ne_eq, not_false_eq_true, reduceCtorEq] at hc)))
    all_goals exact finV_dry rfl (by (simp only [go_sem, Nat.reduceAdd, Nat.reduceEqDiff, Nat.reduceLT, Nat.reduceLeDiff, Nat.reduceMul, Nat.reduceSub, reduceIte, resV, resAll, resOne, oneOr]); first | done | rfl)
  have hk := chk_ok he
  rw [if_pos he]
  rw [he] at C1
  clear he
  by_cases hs : se = 0
  case neg =>
    rw [if_neg hs]
    have e1 : (se == 0) = false := by simpa using hs
    clear sv s2 hs
    unfold Hand.val at C1
    unfold Chord.cells at C2
    unfold c_theorboref06_Step Hand.val Chord.val Chord.cells Grip.val Grip.cells
    repeat' (first | with_reducible refine x_ops ?_ | simp only [go_sem, wsl, vund, bne, List.length_map, Int.reduceBEq, Int.reduceLT, stOk, ownOk, List.contains_cons, List.contains_nil, Nat.reduceBEq, tIs, tBs, tPs, Nat.reduceAdd, Nat.reduceEqDiff, Nat.reduceLT, Nat.reduceLeDiff, Nat.reduceMul, Nat.reduceSub, Nat.reducePow, Nat.reduceDiv, Nat.reduceMod, reduceIte, splice, vfill, mix_get, ge_iff_le, gt_iff_lt, ite_not, not_true, not_false_eq_true, *] | (with_reducible refine x_call _ (C1) (by (simp only [go_sem, reduceIte, Nat.reduceEqDiff, Nat.reducePow, Nat.reduceDiv, Nat.reduceMod, mix_get, V.norms, V.norm, tIs, tBs, tPs, *]); first | done | rfl) ?_) | (with_reducible refine x_call _ (C2) (by (simp only [go_sem, reduceIte, Nat.reduceEqDiff, Nat.reducePow, Nat.reduceDiv, Nat.reduceMod, mix_get, V.norms, V.norm, tIs, tBs, tPs, *]); first | done | rfl) ?_) | ((first | refine vrun_guard (by (simp only [go_sem, reduceIte, Nat.reduceEqDiff, V.norms, V.norm]); try rfl) (fun hc => ?_) (fun hc => ?_) | refine goR_guard (fun hc => ?_) (fun hc => ?_) | refine x_if (fun hc => ?_) (fun hc => ?_)) <;> (try simp only [hcl, bne, eq_self, not_true, ne_eq, not_false_eq_true, reduceCtorEq] at hc)))
    all_goals exact finV_dry rfl (by (simp only [go_sem, Nat.reduceAdd, Nat.reduceEqDiff, Nat.reduceLT, Nat.reduceLeDiff, Nat.reduceMul, Nat.reduceSub, reduceIte, resV, resAll, resOne, oneOr]); first | done | rfl)
  rw [if_pos hs]
  obtain ⟨ha, hb, hfol⟩ := s2 hs
  subst hs
  clear sv s2
  have C3 := rfits_fn h hk a ha fa g hg
  have C4 := rfits_fn h hk b hb fb k hkk
  cases h1 : fitB h a g
  · rw [h1] at C3
    rw [if_neg (fun hh => by cases hh.1)]
    clear ha hb hfol
    unfold Hand.val at C1 C3
    unfold Chord.cells at C2
    unfold Chord.val Chord.cells Grip.val Grip.cells at C3
    unfold c_theorboref06_Step Hand.val Chord.val Chord.cells Grip.val Grip.cells
    repeat' (first | with_reducible refine x_ops ?_ | simp only [go_sem, wsl, vund, bne, List.length_map, Int.reduceBEq, Int.reduceLT, stOk, ownOk, List.contains_cons, List.contains_nil, Nat.reduceBEq, tIs, tBs, tPs, Nat.reduceAdd, Nat.reduceEqDiff, Nat.reduceLT, Nat.reduceLeDiff, Nat.reduceMul, Nat.reduceSub, Nat.reducePow, Nat.reduceDiv, Nat.reduceMod, reduceIte, splice, vfill, mix_get, ge_iff_le, gt_iff_lt, ite_not, not_true, not_false_eq_true, *] | (with_reducible refine x_call _ (C1) (by (simp only [go_sem, reduceIte, Nat.reduceEqDiff, Nat.reducePow, Nat.reduceDiv, Nat.reduceMod, mix_get, V.norms, V.norm, tIs, tBs, tPs, *]); first | done | rfl) ?_) | (with_reducible refine x_call _ (C2) (by (simp only [go_sem, reduceIte, Nat.reduceEqDiff, Nat.reducePow, Nat.reduceDiv, Nat.reduceMod, mix_get, V.norms, V.norm, tIs, tBs, tPs, *]); first | done | rfl) ?_) | (with_reducible refine x_call _ (C3) (by (simp only [go_sem, reduceIte, Nat.reduceEqDiff, Nat.reducePow, Nat.reduceDiv, Nat.reduceMod, mix_get, V.norms, V.norm, tIs, tBs, tPs, *]); first | done | rfl) ?_) | ((first | refine vrun_guard (by (simp only [go_sem, reduceIte, Nat.reduceEqDiff, V.norms, V.norm]); try rfl) (fun hc => ?_) (fun hc => ?_) | refine goR_guard (fun hc => ?_) (fun hc => ?_) | refine x_if (fun hc => ?_) (fun hc => ?_)) <;> (try simp only [hcl, bne, eq_self, not_true, ne_eq, not_false_eq_true, reduceCtorEq] at hc)))
    all_goals exact finV_dry rfl (by (simp only [go_sem, Nat.reduceAdd, Nat.reduceEqDiff, Nat.reduceLT, Nat.reduceLeDiff, Nat.reduceMul, Nat.reduceSub, reduceIte, resV, resAll, resOne, oneOr]); first | done | rfl)
  rw [h1] at C3
  cases h2 : fitB h b k
  · rw [h2] at C4
    rw [if_neg (fun hh => by cases hh.2)]
    clear ha hb hfol
    unfold Hand.val at C1 C3 C4
    unfold Chord.cells at C2
    unfold Chord.val Chord.cells Grip.val Grip.cells at C3 C4
    unfold c_theorboref06_Step Hand.val Chord.val Chord.cells Grip.val Grip.cells
    repeat' (first | with_reducible refine x_ops ?_ | simp only [go_sem, wsl, vund, bne, List.length_map, Int.reduceBEq, Int.reduceLT, stOk, ownOk, List.contains_cons, List.contains_nil, Nat.reduceBEq, tIs, tBs, tPs, Nat.reduceAdd, Nat.reduceEqDiff, Nat.reduceLT, Nat.reduceLeDiff, Nat.reduceMul, Nat.reduceSub, Nat.reducePow, Nat.reduceDiv, Nat.reduceMod, reduceIte, splice, vfill, mix_get, ge_iff_le, gt_iff_lt, ite_not, not_true, not_false_eq_true, *] | (with_reducible refine x_call _ (C1) (by (simp only [go_sem, reduceIte, Nat.reduceEqDiff, Nat.reducePow, Nat.reduceDiv, Nat.reduceMod, mix_get, V.norms, V.norm, tIs, tBs, tPs, *]); first | done | rfl) ?_) | (with_reducible refine x_call _ (C2) (by (simp only [go_sem, reduceIte, Nat.reduceEqDiff, Nat.reducePow, Nat.reduceDiv, Nat.reduceMod, mix_get, V.norms, V.norm, tIs, tBs, tPs, *]); first | done | rfl) ?_) | (with_reducible refine x_call _ (C3) (by (simp only [go_sem, reduceIte, Nat.reduceEqDiff, Nat.reducePow, Nat.reduceDiv, Nat.reduceMod, mix_get, V.norms, V.norm, tIs, tBs, tPs, *]); first | done | rfl) ?_) | (with_reducible refine x_call _ (C4) (by (simp only [go_sem, reduceIte, Nat.reduceEqDiff, Nat.reducePow, Nat.reduceDiv, Nat.reduceMod, mix_get, V.norms, V.norm, tIs, tBs, tPs, *]); first | done | rfl) ?_) | ((first | refine vrun_guard (by (simp only [go_sem, reduceIte, Nat.reduceEqDiff, V.norms, V.norm]); try rfl) (fun hc => ?_) (fun hc => ?_) | refine goR_guard (fun hc => ?_) (fun hc => ?_) | refine x_if (fun hc => ?_) (fun hc => ?_)) <;> (try simp only [hcl, bne, eq_self, not_true, ne_eq, not_false_eq_true, reduceCtorEq] at hc)))
    all_goals exact finV_dry rfl (by (simp only [go_sem, Nat.reduceAdd, Nat.reduceEqDiff, Nat.reduceLT, Nat.reduceLeDiff, Nat.reduceMul, Nat.reduceSub, reduceIte, resV, resAll, resOne, oneOr]); first | done | rfl)
  rw [h2] at C4
  rw [if_pos ⟨rfl, rfl⟩]
  have f1 := fit_true.1 h1
  have f2 := fit_true.1 h2
  have C5 := rstep_fn h hk a b ha hb hfol fa fb g k f1.len f2.len ⟨f1.pos.1, by have := f1.pos.2; have := hk.top; omega⟩ ⟨f2.pos.1, by have := f2.pos.2; have := hk.top; omega⟩
  clear ha hb hfol f1 f2
  generalize stepR h a g b k = sr at C5
  obtain ⟨n, is⟩ := sr
  unfold Hand.val at C1 C3 C4 C5
  unfold Chord.cells at C2
  unfold Chord.val Chord.cells Grip.val Grip.cells at C3 C4 C5
  unfold c_theorboref06_Step Hand.val Chord.val Chord.cells Grip.val Grip.cells
  cases is
  · repeat' (first | with_reducible refine x_ops ?_ | simp only [go_sem, wsl, vund, bne, List.length_map, Int.reduceBEq, Int.reduceLT, stOk, ownOk, List.contains_cons, List.contains_nil, Nat.reduceBEq, tIs, tBs, tPs, Nat.reduceAdd, Nat.reduceEqDiff, Nat.reduceLT, Nat.reduceLeDiff, Nat.reduceMul, Nat.reduceSub, Nat.reducePow, Nat.reduceDiv, Nat.reduceMod, reduceIte, splice, vfill, mix_get, ge_iff_le, gt_iff_lt, ite_not, not_true, not_false_eq_true, *] | (with_reducible refine x_call _ (C1) (by (simp only [go_sem, reduceIte, Nat.reduceEqDiff, Nat.reducePow, Nat.reduceDiv, Nat.reduceMod, mix_get, V.norms, V.norm, tIs, tBs, tPs, *]); first | done | rfl) ?_) | (with_reducible refine x_call _ (C2) (by (simp only [go_sem, reduceIte, Nat.reduceEqDiff, Nat.reducePow, Nat.reduceDiv, Nat.reduceMod, mix_get, V.norms, V.norm, tIs, tBs, tPs, *]); first | done | rfl) ?_) | (with_reducible refine x_call _ (C3) (by (simp only [go_sem, reduceIte, Nat.reduceEqDiff, Nat.reducePow, Nat.reduceDiv, Nat.reduceMod, mix_get, V.norms, V.norm, tIs, tBs, tPs, *]); first | done | rfl) ?_) | (with_reducible refine x_call _ (C4) (by (simp only [go_sem, reduceIte, Nat.reduceEqDiff, Nat.reducePow, Nat.reduceDiv, Nat.reduceMod, mix_get, V.norms, V.norm, tIs, tBs, tPs, *]); first | done | rfl) ?_) | (with_reducible refine x_call _ (C5) (by (simp only [go_sem, reduceIte, Nat.reduceEqDiff, Nat.reducePow, Nat.reduceDiv, Nat.reduceMod, mix_get, V.norms, V.norm, tIs, tBs, tPs, *]); first | done | rfl) ?_) | ((first | refine vrun_guard (by (simp only [go_sem, reduceIte, Nat.reduceEqDiff, V.norms, V.norm]); try rfl) (fun hc => ?_) (fun hc => ?_) | refine goR_guard (fun hc => ?_) (fun hc => ?_) | refine x_if (fun hc => ?_) (fun hc => ?_)) <;> (try simp only [hcl, bne, eq_self, not_true, ne_eq, not_false_eq_true, reduceCtorEq] at hc)))
    all_goals exact finV_dry rfl (by (simp only [go_sem, Nat.reduceAdd, Nat.reduceEqDiff, Nat.reduceLT, Nat.reduceLeDiff, Nat.reduceMul, Nat.reduceSub, reduceIte, resV, resAll, resOne, oneOr]); first | done | rfl)
  · repeat' (first | with_reducible refine x_ops ?_ | simp only [go_sem, wsl, vund, bne, List.length_map, Int.reduceBEq, Int.reduceLT, stOk, ownOk, List.contains_cons, List.contains_nil, Nat.reduceBEq, tIs, tBs, tPs, Nat.reduceAdd, Nat.reduceEqDiff, Nat.reduceLT, Nat.reduceLeDiff, Nat.reduceMul, Nat.reduceSub, Nat.reducePow, Nat.reduceDiv, Nat.reduceMod, reduceIte, splice, vfill, mix_get, ge_iff_le, gt_iff_lt, ite_not, not_true, not_false_eq_true, *] | (with_reducible refine x_call _ (C1) (by (simp only [go_sem, reduceIte, Nat.reduceEqDiff, Nat.reducePow, Nat.reduceDiv, Nat.reduceMod, mix_get, V.norms, V.norm, tIs, tBs, tPs, *]); first | done | rfl) ?_) | (with_reducible refine x_call _ (C2) (by (simp only [go_sem, reduceIte, Nat.reduceEqDiff, Nat.reducePow, Nat.reduceDiv, Nat.reduceMod, mix_get, V.norms, V.norm, tIs, tBs, tPs, *]); first | done | rfl) ?_) | (with_reducible refine x_call _ (C3) (by (simp only [go_sem, reduceIte, Nat.reduceEqDiff, Nat.reducePow, Nat.reduceDiv, Nat.reduceMod, mix_get, V.norms, V.norm, tIs, tBs, tPs, *]); first | done | rfl) ?_) | (with_reducible refine x_call _ (C4) (by (simp only [go_sem, reduceIte, Nat.reduceEqDiff, Nat.reducePow, Nat.reduceDiv, Nat.reduceMod, mix_get, V.norms, V.norm, tIs, tBs, tPs, *]); first | done | rfl) ?_) | (with_reducible refine x_call _ (C5) (by (simp only [go_sem, reduceIte, Nat.reduceEqDiff, Nat.reducePow, Nat.reduceDiv, Nat.reduceMod, mix_get, V.norms, V.norm, tIs, tBs, tPs, *]); first | done | rfl) ?_) | ((first | refine vrun_guard (by (simp only [go_sem, reduceIte, Nat.reduceEqDiff, V.norms, V.norm]); try rfl) (fun hc => ?_) (fun hc => ?_) | refine goR_guard (fun hc => ?_) (fun hc => ?_) | refine x_if (fun hc => ?_) (fun hc => ?_)) <;> (try simp only [hcl, bne, eq_self, not_true, ne_eq, not_false_eq_true, reduceCtorEq] at hc)))
    all_goals exact finV_dry rfl (by (simp only [go_sem, Nat.reduceAdd, Nat.reduceEqDiff, Nat.reduceLT, Nat.reduceLeDiff, Nat.reduceMul, Nat.reduceSub, reduceIte, resV, resAll, resOne, oneOr]); first | done | rfl)
end Go.Proofs.Ytojjdkoglhecbaa
