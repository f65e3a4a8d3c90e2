/- Chords of the program: where a course lies, and what a right chord is, on values. -/
import Derived.Test.YtojjdkoglhecbaaH2
import Derived.Test.YtojjdkoglhecbaaP2
namespace Go.Proofs.Ytojjdkoglhecbaa
open Go.RowKit
attribute [local go_sem] vx_skip vx_ret vx_exit vx_seq vx_block vx_scope vx_cond vx_condT vx_condF gR_nil gR_cons VO.stops beq_self_eq_true Bool.false_beq Bool.true_beq Bool.not_true Bool.not_false Bool.false_eq_true if_false exo VI.on if_true exoOp pureSem List.map_cons List.map_nil St.ev initT Option.map_some putT_get putT_none put_obj put_next M0_next freeze_obj freeze_next List.getD_cons_zero List.getD_cons_succ List.getD_nil V.cells rdable Nat.add_assoc Nat.add_zero Nat.add_left_cancel_iff Nat.add_eq_left Nat.left_eq_add decide_true Bool.true_or ite_self onB vbinI vint vbool List.drop_zero List.take_succ_cons List.drop_succ_cons List.take_zero List.length_cons List.length_nil List.getElem?_cons_zero List.getElem?_cons_succ decide_eq_true_eq true_and and_true Nat.le_refl List.zip_cons_cons List.zip_nil_left V.pubs V.pub Option.bind_some List.all_cons List.all_nil V.one Bool.and_self List.cons_append List.nil_append then_nrm then_ret then_exit inB_nrm inB_ret inB_exit Int.toNat_natCast Int.natCast_nonneg eq_self Nat.zero_add Nat.mul_one
set_option linter.unusedSimpArgs false
set_option linter.unusedVariables false

/-- The first place on a course; how many there are, if there is none. -/
def fI : List (Int × Int) → Int → Nat
  | [], _ => 0
  | p :: l, c => if p.1 = c then 0 else fI l c + 1
theorem fI_le (l : List (Int × Int)) (c : Int) : fI l c ≤ l.length := by
  induction l with
  | nil => exact Nat.le_refl _
  | cons p l ih => rw [fI]; split <;> simp <;> omega
theorem fI_at {l : List (Int × Int)} {c : Int} (h : fI l c < l.length) : (l.getD (fI l c) (0, 0)).1 = c := by
  induction l with
  | nil => simp at h
  | cons p l ih =>
    rw [fI] at h ⊢
    split
    · rename_i hp; simpa using hp
    · rename_i hp
      rw [if_neg hp] at h
      simpa using ih (by simpa using h)
theorem fI_before {l : List (Int × Int)} {c : Int} {j : Nat} (h : j < fI l c) : (l.getD j (0, 0)).1 ≠ c := by
  induction l generalizing j with
  | nil => simp [fI] at h
  | cons p l ih =>
    rw [fI] at h
    split at h
    · omega
    · rename_i hp
      cases j with
      | zero => simpa using hp
      | succ j => simpa using ih (by omega)
theorem fI_eq {l : List (Int × Int)} {c : Int} {k : Nat} (h : ∀ j, j < k → (l.getD j (0, 0)).1 ≠ c) (hk : k < l.length) (hc : (l.getD k (0, 0)).1 = c) : fI l c = k := by
  rcases Nat.lt_trichotomy (fI l c) k with h1 | h1 | h1
  · exact absurd (fI_at (by omega)) (h _ h1)
  · exact h1
  · exact absurd hc (fI_before h1)
theorem fI_none {l : List (Int × Int)} {c : Int} (h : ∀ j, j < l.length → (l.getD j (0, 0)).1 ≠ c) : fI l c = l.length := by
  rcases Nat.lt_or_ge (fI l c) l.length with h1 | h1
  · exact absurd (fI_at h1) (h _ h1)
  · exact Nat.le_antisymm (fI_le l c) h1
theorem fI_lt {l : List (Int × Int)} {c : Int} : fI l c < l.length ↔ ∃ j, j < l.length ∧ (l.getD j (0, 0)).1 = c := by
  constructor
  · exact fun h => ⟨_, h, fI_at h⟩
  · rintro ⟨j, hj, hc⟩
    rcases Nat.lt_or_ge (fI l c) l.length with h1 | h1
    · exact h1
    · exact absurd hc (fI_before (by omega))
/-- The index as the program has it. -/
def dnI (l : List (Int × Int)) (c : Int) : Int := if fI l c < l.length then (fI l c : Int) else -1

theorem down1_fn (a b c : Int) : Fn Try.prog Gd 130 [.agg [vint a, vint b], .ept [vint c] 0] (vbool (a == c)) := by
  refine Fn.of_vx0 k_hand_down_1 (by simp) rfl ?_
  unfold c_hand_down_1
  repeat' (first | with_reducible refine x_ops ?_ | simp only [go_sem, wsl, vund, bne, List.length_map, Int.reduceBEq, Int.reduceLT, stOk, ownOk, List.contains_cons, List.contains_nil, Nat.reduceBEq, tIs, tBs, tPs, Nat.reduceAdd, Nat.reduceEqDiff, Nat.reduceLT, Nat.reduceLeDiff, Nat.reduceMul, Nat.reduceSub, Nat.reducePow, Nat.reduceDiv, Nat.reduceMod, reduceIte, splice, vfill, mix_get, ge_iff_le, gt_iff_lt, ite_not, not_true, not_false_eq_true, *] | ((first | refine vrun_guard (by (simp only [go_sem, reduceIte, Nat.reduceEqDiff, V.norms, V.norm]); try rfl) (fun hc => ?_) (fun hc => ?_) | refine goR_guard (fun hc => ?_) (fun hc => ?_) | refine x_if (fun hc => ?_) (fun hc => ?_)) <;> (try simp only [hcl, bne, eq_self, not_true, ne_eq, not_false_eq_true, reduceCtorEq] at hc)))
  exact finV_lit (by (simp only [go_sem, Nat.reduceAdd, Nat.reduceEqDiff, Nat.reduceLT, Nat.reduceLeDiff, Nat.reduceMul, Nat.reduceSub, reduceIte, resV, resAll, resOne, oneOr]); first | done | rfl) rfl
theorem call_down1 : callable Try.prog 130 = true := by kernel_rfl
theorem indexfunc_fn (l : List (Int × Int)) (c : Int) (hl : l.length ≤ 4611686018427387904) : Fn Try.prog Gd 129 [tPs l, .fn 130 [.ept [vint c] 0]] (vint (dnI l c)) := by
  refine Fn.of_vx0 k_slices_IndexFunc_api_Place_api_Place (by simp) (by rw [V.pures, pure_tPs]; rfl) ?_
  unfold c_slices_IndexFunc_api_Place_api_Place
  repeat' (first | with_reducible refine x_ops ?_ | simp only [go_sem, wsl, vund, bne, List.length_map, Int.reduceBEq, Int.reduceLT, stOk, ownOk, List.contains_cons, List.contains_nil, Nat.reduceBEq, tIs, tBs, tPs, Nat.reduceAdd, Nat.reduceEqDiff, Nat.reduceLT, Nat.reduceLeDiff, Nat.reduceMul, Nat.reduceSub, Nat.reducePow, Nat.reduceDiv, Nat.reduceMod, reduceIte, splice, vfill, mix_get, ge_iff_le, gt_iff_lt, ite_not, not_true, not_false_eq_true, *] | ((first | refine vrun_guard (by (simp only [go_sem, reduceIte, Nat.reduceEqDiff, V.norms, V.norm]); try rfl) (fun hc => ?_) (fun hc => ?_) | refine goR_guard (fun hc => ?_) (fun hc => ?_) | refine x_if (fun hc => ?_) (fun hc => ?_)) <;> (try simp only [hcl, bne, eq_self, not_true, ne_eq, not_false_eq_true, reduceCtorEq] at hc)))
  refine x_loopF w_slices_IndexFunc_api_Place_api_Place_p7 (by kernel_rfl) l.length (fun k t => t 8 = vint (k : Int) ∧ ∀ i, i < k → (l.getD i (0, 0)).1 ≠ c) ?_ ?_
  · exact ⟨by (simp only [go_sem, Nat.reduceAdd, Nat.reduceEqDiff, Nat.reduceLT, Nat.reduceLeDiff, Nat.reduceMul, Nat.reduceSub, reduceIte, resV, resAll, resOne, oneOr]); first | done | rfl, fun i h => by omega⟩
  rintro k t hk ⟨h8, hI⟩
  by_cases hlt : k < l.length
  · have g1 := pls_take hlt
    have g2 := pls_len l
    have c2 : (k : Int) < (l.length : Int) := by omega
    have c3 : k * 2 + 2 ≤ l.length * 2 := by omega
    have w2 := w_add1 (k := k) (by omega)
    repeat' (first | with_reducible refine x_ops ?_ | simp only [go_sem, wsl, vund, bne, List.length_map, Int.reduceBEq, Int.reduceLT, stOk, ownOk, List.contains_cons, List.contains_nil, Nat.reduceBEq, tIs, tBs, tPs, Nat.reduceAdd, Nat.reduceEqDiff, Nat.reduceLT, Nat.reduceLeDiff, Nat.reduceMul, Nat.reduceSub, Nat.reducePow, Nat.reduceDiv, Nat.reduceMod, reduceIte, splice, vfill, mix_get, ge_iff_le, gt_iff_lt, ite_not, not_true, not_false_eq_true, w_slices_IndexFunc_api_Place_api_Place_p7, *] | (with_reducible refine x_callvF (by (simp only [go_sem, reduceIte, Nat.reduceEqDiff, Nat.reducePow, Nat.reduceDiv, Nat.reduceMod, mix_get, V.norms, V.norm, tIs, tBs, tPs, *]); first | done | rfl) call_down1 (down1_fn _ _ _) (by (simp only [go_sem, reduceIte, Nat.reduceEqDiff, Nat.reducePow, Nat.reduceDiv, Nat.reduceMod, mix_get, V.norms, V.norm, tIs, tBs, tPs, *]); first | done | rfl) ?_) | ((first | refine vrun_guard (by (simp only [go_sem, reduceIte, Nat.reduceEqDiff, V.norms, V.norm]); try rfl) (fun hc => ?_) (fun hc => ?_) | refine goR_guard (fun hc => ?_) (fun hc => ?_) | refine x_if (fun hc => ?_) (fun hc => ?_)) <;> (try simp only [hcl, bne, eq_self, not_true, ne_eq, not_false_eq_true, reduceCtorEq] at hc)))
    · refine finV_lit (by (simp only [go_sem, Nat.reduceAdd, Nat.reduceEqDiff, Nat.reduceLT, Nat.reduceLeDiff, Nat.reduceMul, Nat.reduceSub, reduceIte, resV, resAll, resOne, oneOr]); first | done | rfl) ?_
      have := fI_eq hI hlt (by simpa using hc)
      rw [dnI, this, if_pos hlt]
    · refine nf (by omega) ⟨by (simp only [go_sem, Nat.reduceAdd, Nat.reduceEqDiff, Nat.reduceLT, Nat.reduceLeDiff, Nat.reduceMul, Nat.reduceSub, reduceIte, resV, resAll, resOne, oneOr]); first | done | rfl, fun i h => ?_⟩ rfl
      by_cases hi : i = k
      · subst hi; simpa using hc
      · exact hI i (by omega)
  · have c1 : ¬ ((k : Int) < (l.length : Int)) := by omega
    repeat' (first | with_reducible refine x_ops ?_ | simp only [go_sem, wsl, vund, bne, List.length_map, Int.reduceBEq, Int.reduceLT, stOk, ownOk, List.contains_cons, List.contains_nil, Nat.reduceBEq, tIs, tBs, tPs, Nat.reduceAdd, Nat.reduceEqDiff, Nat.reduceLT, Nat.reduceLeDiff, Nat.reduceMul, Nat.reduceSub, Nat.reducePow, Nat.reduceDiv, Nat.reduceMod, reduceIte, splice, vfill, mix_get, ge_iff_le, gt_iff_lt, ite_not, not_true, not_false_eq_true, w_slices_IndexFunc_api_Place_api_Place_p7, *] | ((first | refine vrun_guard (by (simp only [go_sem, reduceIte, Nat.reduceEqDiff, V.norms, V.norm]); try rfl) (fun hc => ?_) (fun hc => ?_) | refine goR_guard (fun hc => ?_) (fun hc => ?_) | refine x_if (fun hc => ?_) (fun hc => ?_)) <;> (try simp only [hcl, bne, eq_self, not_true, ne_eq, not_false_eq_true, reduceCtorEq] at hc)))
    refine finV_lit (by (simp only [go_sem, Nat.reduceAdd, Nat.reduceEqDiff, Nat.reduceLT, Nat.reduceLeDiff, Nat.reduceMul, Nat.reduceSub, reduceIte, resV, resAll, resOne, oneOr]); first | done | rfl) ?_
    have hI := fun i (h : i < l.length) => hI i (by omega)
    rw [dnI, fI_none hI, if_neg (by omega)]

structure Chord where
  down : List (Int × Int)
  held : List Int
  opn : List Int
def Chord.cells (c : Chord) : List V := [tPs c.down, tIs c.held, tIs c.opn]
def Chord.val (c : Chord) : V := .agg c.cells
theorem pure_chord (c : Chord) : c.val.pure = true := by
  rw [Chord.val, V.pure, Chord.cells]
  simp only [V.pures, pure_tIs, pure_tPs, Bool.and_self]

theorem down_fn (c : Chord) (co : Int) (hl : c.down.length ≤ 4611686018427387904) : Fn Try.prog Gd 100 [c.val, vint co] (vint (dnI c.down co)) := by
  refine Fn.of_vx0 k_hand_down (by simp) (by rw [V.pures, pure_chord]; rfl) ?_
  unfold c_hand_down Chord.val Chord.cells
  have h1 := indexfunc_fn c.down co hl
  repeat' (first | with_reducible refine x_ops ?_ | simp only [go_sem, wsl, vund, bne, List.length_map, Int.reduceBEq, Int.reduceLT, stOk, ownOk, List.contains_cons, List.contains_nil, Nat.reduceBEq, tIs, tBs, tPs, Nat.reduceAdd, Nat.reduceEqDiff, Nat.reduceLT, Nat.reduceLeDiff, Nat.reduceMul, Nat.reduceSub, Nat.reducePow, Nat.reduceDiv, Nat.reduceMod, reduceIte, splice, vfill, mix_get, ge_iff_le, gt_iff_lt, ite_not, not_true, not_false_eq_true, *] | ((first | refine vrun_guard (by (simp only [go_sem, reduceIte, Nat.reduceEqDiff, V.norms, V.norm]); try rfl) (fun hc => ?_) (fun hc => ?_) | refine goR_guard (fun hc => ?_) (fun hc => ?_) | refine x_if (fun hc => ?_) (fun hc => ?_)) <;> (try simp only [hcl, bne, eq_self, not_true, ne_eq, not_false_eq_true, reduceCtorEq] at hc)))
  refine x_lend allS h1 rfl ?_ ?_
  · (simp only [go_sem, reduceIte, Nat.reduceEqDiff, Nat.reducePow, Nat.reduceDiv, Nat.reduceMod, mix_get, V.norms, V.norm, tIs, tBs, tPs, *])
    exact .cons (.sl _ _ _) (.cons (.fn (.cons (.ptr rfl (by (simp only [go_sem, reduceIte, Nat.reduceEqDiff, Nat.reducePow, Nat.reduceDiv, Nat.reduceMod, mix_get, V.norms, V.norm, tIs, tBs, tPs, *]); first | done | rfl) (.cons (.lit _) .nil) rfl) .nil)) .nil)
  repeat' (first | with_reducible refine x_ops ?_ | simp only [go_sem, wsl, vund, bne, List.length_map, Int.reduceBEq, Int.reduceLT, stOk, ownOk, List.contains_cons, List.contains_nil, Nat.reduceBEq, tIs, tBs, tPs, Nat.reduceAdd, Nat.reduceEqDiff, Nat.reduceLT, Nat.reduceLeDiff, Nat.reduceMul, Nat.reduceSub, Nat.reducePow, Nat.reduceDiv, Nat.reduceMod, reduceIte, splice, vfill, mix_get, ge_iff_le, gt_iff_lt, ite_not, not_true, not_false_eq_true, *] | ((first | refine vrun_guard (by (simp only [go_sem, reduceIte, Nat.reduceEqDiff, V.norms, V.norm]); try rfl) (fun hc => ?_) (fun hc => ?_) | refine goR_guard (fun hc => ?_) (fun hc => ?_) | refine x_if (fun hc => ?_) (fun hc => ?_)) <;> (try simp only [hcl, bne, eq_self, not_true, ne_eq, not_false_eq_true, reduceCtorEq] at hc)))
  exact finV_lit (by (simp only [go_sem, Nat.reduceAdd, Nat.reduceEqDiff, Nat.reduceLT, Nat.reduceLeDiff, Nat.reduceMul, Nat.reduceSub, reduceIte, resV, resAll, resOne, oneOr]); first | done | rfl) rfl
end Go.Proofs.Ytojjdkoglhecbaa
