/- Contracts on values: the pitch of a stopped place; Places of the program. -/
import Derived.Test.YtbdhjpdjbogggaaDoorP4
import Derived.Test.YtbdhjpdjbogggaaDoorX12
import Derived.Test.YtbdhjpdjbogggaaDoorPl3
import Derived.Test.YtbdhjpdjbogggaaDoorW17
namespace Go.Proofs.YtbdhjpdjbogggaaDoor
open Go.RowKit
attribute [local go_sem] vx_skip vx_ret vx_exit vx_seq vx_block vx_scope vx_cond vx_condT vx_condF gR_nil gR_cons VO.stops beq_self_eq_true Bool.false_beq Bool.true_beq Bool.not_true Bool.not_false Bool.false_eq_true if_false exo VI.on if_true exoOp pureSem List.map_cons List.map_nil St.ev initT Option.map_some putT_get putT_none put_obj put_next M0_next freeze_obj freeze_next List.getD_cons_zero List.getD_cons_succ List.getD_nil V.cells rdable Nat.add_assoc Nat.add_zero Nat.add_left_cancel_iff Nat.add_eq_left Nat.left_eq_add decide_true Bool.true_or ite_self onB vbinI vint vbool List.drop_zero List.take_succ_cons List.drop_succ_cons List.take_zero List.length_cons List.length_nil List.getElem?_cons_zero List.getElem?_cons_succ decide_eq_true_eq true_and and_true Nat.le_refl List.zip_cons_cons List.zip_nil_left V.pubs V.pub Option.bind_some List.all_cons List.all_nil V.one Bool.and_self List.cons_append List.nil_append then_nrm then_ret then_exit inB_nrm inB_ret inB_exit Int.toNat_natCast Int.natCast_nonneg eq_self Nat.zero_add Nat.mul_one
set_option linter.unusedSimpArgs false
set_option linter.unusedVariables false

def tC (c : Crs) : V := .agg [vint c.p, vint c.f, vbool c.o]
theorem pure_tC (c : Crs) : V.pure (tC c) = true := by
  rw [tC, V.pure, V.pures, V.pures, V.pures, V.pures, vint, vint, vbool, V.pure, V.pure, V.pure]; rfl
theorem stopped_fn (cs : List Crs) (ss : List Int) (c : Crs) (k : Nat) (hk : k ≤ ss.length) (h18 : ss.length ≤ 1000) (hw : IntKind.i64.wrap (stopOf ss c.p k) = stopOf ss c.p k) : Fn Tryd.prog Gd 67 [tIns cs ss, tC c, vint k] (vint (stopOf ss c.p k)) := by
  refine Fn.of_vx0 k_instrument_stopped (by simp) (pures_cons (pures_tIns cs ss) (pures_cons (pure_tC c) (pures1 (pure_vint _)))) ?_
  unfold c_instrument_stopped tIns tC
  repeat (first | with_reducible refine x_ops ?_ | (simp only [go_sem, Nat.reduceAdd, Nat.reduceEqDiff, Nat.reduceLT, Nat.reduceLeDiff, Nat.reduceMul, Nat.reduceSub, reduceIte, splice, vfill]))
  refine x_if (fun h0 => ?_) (fun h0 => ?_)
  · have h0 : k = 0 := by simp at h0; omega
    subst h0
    repeat (first | with_reducible refine x_ops ?_ | (simp only [go_sem, Nat.reduceAdd, Nat.reduceEqDiff, Nat.reduceLT, Nat.reduceLeDiff, Nat.reduceMul, Nat.reduceSub, reduceIte, splice, vfill]))
    have e : stopOf ss c.p ((0 : Nat) : Int) = c.p := by simp [stopOf]
    rw [e]
    exact finV_ret (r' := _) (by (simp only [go_sem, Nat.reduceAdd, Nat.reduceEqDiff, Nat.reduceLT, Nat.reduceLeDiff, Nat.reduceMul, Nat.reduceSub, reduceIte, resV, resAll, resOne, oneOr]); try rfl) (.lit _)
  · have h0 : k ≠ 0 := by simp at h0; omega
    have hw1 : IntKind.i64.wrap ((k : Int) - 1) = ((k - 1 : Nat) : Int) := by rw [IntWalk.i64_in _ (by omega)]; omega
    have hlt : ((k - 1 : Nat) : Int) < ss.length := by omega
    have g1 := ints_at (l := ss) (k := k - 1) (by omega)
    have lS := ints_len ss
    have e : stopOf ss c.p (k : Int) = c.p + ss.getD (k - 1) 0 := by
      rw [stopOf, if_pos (by omega), show ((k : Int)).toNat - 1 = k - 1 by omega]
    rw [e] at hw ⊢
    simp only [vint] at g1
    repeat (first | with_reducible refine x_ops ?_ | (simp only [go_sem, Nat.reduceAdd, Nat.reduceEqDiff, Nat.reduceLT, Nat.reduceLeDiff, Nat.reduceMul, Nat.reduceSub, reduceIte, splice, vfill, tInts, hw1, hlt, lS, g1, hw]))
    exact finV_ret (r' := _) (by (simp only [go_sem, Nat.reduceAdd, Nat.reduceEqDiff, Nat.reduceLT, Nat.reduceLeDiff, Nat.reduceMul, Nat.reduceSub, reduceIte, resV, resAll, resOne, oneOr]); try rfl) (.lit _)

def tPls (l : List (Nat × Nat)) : V := .sl l.length (lits (cellsP l)) .no
theorem pls_len (l : List (Nat × Nat)) : (lits (cellsP l)).length = l.length * 2 := by rw [lits_length, cellsP_length]
theorem plOne_le (ss : List Int) (r : Int) (k : Nat) (c : Crs) (m : Nat) : (plOne ss r k c m).length ≤ m := by
  unfold plOne
  rw [List.length_map]
  exact Nat.le_trans (List.length_filter_le _ _) (by simp)
theorem plTo_le {cs : List Crs} {ss : List Int} (hc : ∀ k : Nat, k < cs.length → (cs.getD k default).f ≤ 18) (r : Int) : ∀ k : Nat, k ≤ cs.length → (plTo cs ss r k).length ≤ k * 19
  | 0, _ => Nat.zero_le _
  | k + 1, hk => by
    have := plTo_le (ss := ss) hc r k (by omega)
    have h2 := plOne_le ss r k (cs.getD k default) ((cs.getD k default).f.toNat + 1)
    have h3 := hc k (by omega)
    rw [plTo_succ, List.length_append]
    omega
def PlO (cs : List Crs) (ss : List Int) (r : Int) (s : St) : Prop := ∃ (k : Nat) (t : Tok), k ≤ cs.length ∧ s.t 25 = vint k ∧ s.t 24 = vint cs.length ∧ s.t 23 = tCrs cs ∧ s.t 2 = .ptr 0 0 ∧ s.m.obj 0 = some (.box [tCrs cs, tInts ss] 39) ∧ s.t 1 = vint r ∧
  s.t 7 = .sl (plTo cs ss r k).length (lits (cellsP (plTo cs ss r k))) t ∧ Apb s.m t (plTo cs ss r k).length 41 2 ∧ 0 < s.m.next
def PlN (cs : List Crs) (ss : List Int) (r : Int) (k B : Nat) (s : St) : Prop := ∃ (m : Nat) (t : Tok) (L : List (Nat × Nat)), L = plTo cs ss r k ++ plOne ss r k (cs.getD k default) m ∧ (m : Int) ≤ (cs.getD k default).f + 1 ∧ s.t 10 = vint m ∧ s.t 8 = vint k ∧ s.t 9 = .ptr B 0 ∧
  s.m.obj B = some (.box [vint (cs.getD k default).p, vint (cs.getD k default).f, vbool (cs.getD k default).o] 59) ∧ B < s.m.next ∧ s.t 25 = vint k ∧ s.t 24 = vint cs.length ∧ s.t 23 = tCrs cs ∧ s.t 2 = .ptr 0 0 ∧ s.m.obj 0 = some (.box [tCrs cs, tInts ss] 39) ∧ s.t 1 = vint r ∧
  s.t 7 = .sl L.length (lits (cellsP L)) t ∧ Apb s.m t L.length 41 2 ∧ 0 < s.m.next
theorem crs_three {l : List Crs} {k : Nat} (hk : k < l.length) : ((lits (cells3 l)).drop (k * 3)).take 3 = [vint (l.getD k default).p, vint (l.getD k default).f, vbool (l.getD k default).o] := by
  obtain ⟨a, b, e, rfl⟩ := split_at hk
  generalize l.getD a.length default = c at e ⊢
  rw [e, cells3_mid, ← mid_length, List.drop_left]
  rfl
theorem pls_two {l : List (Nat × Nat)} {k : Nat} (hk : k < l.length) : ((lits (cellsP l)).drop (k * 2)).take 2 = [vint ((l[k]'hk).1 : Int), vint ((l[k]'hk).2 : Int)] := by
  have h := cellsP_at l k hk
  have hl : k * 2 + 1 < (lits (cellsP l)).length := by rw [pls_len]; omega
  have g0 : (lits (cellsP l))[k * 2]? = some (vint ((l[k]'hk).1 : Int)) := by rw [lits_get, h.1]; rfl
  have g1 : (lits (cellsP l))[k * 2 + 1]? = some (vint ((l[k]'hk).2 : Int)) := by rw [lits_get, h.2]; rfl
  rw [List.drop_eq_getElem_cons (by omega), List.drop_eq_getElem_cons (by omega)]
  rw [List.getElem?_eq_getElem (by omega)] at g0 g1
  cases g0' : (lits (cellsP l))[k * 2] <;> simp_all
theorem places_fn (cs : List Crs) (ss : List Int) (r : Int) : Fn Tryd.prog Gd 40 [tIns cs ss, vint r] (.tup [tPls (plV cs ss r), vint (plE cs ss r)]) := by
  refine Fn.of_vx0 k_instrument_Places (by simp) (pures_cons (pures_tIns cs ss) (pures1 (pure_vint r))) ?_
  unfold c_instrument_Places tIns
  repeat (first | with_reducible refine x_ops ?_ | (simp only [go_sem, Nat.reduceAdd, Nat.reduceEqDiff, Nat.reduceLT, Nat.reduceLeDiff, Nat.reduceMul, Nat.reduceSub, reduceIte, splice, vfill]))
  refine x_call none (check_fn cs ss) (by (simp only [go_sem, reduceIte, Nat.reduceEqDiff, V.norms, V.norm]); rfl) ?_
  repeat (first | with_reducible refine x_ops ?_ | (simp only [go_sem, Nat.reduceAdd, Nat.reduceEqDiff, Nat.reduceLT, Nat.reduceLeDiff, Nat.reduceMul, Nat.reduceSub, reduceIte, splice, vfill]))
  refine x_if (fun ht => ?_) (fun ht => ?_)
  · repeat (first | with_reducible refine x_ops ?_ | (simp only [go_sem, Nat.reduceAdd, Nat.reduceEqDiff, Nat.reduceLT, Nat.reduceLeDiff, Nat.reduceMul, Nat.reduceSub, reduceIte, splice, vfill]))
    have h0 : chk cs ss ≠ 0 := by simpa using ht
    have e : plE cs ss r = chk cs ss := by rw [plE, if_pos h0]
    rw [plV, if_neg (by rw [e]; exact h0), e]
    exact finV_ret (r' := _) (by (simp only [go_sem, Nat.reduceAdd, Nat.reduceEqDiff, Nat.reduceLT, Nat.reduceLeDiff, Nat.reduceMul, Nat.reduceSub, reduceIte, resV, resAll, resOne, oneOr]); try rfl) (vw_pair (.sl _ _ _))
  · have h0 : chk cs ss = 0 := by simpa using ht
    by_cases h1 : r < 0
    · have d1 : decide (r < 0) = true := by simpa using h1
      have e : plE cs ss r = 10 := by rw [plE, if_neg (by rw [h0]; decide), if_pos (.inl h1)]
      rw [plV, if_neg (by rw [e]; decide), e]
      repeat (first | with_reducible refine x_ops ?_ | (simp only [go_sem, Nat.reduceAdd, Nat.reduceEqDiff, Nat.reduceLT, Nat.reduceLeDiff, Nat.reduceMul, Nat.reduceSub, reduceIte, splice, vfill, d1]))
      exact finV_ret (r' := _) (by (simp only [go_sem, Nat.reduceAdd, Nat.reduceEqDiff, Nat.reduceLT, Nat.reduceLeDiff, Nat.reduceMul, Nat.reduceSub, reduceIte, resV, resAll, resOne, oneOr]); try rfl) (vw_pair (.sl _ _ _))
    have d1 : decide (r < 0) = false := by simpa using h1
    by_cases h2 : r > 127
    · have d2 : decide (r > 127) = true := by simpa using h2
      have e : plE cs ss r = 10 := by rw [plE, if_neg (by rw [h0]; decide), if_pos (.inr h2)]
      rw [plV, if_neg (by rw [e]; decide), e]
      repeat (first | with_reducible refine x_ops ?_ | (simp only [go_sem, Nat.reduceAdd, Nat.reduceEqDiff, Nat.reduceLT, Nat.reduceLeDiff, Nat.reduceMul, Nat.reduceSub, reduceIte, splice, vfill, d1, d2]))
      exact finV_ret (r' := _) (by (simp only [go_sem, Nat.reduceAdd, Nat.reduceEqDiff, Nat.reduceLT, Nat.reduceLeDiff, Nat.reduceMul, Nat.reduceSub, reduceIte, resV, resAll, resOne, oneOr]); try rfl) (vw_pair (.sl _ _ _))
    have d2 : decide (r > 127) = false := by simpa using h2
    have e : plE cs ss r = 0 := by rw [plE, if_neg (by rw [h0]; decide), if_neg (by omega)]
    rw [plV, if_pos e, e]
    obtain ⟨hl14, hl18, hst, hall⟩ := chk_zero h0
    have hcf : ∀ k : Nat, k < cs.length → 0 ≤ (cs.getD k default).f ∧ (cs.getD k default).f ≤ (ss.length : Int) ∧ 0 ≤ (cs.getD k default).p ∧ (cs.getD k default).p ≤ 127 := fun k hk => by
      have hm : cs.getD k default ∈ cs := by
        rw [List.getD_eq_getElem?_getD, List.getElem?_eq_getElem hk]; exact List.getElem_mem hk
      have := crsE_zero (hall _ hm)
      exact ⟨this.1, this.2.1, this.2.2.1, this.2.2.2.1⟩
    have hle : ∀ k, k ≤ cs.length → (plTo cs ss r k).length ≤ k * 19 := plTo_le (fun k hk => by have := hcf k hk; omega) r
    have lC := crs_len cs
    repeat (first | with_reducible refine x_ops ?_ | (simp only [go_sem, Nat.reduceAdd, Nat.reduceEqDiff, Nat.reduceLT, Nat.reduceLeDiff, Nat.reduceMul, Nat.reduceSub, reduceIte, splice, vfill, d1, d2]))
    refine x_loop (PlO cs ss r) (fun s => cs.length - numOf (s.t 25)) ?_ ?_
    · refine ⟨0, .exact, Nat.zero_le _, rfl, rfl, rfl, rfl, ?_, rfl, rfl, .inl rfl, ?_⟩
      · simp only [put_obj, put_next, M0_next, freeze_obj, freeze_next, Nat.add_zero, Nat.zero_add, Nat.add_assoc, Nat.add_left_cancel_iff, Nat.add_eq_left, Nat.left_eq_add, decide_eq_true_eq, List.nil_append, List.append_nil, Nat.reduceAdd, Nat.reduceEqDiff, Nat.reduceLeDiff, Nat.reduceLT, reduceIte]; try rfl
      · simp only [put_obj, put_next, M0_next, freeze_obj, freeze_next, Nat.add_zero, Nat.zero_add, Nat.add_assoc, Nat.add_left_cancel_iff, Nat.add_eq_left, Nat.left_eq_add, decide_eq_true_eq, List.nil_append, List.append_nil, Nat.reduceAdd, Nat.reduceEqDiff, Nat.reduceLeDiff, Nat.reduceLT, reduceIte]; try omega
    · rintro s ⟨k, t, hk, h25, h24, h23, h2', o0, h1', h7, hap, hn⟩
      by_cases hlt : k < cs.length
      · have d3 : decide ((k : Int) < cs.length) = true := by simp; omega
        have hlti : ((k : Nat) : Int) < cs.length := by omega
        have g3 := crs_three hlt
        have bk : k * 3 + 3 ≤ cs.length * 3 := by omega
        have bk2 : k * 3 + 3 ≤ (lits (cells3 cs)).length := by omega
        simp only [vint, vbool] at g3
        obtain ⟨hf0, hf1, hp0, hp1⟩ := hcf k hlt
        have hlek := hle k hk
        have hsc := plTo_succ cs ss r k
        have hkk : plTo cs ss r k ++ plOne ss r k (cs.getD k default) 0 = plTo cs ss r k := by rw [plOne_zero, List.append_nil]
        have hstop : ∀ m : Nat, (m : Int) ≤ (cs.getD k default).f → IntKind.i64.wrap (stopOf ss (cs.getD k default).p m) = stopOf ss (cs.getD k default).p m := fun m hm => by
          have hb : 0 ≤ (if 0 < (m : Int) then ss.getD ((m : Int).toNat - 1) 0 else 0) ∧ (if 0 < (m : Int) then ss.getD ((m : Int).toNat - 1) 0 else 0) ≤ 127 := by
            split
            · have hn := steps_nth hst ((m : Int).toNat - 1) (by omega)
              omega
            · omega
          unfold stopOf
          exact IntWalk.i64_in _ (by omega)
        have hw1 : IntKind.i64.wrap ((k : Int) + 1) = ((k + 1 : Nat) : Int) := by rw [IntWalk.i64_in _ (by omega)]; omega
        repeat (first | with_reducible refine x_ops ?_ | (simp only [go_sem, Nat.reduceAdd, Nat.reduceEqDiff, Nat.reduceLT, Nat.reduceLeDiff, Nat.reduceMul, Nat.reduceSub, reduceIte, h25, h24, d3]))
        repeat (first | with_reducible refine x_ops ?_ | (simp only [go_sem, Nat.reduceAdd, Nat.reduceEqDiff, Nat.reduceLT, Nat.reduceLeDiff, Nat.reduceMul, Nat.reduceSub, reduceIte, splice, vfill, h25, h23, tCrs, hlti, lC, g3, bk, bk2]))
        refine x_loop (PlN cs ss r k (s.m.next + 3)) (fun s => (cs.getD k default).f.toNat + 1 - numOf (s.t 10)) ?_ ?_
        · refine ⟨0, t, plTo cs ss r k, hkk.symm, by omega, rfl, rfl, rfl, ?_, ?_, h25, h24, h23, h2', ?_, h1', h7, ?_, ?_⟩
          · simp only [put_obj, put_next, M0_next, freeze_obj, freeze_next, Nat.add_zero, Nat.zero_add, Nat.add_assoc, Nat.add_left_cancel_iff, Nat.add_eq_left, Nat.left_eq_add, decide_eq_true_eq, List.nil_append, List.append_nil, Nat.reduceAdd, Nat.reduceEqDiff, Nat.reduceLeDiff, Nat.reduceLT, reduceIte]; try rfl
          · simp only [put_obj, put_next, M0_next, freeze_obj, freeze_next, Nat.add_zero, Nat.zero_add, Nat.add_assoc, Nat.add_left_cancel_iff, Nat.add_eq_left, Nat.left_eq_add, decide_eq_true_eq, List.nil_append, List.append_nil, Nat.reduceAdd, Nat.reduceEqDiff, Nat.reduceLeDiff, Nat.reduceLT, reduceIte]; try omega
          · simp only [put_obj, put_next, M0_next, freeze_obj, freeze_next, Nat.add_zero, Nat.zero_add, Nat.add_assoc, Nat.add_left_cancel_iff, Nat.add_eq_left, Nat.left_eq_add, decide_eq_true_eq, List.nil_append, List.append_nil, Nat.reduceAdd, Nat.reduceEqDiff, Nat.reduceLeDiff, Nat.reduceLT, reduceIte]; exact o0
          · refine hap.mono (fun u hu _ => ?_) ?_
            · simp only [put_obj, put_next, M0_next, freeze_obj, freeze_next, Nat.add_zero, Nat.zero_add, Nat.add_assoc, Nat.add_left_cancel_iff, Nat.add_eq_left, Nat.left_eq_add, decide_eq_true_eq, List.nil_append, List.append_nil, Nat.reduceAdd, Nat.reduceEqDiff, Nat.reduceLeDiff, Nat.reduceLT, reduceIte]
              repeat rw [if_neg (by omega)]
            · simp only [put_obj, put_next, M0_next, freeze_obj, freeze_next, Nat.add_zero, Nat.zero_add, Nat.add_assoc, Nat.add_left_cancel_iff, Nat.add_eq_left, Nat.left_eq_add, decide_eq_true_eq, List.nil_append, List.append_nil, Nat.reduceAdd, Nat.reduceEqDiff, Nat.reduceLeDiff, Nat.reduceLT, reduceIte]; try omega
          · simp only [put_obj, put_next, M0_next, freeze_obj, freeze_next, Nat.add_zero, Nat.zero_add, Nat.add_assoc, Nat.add_left_cancel_iff, Nat.add_eq_left, Nat.left_eq_add, decide_eq_true_eq, List.nil_append, List.append_nil, Nat.reduceAdd, Nat.reduceEqDiff, Nat.reduceLeDiff, Nat.reduceLT, reduceIte]; try omega
        · rintro s' ⟨m, t, L, hL, hm, h10, h8, h9, oB, hB, h25, h24, h23, h2', o0, h1', h7, hap, hn⟩
          by_cases k1 : (m : Int) ≤ (cs.getD k default).f
          · have d4 : decide ((m : Int) ≤ (cs.getD k default).f) = true := by simpa using k1
            have hwm : IntKind.i64.wrap ((m : Int) + 1) = ((m + 1 : Nat) : Int) := by rw [IntWalk.i64_in _ (by omega)]; omega
            have S1 := stopped_fn cs ss (cs.getD k default) m (by omega) (by omega) (hstop m k1)
            unfold tC at S1
            repeat (first | with_reducible refine x_ops ?_ | (simp only [go_sem, Nat.reduceAdd, Nat.reduceEqDiff, Nat.reduceLT, Nat.reduceLeDiff, Nat.reduceMul, Nat.reduceSub, reduceIte, splice, vfill, h10, h9, oB, d4]))
            repeat (first | with_reducible refine x_ops ?_ | (simp only [go_sem, Nat.reduceAdd, Nat.reduceEqDiff, Nat.reduceLT, Nat.reduceLeDiff, Nat.reduceMul, Nat.reduceSub, reduceIte, splice, vfill, h2', o0, h9, oB, h10, tCrs, tInts]))
            refine x_call _ S1 (by (simp only [go_sem, reduceIte, Nat.reduceEqDiff, V.norms, V.norm]); rfl) ?_
            repeat (first | with_reducible refine x_ops ?_ | (simp only [go_sem, Nat.reduceAdd, Nat.reduceEqDiff, Nat.reduceLT, Nat.reduceLeDiff, Nat.reduceMul, Nat.reduceSub, reduceIte, splice, vfill, h1', h10]))
            refine x_if (fun he => ?_) (fun he => ?_)
            · have he : stopOf ss (cs.getD k default).p m = r := by simpa using he
              have hlen : L.length ≤ k * 19 + m := by
                rw [hL, List.length_append]
                have := plOne_le ss r k (cs.getD k default) m
                omega
              repeat (first | with_reducible refine x_ops ?_ | (simp only [go_sem, Nat.reduceAdd, Nat.reduceEqDiff, Nat.reduceLT, Nat.reduceLeDiff, Nat.reduceMul, Nat.reduceSub, reduceIte, splice, vfill, h7, h8, h10, hw1, hwm]))
              refine x_appb (k := t) (by (simp only [go_sem, reduceIte, Nat.reduceEqDiff, V.norms, V.norm]); try rfl) (by (simp only [go_sem, reduceIte, Nat.reduceEqDiff, V.norms, V.norm]); try rfl) (hap.mono (fun _ _ _ => rfl) (by (simp only [put_obj, put_next, M0_next, freeze_obj, freeze_next, Nat.add_zero, Nat.zero_add, Nat.add_assoc, Nat.add_left_cancel_iff, Nat.add_eq_left, Nat.left_eq_add, decide_eq_true_eq, List.nil_append, List.append_nil, Nat.reduceAdd, Nat.reduceEqDiff, Nat.reduceLeDiff, Nat.reduceLT, reduceIte]); try omega)) (pls_len L) (by simp) (by omega) (by unfold maxLen; omega) (by (simp only [put_obj, put_next, M0_next, freeze_obj, freeze_next, Nat.add_zero, Nat.zero_add, Nat.add_assoc, Nat.add_left_cancel_iff, Nat.add_eq_left, Nat.left_eq_add, decide_eq_true_eq, List.nil_append, List.append_nil, Nat.reduceAdd, Nat.reduceEqDiff, Nat.reduceLeDiff, Nat.reduceLT, reduceIte]); try omega) (fun t' m' hap' hnx hbx hot => ?_)
              have hnx : m'.next = s'.m.next + 8 := hnx
              repeat (first | with_reducible refine x_ops ?_ | (simp only [go_sem, Nat.reduceAdd, Nat.reduceEqDiff, Nat.reduceLT, Nat.reduceLeDiff, Nat.reduceMul, Nat.reduceSub, reduceIte, splice, vfill, h10, hwm]))
              refine ⟨⟨m + 1, t', L ++ [(k + 1, m)], ?_, by omega, rfl, h8, h9, hbx _ _ _ oB (by omega), ?_, h25, h24, h23, h2', hbx _ _ _ o0 (by omega), h1', ?_, ?_, ?_⟩, ?_⟩
              · rw [plOne_yes he, hL, List.append_assoc]
              · simp only [put_obj, put_next, M0_next, freeze_obj, freeze_next, Nat.add_zero, Nat.zero_add, Nat.add_assoc, Nat.add_left_cancel_iff, Nat.add_eq_left, Nat.left_eq_add, decide_eq_true_eq, List.nil_append, List.append_nil, Nat.reduceAdd, Nat.reduceEqDiff, Nat.reduceLeDiff, Nat.reduceLT, reduceIte]; omega
              · rw [List.length_append, cellsP_snoc, lits_append]; rfl
              · rw [List.length_append]; exact hap'
              · simp only [put_obj, put_next, M0_next, freeze_obj, freeze_next, Nat.add_zero, Nat.zero_add, Nat.add_assoc, Nat.add_left_cancel_iff, Nat.add_eq_left, Nat.left_eq_add, decide_eq_true_eq, List.nil_append, List.append_nil, Nat.reduceAdd, Nat.reduceEqDiff, Nat.reduceLeDiff, Nat.reduceLT, reduceIte]; omega
              · simp only [numOf, vint, putT_get, reduceIte, Nat.reduceEqDiff, Int.toNat_natCast, h10]; omega
            · have he : ¬ stopOf ss (cs.getD k default).p m = r := by simpa using he
              repeat (first | with_reducible refine x_ops ?_ | (simp only [go_sem, Nat.reduceAdd, Nat.reduceEqDiff, Nat.reduceLT, Nat.reduceLeDiff, Nat.reduceMul, Nat.reduceSub, reduceIte, splice, vfill, h10, hwm]))
              refine ⟨⟨m + 1, t, L, ?_, by omega, rfl, h8, h9, oB, hB, h25, h24, h23, h2', o0, h1', h7, hap, hn⟩, ?_⟩
              · rw [plOne_no he]; exact hL
              · simp only [numOf, vint, putT_get, reduceIte, Nat.reduceEqDiff, Int.toNat_natCast, h10]; omega
          · have d4 : decide ((m : Int) ≤ (cs.getD k default).f) = false := by simpa using k1
            have hme : m = (cs.getD k default).f.toNat + 1 := by omega
            rw [hme, ← hsc] at hL
            subst hL
            repeat (first | with_reducible refine x_ops ?_ | (simp only [go_sem, Nat.reduceAdd, Nat.reduceEqDiff, Nat.reduceLT, Nat.reduceLeDiff, Nat.reduceMul, Nat.reduceSub, reduceIte, splice, vfill, h10, h9, oB, d4, h25, hw1]))
            refine ⟨⟨k + 1, t, hlt, rfl, h24, h23, h2', o0, h1', h7, hap, hn⟩, ?_⟩
            simp [numOf]; omega
      · have d3 : decide ((k : Int) < cs.length) = false := by simp; omega
        have hke : k = cs.length := by omega
        subst hke
        repeat (first | with_reducible refine x_ops ?_ | (simp only [go_sem, Nat.reduceAdd, Nat.reduceEqDiff, Nat.reduceLT, Nat.reduceLeDiff, Nat.reduceMul, Nat.reduceSub, reduceIte, h25, h24, d3, h7]))
        exact finV_ret (r' := _) (by (simp only [go_sem, Nat.reduceAdd, Nat.reduceEqDiff, Nat.reduceLT, Nat.reduceLeDiff, Nat.reduceMul, Nat.reduceSub, reduceIte, resV, resAll, resOne, oneOr, h7]); try rfl) (vw_pair (.sl _ _ _))
end Go.Proofs.YtbdhjpdjbogggaaDoor
