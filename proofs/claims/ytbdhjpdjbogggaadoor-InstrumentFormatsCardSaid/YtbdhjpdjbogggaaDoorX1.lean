/- Contracts on values: instruments; Check; Reentrant. -/
import Derived.Test.YtbdhjpdjbogggaaDoorP1
import Derived.Test.YtbdhjpdjbogggaaDoorW1
namespace Go.Proofs.YtbdhjpdjbogggaaDoor
open Go.RowKit
attribute [local go_sem] vx_skip vx_ret vx_exit vx_seq vx_block vx_scope vx_cond vx_condT vx_condF gR_nil gR_cons VO.stops beq_self_eq_true Bool.false_beq Bool.true_beq Bool.not_true Bool.not_false Bool.false_eq_true if_false exo VI.on if_true exoOp pureSem List.map_cons List.map_nil St.ev initT Option.map_some putT_get putT_none put_obj put_next M0_next freeze_obj freeze_next List.getD_cons_zero List.getD_cons_succ List.getD_nil V.cells rdable Nat.add_assoc Nat.add_zero Nat.add_left_cancel_iff Nat.add_eq_left Nat.left_eq_add decide_true Bool.true_or ite_self onB vbinI vint vbool List.drop_zero List.take_succ_cons List.drop_succ_cons List.take_zero List.length_cons List.length_nil List.getElem?_cons_zero List.getElem?_cons_succ decide_eq_true_eq true_and and_true Nat.le_refl List.zip_cons_cons List.zip_nil_left V.pubs V.pub Option.bind_some List.all_cons List.all_nil V.one Bool.and_self List.cons_append List.nil_append then_nrm then_ret then_exit inB_nrm inB_ret inB_exit Int.toNat_natCast Int.natCast_nonneg eq_self Nat.zero_add Nat.mul_one
set_option linter.unusedSimpArgs false
set_option linter.unusedVariables false

def lits (l : List Value) : List V := l.map V.lit
def tCrs (cs : List Crs) : V := .sl cs.length (lits (cells3 cs)) .no
def tInts (ss : List Int) : V := .sl ss.length (lits (ss.map (Value.int .i64))) .no
def tIns (cs : List Crs) (ss : List Int) : V := .agg [tCrs cs, tInts ss]

theorem arr_of {E : Env} {w : World} (hst : ∀ b o v, E.M b o = some v → w.cell? ⟨b, o, none⟩ = some v) {n size : Nat} {ys : List Value} {k : Tok} {c : Value} (h : VR E (.sl n (lits ys) k) c) (hl : ys.length = n * size) (hs : 0 < size) :
    ∃ A cap, c = .slice A n cap ∧ Arr w w.heap.size size A n ys := by
  rw [VR] at h
  obtain ⟨A, cap, rfl, _, _, _, hx⟩ := h
  refine ⟨A, cap, rfl, hl, fun hn => ?_⟩
  rcases hx with hx | ⟨b, o, rfl, hat⟩
  · have : ys = [] := by simpa [lits] using hx
    subst this
    have := Nat.mul_pos hn hs
    simp at hl; omega
  · have hc : ∀ (j : Nat) (u : Value), ys[j]? = some u → w.cell? ⟨b, o + j, none⟩ = some u := by
      intro j u hu
      have h1 : (lits ys)[j]? = some (V.lit u) := by simp [lits, hu]
      obtain ⟨c, hc, hr⟩ := hat.get h1
      have := VR_lit hr
      subst this
      exact hst _ _ _ hc
    refine ⟨b, o, rfl, ?_, hc⟩
    have h0 : 0 < ys.length := by rw [hl]; exact Nat.mul_pos hn hs
    exact cell_lt (hc 0 ys[0] (List.getElem?_eq_getElem h0))
theorem open_tIns {E : Env} {w : World} (hst : ∀ b o v, E.M b o = some v → w.cell? ⟨b, o, none⟩ = some v) {cs : List Crs} {ss : List Int} {c : Value} (h : VR E (tIns cs ss) c) :
    ∃ A C cc kc, c = .agg #[.slice A cs.length cc, .slice C ss.length kc] ∧ Arr w w.heap.size 3 A cs.length (cells3 cs) ∧ Arr w w.heap.size 1 C ss.length (ss.map (Value.int .i64)) := by
  rw [tIns, VR] at h
  obtain ⟨a, rfl, h⟩ := h
  obtain ⟨x, y, e, h1, h2⟩ := VRs_two h
  obtain ⟨A, cc, rfl, hA⟩ := arr_of (size := 3) hst h1 (cells3_length cs) (by decide)
  obtain ⟨C, kc, rfl, hC⟩ := arr_of (size := 1) hst h2 (by simp) (by decide)
  exact ⟨A, C, cc, kc, by rw [← e], hA, hC⟩

theorem check_fn (cs : List Crs) (ss : List Int) : Fn Tryd.prog Gd 30 [tIns cs ss] (vint (chk cs ss)) :=
  Fn.of_calls fun E w cargs hG hst hv => by
    obtain ⟨c, hc, hr⟩ := VRs_one hv
    obtain rfl : cargs = #[c] := Array.ext' hc
    obtain ⟨A, C, cc, kc, rfl, hA, hC⟩ := open_tIns hst hr
    refine (check_any A C _ cc _ kc cs ss w hA hC).mono ?_
    rintro e w' ⟨rfl, hb⟩
    exact ⟨_, rfl, hb, E.M, fun _ _ _ x => x, fun _ _ _ => rfl, fun b o v hM => by rw [hb.cell (p := ⟨b, o, none⟩) (cell_lt (hst _ _ _ hM))]; exact hst _ _ _ hM, VR_mk rfl⟩

theorem lits_append (a b : List Value) : lits (a ++ b) = lits a ++ lits b := by simp [lits]
theorem lits_length (a : List Value) : (lits a).length = a.length := by simp [lits]
theorem lits_get (a : List Value) (i : Nat) : (lits a)[i]? = (a[i]?).map V.lit := by simp [lits]

def reUp (cs : List Crs) (k : Nat) : Bool := decide ((cs.getD (k - 1) default).p < (cs.getD k default).p)
def reent (cs : List Crs) : Nat → List Int
  | 0 => []
  | k + 1 => if 0 < k ∧ reUp cs k = true then reent cs k ++ [(k : Int) + 1] else reent cs k
theorem reent_le (cs : List Crs) : ∀ k, (reent cs k).length ≤ k
  | 0 => Nat.le_refl _
  | k + 1 => by have := reent_le cs k; simp only [reent]; split <;> simp <;> omega
theorem chk_small {cs : List Crs} {ss : List Int} (h : chk cs ss = 0) : cs.length ≤ 14 ∧ ss.length ≤ 18 := by
  unfold chk at h
  split at h
  · cases h
  · omega

def ReI (cs : List Crs) (ss : List Int) (m : Mm) (s : St) : Prop := ∃ (k : Nat) (t : Tok), 1 ≤ k ∧ (k ≤ cs.length ∨ k = 1) ∧ s.t 6 = vint k ∧ s.t 5 = .sl (reent cs k).length (lits ((reent cs k).map (Value.int .i64))) t ∧
  Ap m.next s.m t (reent cs k).length 3 1 ∧ s.t 1 = .ptr m.next 0 ∧ s.m.obj m.next = some (.box [tCrs cs, tInts ss] 39) ∧ m.next + 3 ≤ s.m.next ∧ ∀ i, i < m.next → s.m.obj i = m.obj i
theorem reent_fn (cs : List Crs) (ss : List Int) : Fn Tryd.prog Gd 54 [tIns cs ss] (if chk cs ss = 0 then .tup [tInts (reent cs cs.length), vint 0] else .tup [.sl 0 [] .no, vint (chk cs ss)]) := by
  refine Fn.of_vx k_instrument_Reentrant (by simp) fun m => ?_
  unfold c_instrument_Reentrant tIns
  repeat (first | with_reducible refine x_ops ?_ | (simp only [go_sem, Nat.reduceAdd, Nat.reduceEqDiff, Nat.reduceLT, Nat.reduceLeDiff, Nat.reduceMul, Nat.reduceSub, reduceIte, splice, vfill]))
  refine x_call none (check_fn cs ss) (by (simp only [go_sem, reduceIte, Nat.reduceEqDiff, V.norms, V.norm]); rfl) ?_
  repeat (first | with_reducible refine x_ops ?_ | (simp only [go_sem, Nat.reduceAdd, Nat.reduceEqDiff, Nat.reduceLT, Nat.reduceLeDiff, Nat.reduceMul, Nat.reduceSub, reduceIte, splice, vfill]))
  refine x_if (fun ht => ?_) (fun ht => ?_)
  · repeat (first | with_reducible refine x_ops ?_ | (simp only [go_sem, Nat.reduceAdd, Nat.reduceEqDiff, Nat.reduceLT, Nat.reduceLeDiff, Nat.reduceMul, Nat.reduceSub, reduceIte, splice, vfill]))
    have h0 : chk cs ss ≠ 0 := by simpa using ht
    rw [if_neg h0]
    (refine fin_ret (r' := _) (by (simp only [go_sem, Nat.reduceAdd, Nat.reduceEqDiff, Nat.reduceLT, Nat.reduceLeDiff, Nat.reduceMul, Nat.reduceSub, reduceIte, resV, resAll, resOne, oneOr]); rfl) (by (simp only [go_sem, Nat.reduceAdd, Nat.reduceEqDiff, Nat.reduceLT, Nat.reduceLeDiff, Nat.reduceMul, Nat.reduceSub, reduceIte, resV, resAll, resOne, oneOr]); try rfl) ?_)
    intro i hi
    show (if _ then _ else _) = _
    rw [if_neg (by omega)]
  · have h0 : chk cs ss = 0 := by simpa using ht
    rw [if_pos h0]
    have hsm := chk_small h0
    repeat (first | with_reducible refine x_ops ?_ | (simp only [go_sem, Nat.reduceAdd, Nat.reduceEqDiff, Nat.reduceLT, Nat.reduceLeDiff, Nat.reduceMul, Nat.reduceSub, reduceIte, splice, vfill]))
    have hlen : (lits (cells3 cs)).length = cs.length * 3 := by rw [lits_length, cells3_length]
    refine x_loop (ReI cs ss m) (fun s => cs.length - numOf (s.t 6)) ?_ ?_
    · refine ⟨1, .exact, Nat.le_refl _, .inr rfl, rfl, rfl, .inl rfl, rfl, if_pos rfl, ?_, ?_⟩
      · show m.next + 3 ≤ _
        simp only [put_next]; omega
      · intro i hi
        simp only [put_obj]
        rw [if_neg (by omega)]
    · rintro s ⟨k, t, hk1, hk2, h6, h5, hap, h1, hb, hn, ho⟩
      have hrd : m.next < s.m.next := by omega
      have hw : IntKind.i64.wrap ((k : Int) - 1) = ((k - 1 : Nat) : Int) := by rw [IntWalk.i64_in _ (by omega)]; omega
      have hw2 : IntKind.i64.wrap ((k : Int) + 1) = ((k + 1 : Nat) : Int) := by rw [IntWalk.i64_in _ (by omega)]; omega
      repeat (first | with_reducible refine x_ops ?_ | (simp only [go_sem, Nat.reduceAdd, Nat.reduceEqDiff, Nat.reduceLT, Nat.reduceLeDiff, Nat.reduceMul, Nat.reduceSub, reduceIte, splice, vfill, h1, h5, h6, hb, tCrs]))
      refine x_if (fun hlt => ?_) (fun hge => ?_)
      · have hlt : (k : Int) < cs.length := by simpa using hlt
        have hlt' : ((k - 1 : Nat) : Int) < cs.length := by omega
        have g1 : (lits (cells3 cs))[k * 3]? = some (vint (cs.getD k default).p) := by rw [lits_get, (cells3_at cs k (by omega)).1]; rfl
        have g2 : (lits (cells3 cs))[(k - 1) * 3]? = some (vint (cs.getD (k - 1) default).p) := by rw [lits_get, (cells3_at cs (k - 1) (by omega)).1]; rfl
        repeat (first | with_reducible refine x_ops ?_ | (simp only [go_sem, Nat.reduceAdd, Nat.reduceEqDiff, Nat.reduceLT, Nat.reduceLeDiff, Nat.reduceMul, Nat.reduceSub, reduceIte, splice, vfill, h1, h5, h6, hb, tCrs, hlt, hlt', hlen, hw, hw2, g1, g2, hrd]))
        refine x_if (fun hup => ?_) (fun hup => ?_)
        · have hr : reent cs (k + 1) = reent cs k ++ [(k : Int) + 1] := by
            rw [reent, if_pos ⟨by omega, by simpa [reUp] using hup⟩]
          have hle := reent_le cs k
          repeat (first | with_reducible refine x_ops ?_ | (simp only [go_sem, Nat.reduceAdd, Nat.reduceEqDiff, Nat.reduceLT, Nat.reduceLeDiff, Nat.reduceMul, Nat.reduceSub, reduceIte, splice, vfill, h1, h5, h6, hb, tCrs, hw2, hrd]))
          refine x_app m.next (k := t) (by (simp only [go_sem, reduceIte, Nat.reduceEqDiff, V.norms, V.norm]); rfl) (by (simp only [go_sem, reduceIte, Nat.reduceEqDiff, V.norms, V.norm]); rfl) hap (by rw [lits_length]; simp) (by simp) (by omega) (by unfold maxLen; omega) (by omega) (fun t' m' hap' hnx hkeep hbx => ?_)
          repeat (first | with_reducible refine x_ops ?_ | (simp only [go_sem, Nat.reduceAdd, Nat.reduceEqDiff, Nat.reduceLT, Nat.reduceLeDiff, Nat.reduceMul, Nat.reduceSub, reduceIte, splice, vfill, h6, hw2]))
          refine ⟨⟨k + 1, t', by omega, by omega, rfl, ?_, ?_, h1, hbx _ _ _ hb (by omega), ?_, fun i hi => (hkeep i hi).trans (ho i hi)⟩, ?_⟩
          · rw [hr, List.map_append, lits_append, List.length_append]; rfl
          · rw [hr, List.length_append]; exact hap'
          · show _ ≤ m'.next; rw [hnx]; show _ ≤ s.m.next + 6; omega
          · simp [numOf]; omega
        · have hr : reent cs (k + 1) = reent cs k := by
            rw [reent, if_neg (by rintro ⟨_, h⟩; simp [reUp] at h hup; omega)]
          repeat (first | with_reducible refine x_ops ?_ | (simp only [go_sem, Nat.reduceAdd, Nat.reduceEqDiff, Nat.reduceLT, Nat.reduceLeDiff, Nat.reduceMul, Nat.reduceSub, reduceIte, splice, vfill, h6, hw2]))
          refine ⟨⟨k + 1, t, by omega, by omega, rfl, by rw [hr]; exact h5, by rw [hr]; exact hap, h1, hb, hn, ho⟩, ?_⟩
          simp [numOf]; omega
      · repeat (first | with_reducible refine x_ops ?_ | (simp only [go_sem, Nat.reduceAdd, Nat.reduceEqDiff, Nat.reduceLT, Nat.reduceLeDiff, Nat.reduceMul, Nat.reduceSub, reduceIte, splice, vfill]))
        have hkl : reent cs k = reent cs cs.length := by
          have : ¬ (k : Int) < cs.length := by simpa using hge
          rcases hk2 with h | h
          · rw [show k = cs.length by omega]
          · subst h
            have : cs.length = 0 ∨ cs.length = 1 := by omega
            rcases this with h | h <;> rw [h] <;> simp [reent]
        refine fin_ret (r' := _) (by (simp only [go_sem, Nat.reduceAdd, Nat.reduceEqDiff, Nat.reduceLT, Nat.reduceLeDiff, Nat.reduceMul, Nat.reduceSub, reduceIte, resV, resAll, resOne, oneOr]); try rfl) ?_ ho
        rw [h5, hkl]; rfl
end Go.Proofs.YtbdhjpdjbogggaaDoor
