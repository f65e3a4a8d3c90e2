/- The text of an instrument: the reference, on values. The text of an instrument is read as that instrument: plain. The builder of strings, its walks: exactly what they change. The builder of strings on values: a box that holds its own address and a buffer. The text of an instrument: the program, on values. Parse: the rows of what it returns are new. The law of the text that is read back: on values. -/
import Derived.Test.YtbdhjpdjbogggaaDoorM2
import Derived.Test.YtbdhjpdjbogggaaDoorR2
import Derived.Test.YtbdhjpdjbogggaaDoorPl2
import Derived.Test.YtbdhjpdjbogggaaDoorBase
import Derived.Test.YtbdhjpdjbogggaaDoorShelf
import Derived.Test.YtbdhjpdjbogggaaDoorVm
import Derived.Test.YtbdhjpdjbogggaaDoorW6
import Derived.Test.YtbdhjpdjbogggaaDoorX8
namespace Go.Proofs.YtbdhjpdjbogggaaDoor
open Go.RowKit
attribute [local go_sem] vx_skip vx_ret vx_exit vx_seq vx_block vx_scope vx_cond vx_condT vx_condF gR_nil gR_cons VO.stops beq_self_eq_true Bool.false_beq Bool.true_beq Bool.not_true Bool.not_false Bool.false_eq_true if_false exo VI.on if_true exoOp pureSem List.map_cons List.map_nil St.ev initT Option.map_some putT_get putT_none put_obj put_next M0_next freeze_obj freeze_next List.getD_cons_zero List.getD_cons_succ List.getD_nil V.cells rdable Nat.add_assoc Nat.add_zero Nat.add_left_cancel_iff Nat.add_eq_left Nat.left_eq_add decide_true Bool.true_or ite_self onB vbinI vint vbool List.drop_zero List.take_succ_cons List.drop_succ_cons List.take_zero List.length_cons List.length_nil List.getElem?_cons_zero List.getElem?_cons_succ decide_eq_true_eq true_and and_true Nat.le_refl List.zip_cons_cons List.zip_nil_left V.pubs V.pub Option.bind_some List.all_cons List.all_nil V.one Bool.and_self List.cons_append List.nil_append then_nrm then_ret then_exit inB_nrm inB_ret inB_exit Int.toNat_natCast Int.natCast_nonneg eq_self Nat.zero_add Nat.mul_one
set_option linter.unusedSimpArgs false
set_option linter.unusedVariables false

theorem pitchAt {cs : List Crs} {ss : List Int} (h0 : chk cs ss = 0) {k : Nat} (hk : k < cs.length) : 0 ≤ (cs.getD k default).p ∧ (cs.getD k default).p ≤ 127 := by
  obtain ⟨_, _, _, h⟩ := chk_zero h0
  have hm : cs.getD k default ∈ cs := by
    rw [List.getD_eq_getElem?_getD, List.getElem?_eq_getElem hk]; exact List.getElem_mem hk
  have := crsE_zero (h _ hm)
  exact ⟨this.2.2.1, this.2.2.2.1⟩
theorem fretsAt {cs : List Crs} {ss : List Int} (h0 : chk cs ss = 0) {k : Nat} (hk : k < cs.length) : 0 ≤ (cs.getD k default).f ∧ (cs.getD k default).f ≤ ss.length := by
  obtain ⟨_, _, _, hall⟩ := chk_zero h0
  have hm : cs.getD k default ∈ cs := by
    rw [List.getD_eq_getElem?_getD, List.getElem?_eq_getElem hk]; exact List.getElem_mem hk
  have := crsE_zero (hall _ hm)
  exact ⟨this.1, this.2.1⟩
theorem rspell_fn (p key : Int) : Fn Tryd.prog Gd 21 [vint p, vint key] (spRV p key) :=
  fn_flat (fun _ => VR_spR p key) fun E w cargs hG hst hv => by
    obtain ⟨c, d, rfl, h1, h2⟩ := two_args hv
    obtain rfl := VR_lit h1
    obtain rfl := VR_lit h2
    have := rspell_any p key w
    rw [spR_rfR]
    exact this
theorem spell_at {p : Int} (h0 : 0 ≤ p) (h1 : p ≤ 127) : ∃ l a, spFrom p 0 21 0 = some (l, a) ∧ right l a (spO p l a) = true ∧ sndE l a (spO p l a) = 0 ∧ sndP l a (spO p l a) = p := by
  have hn := no_sp p.toNat (by omega) 0 (by omega) (by omega)
  rw [noSp, show ((p.toNat : Nat) : Int) = p by omega] at hn
  cases hr : spFrom p 0 21 0 with
  | none => rw [hr] at hn; simp at hn
  | some x =>
    obtain ⟨l, a⟩ := x
    obtain ⟨hok, l0, l6⟩ := spFrom_ok (by omega) hr
    rw [spOk] at hok
    simp only [Bool.and_eq_true, decide_eq_true_eq] at hok
    obtain ⟨⟨_, hE⟩, hP⟩ := hok
    refine ⟨l, a, rfl, ?_, hE, hP⟩
    by_cases h : right l a (spO p l a) = true
    · exact h
    · rw [sndE, if_neg h] at hE; cases hE
/-- The name of a pitch in the key of no signs. -/
def nmP (p : Int) : List UInt8 := match spFrom p 0 21 0 with | some (l, a) => nmL l a (spO p l a) | none => []
theorem nmP_le {p : Int} (h0 : 0 ≤ p) (h1 : p ≤ 127) : (nmP p).length ≤ 6 := by
  obtain ⟨l, a, hr, hR, _, _⟩ := spell_at h0 h1
  obtain ⟨l0, l6, a0, a1, o0, o1⟩ := right_in hR
  have hi := itoa_le (n := spO p l a) (by omega) (by omega)
  have h1 : (letL l.toNat).length ≤ 1 := by simp [letL]
  have h2 : (sgn a).length ≤ 1 := by
    unfold sgn
    split
    · simp
    · split <;> simp
  rw [nmP, hr]
  simp only [nmL, List.length_append]
  omega
def oct (o : Bool) : List UInt8 := if o then [43] else []
def fmtC (c : Crs) : List UInt8 := nmP c.p ++ [47] ++ Lib.itoa c.f ++ oct c.o ++ [32]
def fmtCs (cs : List Crs) (k : Nat) : List UInt8 := (cs.take k).flatMap fmtC
def fmtS (s : Int) : List UInt8 := 32 :: Lib.itoa s
def fmtSs (ss : List Int) (k : Nat) : List UInt8 := (ss.take k).flatMap fmtS
def fmtT (cs : List Crs) (ss : List Int) : List UInt8 := fmtCs cs cs.length ++ [58] ++ fmtSs ss ss.length
def fmtV (cs : List Crs) (ss : List Int) : V := if chk cs ss = 0 then .tup [str (fmtT cs ss), vint 0] else .tup [str [], vint (chk cs ss)]
theorem fmtCs_snoc {cs : List Crs} {k : Nat} (h : k < cs.length) : fmtCs cs (k + 1) = fmtCs cs k ++ fmtC (cs.getD k default) := by
  rw [fmtCs, List.take_succ_eq_append_getElem h, List.flatMap_append, List.getD_eq_getElem?_getD, List.getElem?_eq_getElem h]
  simp [fmtCs]
theorem fmtSs_snoc {ss : List Int} {k : Nat} (h : k < ss.length) : fmtSs ss (k + 1) = fmtSs ss k ++ fmtS (ss.getD k 0) := by
  rw [fmtSs, List.take_succ_eq_append_getElem h, List.flatMap_append, List.getD_eq_getElem?_getD, List.getElem?_eq_getElem h]
  simp [fmtSs]
theorem oct_le (o : Bool) : (oct o).length ≤ 1 := by cases o <;> simp [oct]
theorem fmtCs_le {cs : List Crs} {ss : List Int} (h0 : chk cs ss = 0) : ∀ k, k ≤ cs.length → (fmtCs cs k).length ≤ 20 * k
  | 0, _ => by simp [fmtCs]
  | k + 1, h => by
    have ih := fmtCs_le h0 k (by omega)
    have hp := pitchAt h0 (k := k) (by omega)
    have hf := fretsAt h0 (k := k) (by omega)
    have hs := (chk_small h0).2
    have h1 := nmP_le hp.1 hp.2
    have h2 := itoa_le (n := (cs.getD k default).f) (by omega) (by omega)
    have h3 := oct_le (cs.getD k default).o
    rw [fmtCs_snoc (by omega), fmtC]
    simp only [List.length_append, List.length_cons, List.length_nil]
    omega
theorem step_at {cs : List Crs} {ss : List Int} (h0 : chk cs ss = 0) {k : Nat} (hk : k < ss.length) : 0 ≤ ss.getD k 0 ∧ ss.getD k 0 ≤ 127 := by
  obtain ⟨_, _, h, _⟩ := chk_zero h0
  have hm : ss.getD k 0 ∈ ss := by
    rw [List.getD_eq_getElem?_getD, List.getElem?_eq_getElem hk]; exact List.getElem_mem hk
  exact stepsOk_bd 0 ss (by omega) h _ hm
theorem fmtSs_le {cs : List Crs} {ss : List Int} (h0 : chk cs ss = 0) : ∀ k, k ≤ ss.length → (fmtSs ss k).length ≤ 5 * k
  | 0, _ => by simp [fmtSs]
  | k + 1, h => by
    have ih := fmtSs_le h0 k (by omega)
    have hp := step_at h0 (k := k) (by omega)
    have h2 := itoa_le (n := ss.getD k 0) (by omega) (by omega)
    rw [fmtSs_snoc (by omega), fmtS]
    simp only [List.length_append, List.length_cons]
    omega
def RfC (cs : List Crs) (ss : List Int) (s : St) : Prop := ∃ k : Nat, k ≤ cs.length ∧ s.t 6 = vint k ∧ s.t 5 = str (fmtCs cs k) ∧ s.t 1 = .ptr 0 0 ∧ s.m.obj 0 = some (.box [tCrs cs, tInts ss] 39) ∧ 0 < s.m.next
def RfS (cs : List Crs) (ss : List Int) (s : St) : Prop := ∃ k : Nat, k ≤ ss.length ∧ s.t 11 = vint k ∧ s.t 5 = str (fmtCs cs cs.length ++ [58] ++ fmtSs ss k) ∧ s.t 1 = .ptr 0 0 ∧ s.m.obj 0 = some (.box [tCrs cs, tInts ss] 39) ∧ 0 < s.m.next
set_option maxHeartbeats 2000000 in
theorem rformat_fn (cs : List Crs) (ss : List Int) : Fn Tryd.prog Gp 61 [tIns cs ss] (fmtV cs ss) := by
  refine Fn.of_vx0 k_theorboref01_Format (by simp) (pures_tIns cs ss) ?_
  unfold c_theorboref01_Format tIns
  have C := up (rcheck_fn cs ss)
  have lC : (lits (cells3 cs)).length = cs.length * 3 := by rw [lits_length, cells3_length]
  have lS : (lits (ss.map (Value.int .i64))).length = ss.length := by rw [lits_length, List.length_map]
  repeat (first | with_reducible refine x_ops ?_ | (simp only [go_sem, Nat.reduceAdd, Nat.reduceEqDiff, Nat.reduceLT, Nat.reduceLeDiff, Nat.reduceMul, Nat.reduceSub, reduceIte, splice, vfill]))
  refine x_call none C (by (simp only [go_sem, reduceIte, Nat.reduceEqDiff, V.norms, V.norm]); try rfl) ?_
  by_cases h0 : chk cs ss = 0
  · obtain ⟨n1, n2⟩ := chk_small h0
    rw [h0, fmtV, if_pos h0]
    repeat (first | with_reducible refine x_ops ?_ | (simp only [go_sem, Nat.reduceAdd, Nat.reduceEqDiff, Nat.reduceLT, Nat.reduceLeDiff, Nat.reduceMul, Nat.reduceSub, reduceIte, splice, vfill, bne_self_eq_false]))
    refine x_loop (RfC cs ss) (fun s => cs.length - numOf (s.t 6)) ?_ ?_
    · refine ⟨0, Nat.zero_le _, rfl, rfl, rfl, ?_, ?_⟩
      · simp only [put_obj, put_next, M0_next, freeze_obj, freeze_next, Nat.add_zero, Nat.zero_add, Nat.add_assoc, Nat.add_left_cancel_iff, Nat.add_eq_left, Nat.left_eq_add, decide_eq_true_eq, List.nil_append, List.append_nil, Nat.reduceAdd, Nat.reduceEqDiff, Nat.reduceLeDiff, Nat.reduceLT, reduceIte]; try rfl
      · simp only [put_obj, put_next, M0_next, freeze_obj, freeze_next, Nat.add_zero, Nat.zero_add, Nat.add_assoc, Nat.add_left_cancel_iff, Nat.add_eq_left, Nat.left_eq_add, decide_eq_true_eq, List.nil_append, List.append_nil, Nat.reduceAdd, Nat.reduceEqDiff, Nat.reduceLeDiff, Nat.reduceLT, reduceIte]; try omega
    · rintro s ⟨k, hk, h6, h5, h1, o0, hn⟩
      unfold tCrs tInts at o0
      by_cases hlt : k < cs.length
      · have d3 : decide ((k : Int) < cs.length) = true := by simp; omega
        have hlti : ((k : Nat) : Int) < cs.length := by omega
        obtain ⟨c0, c1, c2⟩ := cells3_at cs k hlt
        have g0 : (lits (cells3 cs))[k * 3]? = some (V.lit (.int .i64 (cs.getD k default).p)) := by rw [lits_get, c0]; rfl
        have g1 : (lits (cells3 cs))[k * 3 + 1]? = some (V.lit (.int .i64 (cs.getD k default).f)) := by rw [lits_get, c1]; rfl
        have g2 : (lits (cells3 cs))[k * 3 + 2]? = some (V.lit (.bool (cs.getD k default).o)) := by rw [lits_get, c2]; rfl
        have hp := pitchAt h0 hlt
        have hf := fretsAt h0 hlt
        have hle := fmtCs_le h0 k hk
        have hsn := fmtCs_snoc hlt
        obtain ⟨l, a, hsp, hR, hE, hP⟩ := spell_at hp.1 hp.2
        have S := up (rspell_fn (cs.getD k default).p 0)
        rw [spRV, if_neg (by omega), if_neg (by omega), hsp, spVV] at S
        have N := rname_fn l a (spO (cs.getD k default).p l a)
        have hnm : nmP (cs.getD k default).p = nmL l a (spO (cs.getD k default).p l a) := by rw [nmP, hsp]
        have hnl := nmP_le hp.1 hp.2
        rw [nameV, if_pos hR, ← hnm] at N
        have D := decimal_fn (cs.getD k default).f (by omega) (by omega)
        have hdl := itoa_le (n := (cs.getD k default).f) (by omega) (by omega)
        rw [fmtC] at hsn
        generalize nmP (cs.getD k default).p = nm at *
        generalize Lib.itoa (cs.getD k default).f = dg at *
        generalize fmtCs cs k = T at *
        have hw1 : IntKind.i64.wrap ((k : Int) + 1) = ((k + 1 : Nat) : Int) := by rw [IntWalk.i64_in _ (by omega)]; omega
        have v1 := vadd (a := T) (b := nm) (by omega)
        have v2 := vadd (a := T ++ nm) (b := [47]) (by simp; omega)
        have v3 := vadd (a := T ++ nm ++ [47]) (b := dg) (by simp; omega)
        have v4 := vadd (a := T ++ nm ++ [47] ++ dg) (b := [43]) (by simp; omega)
        have v5 := vadd (a := T ++ nm ++ [47] ++ dg ++ oct (cs.getD k default).o) (b := [32]) (by have := oct_le (cs.getD k default).o; simp only [List.length_append, List.length_cons, List.length_nil]; omega)
        unfold tSp at S N
        repeat (first | with_reducible refine x_ops ?_ | (simp only [go_sem, Nat.reduceAdd, Nat.reduceEqDiff, Nat.reduceLT, Nat.reduceLeDiff, Nat.reduceMul, Nat.reduceSub, reduceIte, splice, vfill, h1, h6, o0, d3, hlti, lC, g0, hn]))
        refine x_call _ S (by (simp only [go_sem, reduceIte, Nat.reduceEqDiff, V.norms, V.norm]); try rfl) ?_
        repeat (first | with_reducible refine x_ops ?_ | (simp only [go_sem, Nat.reduceAdd, Nat.reduceEqDiff, Nat.reduceLT, Nat.reduceLeDiff, Nat.reduceMul, Nat.reduceSub, reduceIte, splice, vfill, h1, h6, o0, hn]))
        refine x_call _ N (by (simp only [go_sem, reduceIte, Nat.reduceEqDiff, V.norms, V.norm]); try rfl) ?_
        repeat (first | with_reducible refine x_ops ?_ | (simp only [go_sem, Nat.reduceAdd, Nat.reduceEqDiff, Nat.reduceLT, Nat.reduceLeDiff, Nat.reduceMul, Nat.reduceSub, reduceIte, splice, vfill, h1, h5, h6, o0, hn, hlti, lC, g1, str, v1, v2]))
        refine x_call _ D (by (simp only [go_sem, reduceIte, Nat.reduceEqDiff, V.norms, V.norm]); try rfl) ?_
        cases ho : (cs.getD k default).o
        · rw [ho] at g2 v5 hsn
          simp only [oct, Bool.false_eq_true, if_false, List.append_nil] at v5 hsn
          repeat (first | with_reducible refine x_ops ?_ | (simp only [go_sem, Nat.reduceAdd, Nat.reduceEqDiff, Nat.reduceLT, Nat.reduceLeDiff, Nat.reduceMul, Nat.reduceSub, reduceIte, splice, vfill, h1, h5, h6, o0, hn, hlti, lC, g2, str, v3, v5, hw1]))
          refine ⟨⟨k + 1, by omega, rfl, ?_, ?_, ?_, ?_⟩, ?_⟩
          · rw [hsn]; simp only [List.append_assoc]; rfl
          · simp only [put_obj, put_next, M0_next, freeze_obj, freeze_next, Nat.add_zero, Nat.zero_add, Nat.add_assoc, Nat.add_left_cancel_iff, Nat.add_eq_left, Nat.left_eq_add, decide_eq_true_eq, List.nil_append, List.append_nil, Nat.reduceAdd, Nat.reduceEqDiff, Nat.reduceLeDiff, Nat.reduceLT, reduceIte]; try exact h1
          · simp only [put_obj, put_next, M0_next, freeze_obj, freeze_next, Nat.add_zero, Nat.zero_add, Nat.add_assoc, Nat.add_left_cancel_iff, Nat.add_eq_left, Nat.left_eq_add, decide_eq_true_eq, List.nil_append, List.append_nil, Nat.reduceAdd, Nat.reduceEqDiff, Nat.reduceLeDiff, Nat.reduceLT, reduceIte]; try exact o0
          · simp only [put_obj, put_next, M0_next, freeze_obj, freeze_next, Nat.add_zero, Nat.zero_add, Nat.add_assoc, Nat.add_left_cancel_iff, Nat.add_eq_left, Nat.left_eq_add, decide_eq_true_eq, List.nil_append, List.append_nil, Nat.reduceAdd, Nat.reduceEqDiff, Nat.reduceLeDiff, Nat.reduceLT, reduceIte]; try omega
          · simp only [numOf, vint, putT_get, reduceIte, Nat.reduceEqDiff, Int.toNat_natCast, h6]; omega
        · rw [ho] at g2 v5 hsn
          simp only [oct, if_true] at v5 hsn
          repeat (first | with_reducible refine x_ops ?_ | (simp only [go_sem, Nat.reduceAdd, Nat.reduceEqDiff, Nat.reduceLT, Nat.reduceLeDiff, Nat.reduceMul, Nat.reduceSub, reduceIte, splice, vfill, h1, h5, h6, o0, hn, hlti, lC, g2, str, v3, v4, v5, hw1]))
          refine ⟨⟨k + 1, by omega, rfl, ?_, ?_, ?_, ?_⟩, ?_⟩
          · rw [hsn]; simp only [List.append_assoc]; rfl
          · simp only [put_obj, put_next, M0_next, freeze_obj, freeze_next, Nat.add_zero, Nat.zero_add, Nat.add_assoc, Nat.add_left_cancel_iff, Nat.add_eq_left, Nat.left_eq_add, decide_eq_true_eq, List.nil_append, List.append_nil, Nat.reduceAdd, Nat.reduceEqDiff, Nat.reduceLeDiff, Nat.reduceLT, reduceIte]; try exact h1
          · simp only [put_obj, put_next, M0_next, freeze_obj, freeze_next, Nat.add_zero, Nat.zero_add, Nat.add_assoc, Nat.add_left_cancel_iff, Nat.add_eq_left, Nat.left_eq_add, decide_eq_true_eq, List.nil_append, List.append_nil, Nat.reduceAdd, Nat.reduceEqDiff, Nat.reduceLeDiff, Nat.reduceLT, reduceIte]; try exact o0
          · simp only [put_obj, put_next, M0_next, freeze_obj, freeze_next, Nat.add_zero, Nat.zero_add, Nat.add_assoc, Nat.add_left_cancel_iff, Nat.add_eq_left, Nat.left_eq_add, decide_eq_true_eq, List.nil_append, List.append_nil, Nat.reduceAdd, Nat.reduceEqDiff, Nat.reduceLeDiff, Nat.reduceLT, reduceIte]; try omega
          · simp only [numOf, vint, putT_get, reduceIte, Nat.reduceEqDiff, Int.toNat_natCast, h6]; omega
      · have hke : k = cs.length := by omega
        subst hke
        have d3 : decide (((cs.length : Nat) : Int) < cs.length) = false := by simp
        have hlc := fmtCs_le h0 cs.length (Nat.le_refl _)
        have v0 := vadd (a := fmtCs cs cs.length) (b := [58]) (by simp; omega)
        repeat (first | with_reducible refine x_ops ?_ | (simp only [go_sem, Nat.reduceAdd, Nat.reduceEqDiff, Nat.reduceLT, Nat.reduceLeDiff, Nat.reduceMul, Nat.reduceSub, reduceIte, splice, vfill, h1, h5, h6, o0, d3, hn, str, v0]))
        refine x_loop (RfS cs ss) (fun s => ss.length - numOf (s.t 11)) ?_ ?_
        · refine ⟨0, Nat.zero_le _, rfl, ?_, ?_, ?_, ?_⟩
          · simp [fmtSs]; rfl
          · simp only [put_obj, put_next, M0_next, freeze_obj, freeze_next, Nat.add_zero, Nat.zero_add, Nat.add_assoc, Nat.add_left_cancel_iff, Nat.add_eq_left, Nat.left_eq_add, decide_eq_true_eq, List.nil_append, List.append_nil, Nat.reduceAdd, Nat.reduceEqDiff, Nat.reduceLeDiff, Nat.reduceLT, reduceIte]; try exact h1
          · simp only [put_obj, put_next, M0_next, freeze_obj, freeze_next, Nat.add_zero, Nat.zero_add, Nat.add_assoc, Nat.add_left_cancel_iff, Nat.add_eq_left, Nat.left_eq_add, decide_eq_true_eq, List.nil_append, List.append_nil, Nat.reduceAdd, Nat.reduceEqDiff, Nat.reduceLeDiff, Nat.reduceLT, reduceIte]; try exact o0
          · simp only [put_obj, put_next, M0_next, freeze_obj, freeze_next, Nat.add_zero, Nat.zero_add, Nat.add_assoc, Nat.add_left_cancel_iff, Nat.add_eq_left, Nat.left_eq_add, decide_eq_true_eq, List.nil_append, List.append_nil, Nat.reduceAdd, Nat.reduceEqDiff, Nat.reduceLeDiff, Nat.reduceLT, reduceIte]; try omega
        · rintro s ⟨k, hk, h6, h5, h1, o0, hn⟩
          unfold tCrs tInts at o0
          by_cases hlt : k < ss.length
          · have d3 : decide ((k : Int) < ss.length) = true := by simp; omega
            have hlti : ((k : Nat) : Int) < ss.length := by omega
            have g0 : (lits (ss.map (Value.int .i64)))[k]? = some (V.lit (.int .i64 (ss.getD k 0))) := by
              rw [lits_get, List.getElem?_map, List.getD_eq_getElem?_getD, List.getElem?_eq_getElem hlt]; rfl
            have hp := step_at h0 hlt
            have hle := fmtSs_le h0 k hk
            have hsn := fmtSs_snoc hlt
            have D := decimal_fn (ss.getD k 0) (by omega) (by omega)
            have hdl := itoa_le (n := ss.getD k 0) (by omega) (by omega)
            rw [fmtS] at hsn
            generalize Lib.itoa (ss.getD k 0) = dg at *
            have hw1 : IntKind.i64.wrap ((k : Int) + 1) = ((k + 1 : Nat) : Int) := by rw [IntWalk.i64_in _ (by omega)]; omega
            have v1 := vadd (a := fmtCs cs cs.length ++ [58] ++ fmtSs ss k) (b := [32]) (by simp; omega)
            have v2 := vadd (a := fmtCs cs cs.length ++ [58] ++ fmtSs ss k ++ [32]) (b := dg) (by simp; omega)
            repeat (first | with_reducible refine x_ops ?_ | (simp only [go_sem, Nat.reduceAdd, Nat.reduceEqDiff, Nat.reduceLT, Nat.reduceLeDiff, Nat.reduceMul, Nat.reduceSub, reduceIte, splice, vfill, h1, h5, h6, o0, d3, hlti, lS, g0, hn, str, v1, Nat.mul_one]))
            refine x_call _ D (by (simp only [go_sem, reduceIte, Nat.reduceEqDiff, V.norms, V.norm]); try rfl) ?_
            repeat (first | with_reducible refine x_ops ?_ | (simp only [go_sem, Nat.reduceAdd, Nat.reduceEqDiff, Nat.reduceLT, Nat.reduceLeDiff, Nat.reduceMul, Nat.reduceSub, reduceIte, splice, vfill, h1, h5, h6, o0, str, v2, hw1]))
            refine ⟨⟨k + 1, by omega, rfl, ?_, ?_, ?_, ?_⟩, ?_⟩
            · rw [hsn]; simp only [List.append_assoc]; rfl
            · simp only [put_obj, put_next, M0_next, freeze_obj, freeze_next, Nat.add_zero, Nat.zero_add, Nat.add_assoc, Nat.add_left_cancel_iff, Nat.add_eq_left, Nat.left_eq_add, decide_eq_true_eq, List.nil_append, List.append_nil, Nat.reduceAdd, Nat.reduceEqDiff, Nat.reduceLeDiff, Nat.reduceLT, reduceIte]; try exact h1
            · simp only [put_obj, put_next, M0_next, freeze_obj, freeze_next, Nat.add_zero, Nat.zero_add, Nat.add_assoc, Nat.add_left_cancel_iff, Nat.add_eq_left, Nat.left_eq_add, decide_eq_true_eq, List.nil_append, List.append_nil, Nat.reduceAdd, Nat.reduceEqDiff, Nat.reduceLeDiff, Nat.reduceLT, reduceIte]; try exact o0
            · simp only [put_obj, put_next, M0_next, freeze_obj, freeze_next, Nat.add_zero, Nat.zero_add, Nat.add_assoc, Nat.add_left_cancel_iff, Nat.add_eq_left, Nat.left_eq_add, decide_eq_true_eq, List.nil_append, List.append_nil, Nat.reduceAdd, Nat.reduceEqDiff, Nat.reduceLeDiff, Nat.reduceLT, reduceIte]; try omega
            · simp only [numOf, vint, putT_get, reduceIte, Nat.reduceEqDiff, Int.toNat_natCast, h6]; omega
          · have hke : k = ss.length := by omega
            subst hke
            have d3 : decide (((ss.length : Nat) : Int) < ss.length) = false := by simp
            repeat (first | with_reducible refine x_ops ?_ | (simp only [go_sem, Nat.reduceAdd, Nat.reduceEqDiff, Nat.reduceLT, Nat.reduceLeDiff, Nat.reduceMul, Nat.reduceSub, reduceIte, splice, vfill, h1, h5, h6, o0, d3, hn, str]))
            exact finV_ret (r' := _) (by (simp only [go_sem, Nat.reduceAdd, Nat.reduceEqDiff, Nat.reduceLT, Nat.reduceLeDiff, Nat.reduceMul, Nat.reduceSub, reduceIte, resV, resAll, resOne, oneOr]); try rfl) (vw_strp _ _)
  · have e1 : (chk cs ss != 0) = true := by simpa using h0
    rw [fmtV, if_neg h0]
    repeat (first | with_reducible refine x_ops ?_ | (simp only [go_sem, Nat.reduceAdd, Nat.reduceEqDiff, Nat.reduceLT, Nat.reduceLeDiff, Nat.reduceMul, Nat.reduceSub, reduceIte, splice, vfill, e1]))
    exact finV_ret (r' := _) (by (simp only [go_sem, Nat.reduceAdd, Nat.reduceEqDiff, Nat.reduceLT, Nat.reduceLeDiff, Nat.reduceMul, Nat.reduceSub, reduceIte, resV, resAll, resOne, oneOr]); try rfl) (vw_strp _ _)
end Go.Proofs.YtbdhjpdjbogggaaDoor
namespace Go.Proofs.YtbdhjpdjbogggaaDoor
open Go.RowKit

/-! ### Words -/
theorem splitC_self (c : UInt8) : ∀ u : List UInt8, c ∉ u → splitC c u = [u]
  | [], _ => rfl
  | x :: u, h => by
    have hx : x ≠ c := fun e => h (by simp [e])
    have := splitC_self c u (fun e => h (by simp [e]))
    rw [splitC, if_neg hx, this]
theorem splitC_cons (c : UInt8) (r : List UInt8) : ∀ u : List UInt8, c ∉ u → splitC c (u ++ c :: r) = u :: splitC c r
  | [], _ => by rw [List.nil_append, splitC, if_pos rfl]
  | x :: u, h => by
    have hx : x ≠ c := fun e => h (by simp [e])
    have := splitC_cons c r u (fun e => h (by simp [e]))
    rw [List.cons_append, splitC, if_neg hx, this]
def wordC (c : Crs) : List UInt8 := nmP c.p ++ [47] ++ Lib.itoa c.f ++ oct c.o
theorem split_steps : ∀ (ss : List Int) (u : List UInt8), 32 ∉ u → (∀ s ∈ ss, 32 ∉ Lib.itoa s) → splitC 32 (u ++ ss.flatMap fmtS) = u :: ss.map Lib.itoa
  | [], u, hu, _ => by simp only [List.flatMap_nil, List.append_nil, List.map_nil]; exact splitC_self 32 u hu
  | s :: ss, u, hu, hs => by
    rw [List.flatMap_cons, fmtS, List.cons_append, splitC_cons 32 _ u hu, split_steps ss (Lib.itoa s) (hs s (by simp)) (fun x hx => hs x (by simp [hx])), List.map_cons]
theorem split_text : ∀ (cs : List Crs) (r : List UInt8), (∀ c ∈ cs, 32 ∉ wordC c) → splitC 32 (cs.flatMap fmtC ++ r) = cs.map wordC ++ splitC 32 r
  | [], r, _ => rfl
  | c :: cs, r, h => by
    have e : fmtC c = wordC c ++ [32] := rfl
    rw [List.flatMap_cons, e, List.append_assoc, List.append_assoc, List.singleton_append, splitC_cons 32 _ _ (h c (by simp)), split_text cs r (fun x hx => h x (by simp [hx]))]
    rfl
theorem ixOf_words : ∀ (l : List (List UInt8)) (r : List (List UInt8)), [58] ∉ l → ixOf [58] (l ++ [58] :: r) = l.length
  | [], _, _ => by rw [List.nil_append, ixOf, if_pos rfl]; rfl
  | y :: l, r, h => by
    have hy : ¬ y = [58] := fun e => h (by simp [e])
    rw [List.cons_append, ixOf, if_neg hy, ixOf_words l r (fun e => h (by simp [e]))]; rfl

/-! ### Numerals of at most three digits -/
def dig3 (n : Nat) : List UInt8 := if n < 10 then [UInt8.ofNat (48 + n)] else if n < 100 then [UInt8.ofNat (48 + n / 10), UInt8.ofNat (48 + n % 10)] else [UInt8.ofNat (48 + n / 100), UInt8.ofNat (48 + n / 10 % 10), UInt8.ofNat (48 + n % 10)]
theorem dec3 {n : Nat} (h : n < 1000) : Lib.decDigits n = dig3 n := by
  unfold dig3
  split
  · rename_i h1; rw [Lib.decDigits, dif_pos h1]
  · rename_i h1
    rw [Lib.decDigits, dif_neg h1]
    split
    · rename_i h2; rw [Lib.decDigits, dif_pos (by omega)]; rfl
    · rename_i h2
      rw [Lib.decDigits, dif_neg (by omega), Lib.decDigits, dif_pos (by omega), show n / 10 / 10 = n / 100 by omega]; rfl
def itoN (f : Nat) : List UInt8 := dig3 f
theorem itoa_N {f : Int} (h0 : 0 ≤ f) (h1 : f < 1000) : Lib.itoa f = itoN f.toNat := by
  rw [Lib.itoa, if_neg (by omega), dec3 (by omega)]; rfl
theorem num_fin : ∀ f : Fin 128, numOk (itoN f.val) = true ∧ numN (itoN f.val) = (f.val : Int) ∧ (itoN f.val).contains 32 = false ∧ (itoN f.val).contains 43 = false := by decide +kernel
theorem num_at {f : Int} (h0 : 0 ≤ f) (h1 : f ≤ 127) : numOk (Lib.itoa f) = true ∧ numN (Lib.itoa f) = f ∧ 32 ∉ Lib.itoa f ∧ 43 ∉ Lib.itoa f := by
  obtain ⟨a, b, c, d⟩ := num_fin ⟨f.toNat, by omega⟩
  rw [itoa_N h0 (by omega)]
  refine ⟨a, ?_, ?_, ?_⟩
  · rw [b]; show ((f.toNat : Nat) : Int) = f; omega
  · simpa using c
  · simpa using d
/-! ### Names -/
theorem name_fin : ∀ l : Fin 7, ∀ a : Fin 3, ∀ o : Fin 11, (letL l.val ++ sgn ((a.val : Int) - 1) ++ itoS ((o.val : Int) - 1)).contains 32 = false ∧ (letL l.val ++ sgn ((a.val : Int) - 1) ++ itoS ((o.val : Int) - 1)).contains 47 = false := by decide +kernel
theorem name_at {l a o : Int} (h : right l a o = true) : 32 ∉ nmL l a o ∧ 47 ∉ nmL l a o := by
  obtain ⟨l0, l6, a0, a1, o0, o1⟩ := right_in h
  have := name_fin ⟨l.toNat, by omega⟩ ⟨(a + 1).toNat, by omega⟩ ⟨(o + 1).toNat, by omega⟩
  simp only [show (((a + 1).toNat : Nat) : Int) - 1 = a by omega, show (((o + 1).toNat : Nat) : Int) - 1 = o by omega] at this
  rw [nmL, itoa_S o0 o1]
  exact ⟨by simpa using this.1, by simpa using this.2⟩
theorem ixC_at (c : UInt8) (r : List UInt8) : ∀ u : List UInt8, c ∉ u → ixC c (u ++ c :: r) = u.length
  | [], _ => by simp [ixC, List.findIdx_cons]
  | x :: u, h => by
    have hx : (x == c) = false := by simp; exact fun e => h (by simp [e])
    have := ixC_at c r u (fun e => h (by simp [e]))
    rw [ixC] at this ⊢
    rw [List.cons_append, List.findIdx_cons, hx, this]; rfl
theorem cut_at (c : UInt8) (u r : List UInt8) (h : c ∉ u) : Lib.cut (u ++ c :: r) [c] = (u, r, true) := by
  rw [cut_ix, ixC_at c r u h, if_pos (by simp)]
  simp
theorem suf_yes (u : List UInt8) : Lib.hasSuffix (u ++ [43]) [43] = true ∧ Lib.trimSuffix (u ++ [43]) [43] = u := by
  have h : Lib.hasSuffix (u ++ [43]) [43] = true := by
    rw [Lib.hasSuffix, List.isSuffixOf_iff_suffix]
    exact List.suffix_append _ _
  refine ⟨h, ?_⟩
  rw [Lib.trimSuffix, if_pos h]
  simp
theorem suf_no (u : List UInt8) (hu : 43 ∉ u) : Lib.hasSuffix u [43] = false ∧ Lib.trimSuffix u [43] = u := by
  have h : Lib.hasSuffix u [43] = false := by
    rw [Lib.hasSuffix, Bool.eq_false_iff]
    intro h
    rw [List.isSuffixOf_iff_suffix] at h
    exact hu (h.subset (by simp))
  refine ⟨h, ?_⟩
  rw [Lib.trimSuffix, h]
  rfl
theorem crs_word {c : Crs} (hp : 0 ≤ c.p ∧ c.p ≤ 127) (hf : 0 ≤ c.f ∧ c.f ≤ 127) : crsOf (wordC c) = (0, c) ∧ 32 ∉ wordC c ∧ wordC c ≠ [58] := by
  obtain ⟨l, a, hsp, hR, hE, hP⟩ := spell_at hp.1 hp.2
  have hnm : nmP c.p = nmL l a (spO c.p l a) := by rw [nmP, hsp]
  obtain ⟨n32, n47⟩ := name_at hR
  obtain ⟨f1, f2, f3, f4⟩ := num_at hf.1 hf.2
  have hw : wordC c = nmL l a (spO c.p l a) ++ 47 :: (Lib.itoa c.f ++ oct c.o) := by rw [wordC, hnm]; simp
  have hcut := cut_at 47 (nmL l a (spO c.p l a)) (Lib.itoa c.f ++ oct c.o) n47
  have hE0 : pnE (nmL l a (spO c.p l a)) = 0 := by simp only [pnE, read_name hR, hR, if_true]
  have hV0 : pnV (nmL l a (spO c.p l a)) = (l, a, spO c.p l a) := by simp only [pnV, read_name hR, hR, if_true]
  have hpit : pit l a (spO c.p l a) = c.p := by rw [← (snd_good hR).1]; exact hP
  have hs : Lib.hasSuffix (Lib.itoa c.f ++ oct c.o) [43] = c.o ∧ Lib.trimSuffix (Lib.itoa c.f ++ oct c.o) [43] = Lib.itoa c.f := by
    cases c.o
    · rw [oct, if_neg (by decide), List.append_nil]; exact suf_no _ f4
    · rw [oct, if_pos rfl]; exact suf_yes _
  refine ⟨?_, ?_, ?_⟩
  · rw [hw, crsOf, hcut]
    simp only [hE0, hV0, hs.1, hs.2, f1, f2, hpit]
    rfl
  · rw [hw]
    intro h
    simp only [List.mem_append, List.mem_cons] at h
    rcases h with h | h | h | h
    · exact n32 h
    · revert h; decide
    · exact f3 h
    · cases hO : c.o <;> rw [hO] at h <;> simp [oct] at h
  · rw [hw]
    intro h
    have := congrArg (fun l => (47 : UInt8) ∈ l) h
    simp at this
theorem cErr_zero : ∀ {l : List (List UInt8)}, (∀ t ∈ l, (crsOf t).1 = 0) → cErr l = 0
  | [], _ => rfl
  | t :: r, h => by rw [cErr, if_pos (h t (by simp)), cErr_zero (fun x hx => h x (by simp [hx]))]

/-- Parse reads what Format writes. -/
theorem read_text {cs : List Crs} {ss : List Int} (h0 : chk cs ss = 0) : psE (fmtT cs ss) = 0 ∧ psC (fmtT cs ss) = cs ∧ psS (fmtT cs ss) = ss := by
  obtain ⟨_, n2, hst, hall⟩ := chk_zero h0
  have hc : ∀ c ∈ cs, (0 ≤ c.p ∧ c.p ≤ 127) ∧ (0 ≤ c.f ∧ c.f ≤ 127) := fun c hc => by
    have := crsE_zero (hall c hc)
    exact ⟨⟨this.2.2.1, this.2.2.2.1⟩, this.1, by have := this.2.1; omega⟩
  have hs : ∀ s ∈ ss, 0 ≤ s ∧ s ≤ 127 := stepsOk_bd 0 ss (by omega) hst
  have hw : splitC 32 (fmtT cs ss) = cs.map wordC ++ [58] :: ss.map Lib.itoa := by
    rw [fmtT, fmtCs, fmtSs, List.take_length, List.take_length, List.append_assoc, split_text cs _ (fun c h => (crs_word (hc c h).1 (hc c h).2).2.1), split_steps ss [58] (by decide) (fun s h => (num_at (hs s h).1 (hs s h).2).2.2.1)]
  have hix : ixOf [58] (cs.map wordC ++ [58] :: ss.map Lib.itoa) = cs.length := by
    rw [ixOf_words, List.length_map]
    intro h
    obtain ⟨c, h1, h2⟩ := List.mem_map.1 h
    exact (crs_word (hc c h1).1 (hc c h1).2).2.2 h2
  have htk : (cs.map wordC ++ [58] :: ss.map Lib.itoa).take cs.length = cs.map wordC := by
    rw [List.take_append_of_le_length (by simp), List.take_of_length_le (by simp)]
  have hdr : (cs.map wordC ++ [58] :: ss.map Lib.itoa).drop (cs.length + 1) = ss.map Lib.itoa := by
    rw [List.drop_append, List.drop_eq_nil_of_le (by simp)]; simp
  have hcV : cVal (cs.map wordC) = cs := by
    rw [cVal, List.map_map]
    conv => rhs; rw [← List.map_id cs]
    exact List.map_congr_left fun c h => by show (crsOf (wordC c)).2 = c; rw [(crs_word (hc c h).1 (hc c h).2).1]
  have hnV : nVal (ss.map Lib.itoa) = ss := by
    rw [nVal, List.map_map]
    conv => rhs; rw [← List.map_id ss]
    exact List.map_congr_left fun s h => (num_at (hs s h).1 (hs s h).2).2.1
  have hE : psE (fmtT cs ss) = 0 := by
    rw [psE, hw, wsE, hix, if_neg (by simp), htk, hdr, if_neg, if_neg, hcV, hnV, h0]
    · rw [Bool.not_eq_false, List.all_eq_true]
      intro x hx
      obtain ⟨s, h1, rfl⟩ := List.mem_map.1 hx
      exact (num_at (hs s h1).1 (hs s h1).2).1
    · intro hh
      refine hh (cErr_zero fun t ht => ?_)
      obtain ⟨c, h1, rfl⟩ := List.mem_map.1 ht
      rw [(crs_word (hc c h1).1 (hc c h1).2).1]
  refine ⟨hE, ?_, ?_⟩
  · rw [psC, if_pos hE, hw, hix, htk, hcV]
  · rw [psS, if_pos hE, hw, hix, hdr, hnV]
end Go.Proofs.YtbdhjpdjbogggaaDoor
namespace Go.Proofs.YtbdhjpdjbogggaaDoor
open Go.RowKit
set_option linter.unusedSimpArgs false
set_option linter.unusedVariables false

theorem bd_size : ∃ j, Tryd.prog.info? 103 = some j ∧ j.size = 2 := by
  obtain ⟨j, hj, h⟩ := Option.map_eq_some_iff.1 Tryd.Builder_Extra_169.toX72.sizeBuilder
  exact ⟨j, hj, h⟩
theorem bd_lies {n : Nat} (h : 2 ≤ n) : liesAt Tryd.prog Tryd.prog.depth 103 (n / Tryd.prog.cellsOf 103) 0 103 1 = true := by
  have hc : Tryd.prog.cellsOf 103 = 2 := by kernel_rfl
  have hn : 1 ≤ n / 2 := by omega
  have hd : Tryd.prog.depth = (2 * (Tryd.prog.types.size + Made.depth) + 1) + 1 := rfl
  rw [hd, hc]
  simp only [liesAt, Bool.or_eq_true]
  left
  rw [hd]
  simp [rowAt, hc, hn, sameLayout]
theorem bd_byte : ∃ i, Tryd.prog.info? 5 = some i ∧ i.zero = some (.int .u8 0) ∧ i.size = 1 ∧ i.bytes = 1 := by
  obtain ⟨i, h, h0, h1, h2⟩ := info_parts Tryd.Builder_Extra_169.infoByte
  exact ⟨i, h, h0, h1, h2⟩

set_option maxHeartbeats 1000000 in
set_option maxRecDepth 100000 in
theorem cc_used (b : Nat) (w : World) (h0 : w.cell? ⟨b, 0, none⟩ = some (.pointer (some ⟨b, 0, none⟩))) :
    Calls Tryd.prog 98 #[.pointer (some ⟨b, 0, none⟩)] w fun e w' => e = .returned (.tuple #[]) ∧ w' = w := by
  obtain ⟨j, hj, _⟩ := bd_size
  go_enter Tryd.func98, Tryd.ntmps98
  go_wp2
  rw [Lib.run_neq_ptr_same w _ Tryd.underlying100 hj]
  go_wp2
  go_end0
  exact ⟨rfl, rfl⟩

set_option maxHeartbeats 1000000 in
set_option maxRecDepth 100000 in
theorem cc_fresh (b : Nat) (w : World) (h0 : w.cell? ⟨b, 0, none⟩ = some (.pointer none)) {n : Nat} (hn : 2 ≤ n) (hsh : w.shape? b = some (103, n)) (hfz : w.frozen? ⟨b, 0, none⟩ = false) :
    Calls Tryd.prog 98 #[.pointer (some ⟨b, 0, none⟩)] w fun e w' => e = .returned (.tuple #[]) ∧ w' = w.setCell ⟨b, 0, none⟩ (.pointer (some ⟨b, 0, none⟩)) := by
  obtain ⟨j, hj, hjs⟩ := bd_size
  go_enter Tryd.func98, Tryd.ntmps98
  go_wp2
  rw [Lib.run_to_unsafe w ⟨b, 0, none⟩ Tryd.underlying100 Tryd.underlying123 hj (by rw [hjs]; decide) hsh (by show 0 < n; omega)]
  simp only [Result.andThen]
  rw [Oper.upon_value]
  go_wp2
  rw [run_callFunc_extern Tryd.func108 (by kernel_rfl) (by kernel_rfl) (by kernel_rfl) (e := Extern.AbiNoEscape.same) (by kernel_rfl)]
  rw [Lib.run_noEscape]
  simp only [Result.andThen]
  rw [Oper.upon_value]
  go_wp2
  rw [Lib.run_from_unsafe w ⟨b, 0, none⟩ Tryd.underlying123 Tryd.underlying100 hj hsh (bd_lies hn)]
  simp only [Result.andThen]
  rw [Oper.upon_value]
  go_wp2
  go_end0
  exact ⟨rfl, rfl⟩

theorem wpList_append_exact {P : Program} {w : World} {ops : Array Oper} {rest : List Oper} {o : Oper} {a : Act} {Q : Exit → Act → World → Prop} (hgd : o.guard = none) (sl x : Operand) (t u : TypeId)
    (ho : o.op = .call { callee := .builtin .append, args := #[sl, x], argTypes := #[t, u] }) (v s v' : Value) (w' : World) (hs : a.eval sl = v) (hx : a.eval x = s)
    (hr : ∀ ty, (Builtin.append_ #[t, u] ty #[v, s]).run P w = .ok v' w') (h : wpList P ops Q rest (a.put o.dst v') w') : wpList P ops Q (o :: rest) a w := by
  refine wpList_plain hgd fun K hK => ?_
  unfold Oper.wp execOp
  simp only [ho, resolve, invoke, builtin, Sem.run_bind, Sem.run_pure, Result.andThen_ok, List.map_toArray, List.map_cons, List.map_nil, hs, hx, hr]
  exact hK _ _ h

set_option maxHeartbeats 1000000 in
set_option maxRecDepth 100000 in
/-- WriteString: what it changes. -/
theorem ws_any (b : Nat) (c c2 : Array Value) (p v : Value) (s : ByteArray) (w w1 w2 : World) (ao : Option Addr) (n' cap' : Nat) (hb : w.heap[b]? = some (.cells c 103 (0, 0))) (h0 : c[0]? = some p) (h1 : c[1]? = some v)
    (hp : (p = .pointer none ∧ w1 = w.setCell ⟨b, 0, none⟩ (.pointer (some ⟨b, 0, none⟩))) ∨ (p = .pointer (some ⟨b, 0, none⟩) ∧ w1 = w))
    (hr : ∀ ty, (Builtin.append_ #[101, 9] ty #[v, .string s]).run Tryd.prog w1 = .ok (.slice ao n' cap') w2) (hb2 : w2.heap[b]? = some (.cells c2 103 (0, 0))) (h2 : c2[1]? = some v) :
    Calls Tryd.prog 87 #[.pointer (some ⟨b, 0, none⟩), .string s] w fun e w' => e = .returned (.tuple #[.int .i64 s.size, .nilIface]) ∧ w' = w2.setCell ⟨b, 1, none⟩ (.slice ao n' cap') := by
  have hcc : Calls Tryd.prog 98 #[.pointer (some ⟨b, 0, none⟩)] w fun e w' => e = .returned (.tuple #[]) ∧ w' = w1 := by
    rcases hp with ⟨rfl, rfl⟩ | ⟨rfl, rfl⟩
    · have hlt := (Array.getElem?_eq_some_iff.1 h1).1
      exact cc_fresh b w (by rw [Lib.cell_of_heap hb]; exact h0) (n := c.size) (by omega) (by simp [World.shape?, hb]) (by simp [World.frozen?, hb])
    · exact cc_used b w1 (by rw [Lib.cell_of_heap hb]; exact h0)
  have c1 : w1.cell? ⟨b, 1, none⟩ = some v := by
    rcases hp with ⟨rfl, rfl⟩ | ⟨rfl, rfl⟩
    · rw [Lib.cell_of_heap (setCell_heap hb 0 _), Array.getElem?_setIfInBounds_ne (by decide)]; exact h1
    · rw [Lib.cell_of_heap hb]; exact h1
  have d2 : w2.cell? ⟨b, 1, none⟩ = some v := by rw [Lib.cell_of_heap hb2]; exact h2
  have f2 : w2.frozen? ⟨b, 1, none⟩ = false := Lib.frozen_of_heap hb2 1
  clear hp h0 h1 h2
  go_enter Tryd.func87, Tryd.ntmps87
  go_wp2_with (go_at_call 98; refine hcc.mono ?_)
  rintro e w1' ⟨rfl, rfl⟩
  go_wp2_with (at_builtin; refine wpList_append_exact rfl _ _ 101 9 rfl _ _ _ _ rfl rfl hr ?_)
  go_wp2
  go_ret2
  exact ⟨rfl, rfl⟩

set_option maxHeartbeats 1000000 in
set_option maxRecDepth 100000 in
/-- String of a builder that holds a byte: what it changes. -/
theorem bs_any (b g cap : Nat) (c cur : Array Value) (l : List UInt8) (w : World) (hb : w.heap[b]? = some (.cells c 103 (0, 0))) (h1 : c[1]? = some (.slice (some ⟨g, 0, none⟩) l.length cap)) (hg : w.heap[g]? = some (.cells cur 5 (0, 0)))
    (h0 : l ≠ []) (hc : l.length ≤ cap) (hm : l.length ≤ 1000000000) (hsz : cur.size = cap) (hl : cur.toList.take l.length = l.map fun x => Value.int .u8 x.toNat) :
    Calls Tryd.prog 88 #[.pointer (some ⟨b, 0, none⟩)] w fun e w' => e = .returned (.string ⟨l.toArray⟩) ∧ w' = w.drew.freeze ⟨g, 0, none⟩ l.length := by
  have hl0 : l.length ≠ 0 := by simpa using h0
  have c1 : w.drew.cell? ⟨b, 1, none⟩ = some (.slice (some ⟨g, 0, none⟩) l.length cap) := by
    have : w.drew.heap[b]? = some (.cells c 103 (0, 0)) := hb
    rw [Lib.cell_of_heap this]; exact h1
  have hSD : (Builtin.unsafeSliceData_ #[101] 117 #[.slice (some ⟨g, 0, none⟩) l.length cap]).run Tryd.prog w.drew = .ok (.pointer (some ⟨g, 0, none⟩)) w.drew :=
    Lib.run_unsafeSliceData_row _ _ _ _ _ _ (by omega)
  have hUS : (Builtin.unsafeString_ #[117, 3] 9 #[.pointer (some ⟨g, 0, none⟩), .int .i64 l.length]).run Tryd.prog w.drew = .ok (.string ⟨l.toArray⟩) (w.drew.freeze ⟨g, 0, none⟩ l.length) := by
    refine Lib.run_unsafeString_row w.drew 117 3 9 5 Tryd.underlying117 (by kernel_rfl) g cur.size (by have hg' : w.drew.heap[g]? = some (.cells cur 5 (0, 0)) := hg; simp [World.shape?, hg']) l h0 (by omega) (by omega) ?_
    intro j x hx
    have hg' : w.drew.heap[g]? = some (.cells cur 5 (0, 0)) := hg
    have hj : j < l.length := (List.getElem?_eq_some_iff.1 hx).1
    rw [Addr.add_lit, Nat.zero_add, Lib.cell_of_heap hg']
    have := congrArg (·[j]?) hl
    simp only [List.getElem?_take, if_pos hj, List.getElem?_map, hx, Array.getElem?_toList, Option.map_some] at this
    exact this
  go_enter Tryd.func88, Tryd.ntmps88
  go_wp2
  go_region
  all_goals (go_wp2; go_ret; exact ⟨rfl, rfl⟩)
end Go.Proofs.YtbdhjpdjbogggaaDoor
namespace Go.Proofs.YtbdhjpdjbogggaaDoor
open Go.RowKit
set_option linter.unusedSimpArgs false
set_option linter.unusedVariables false

def byV (l : List UInt8) : List V := l.map fun x => .lit (.int .u8 x.toNat)
def byC (l : List UInt8) : List Value := l.map fun x => .int .u8 x.toNat
theorem byV_length (l : List UInt8) : (byV l).length = l.length := List.length_map _
theorem byC_length (l : List UInt8) : (byC l).length = l.length := List.length_map _
theorem byteCells_is (l : List UInt8) : Go.byteCells ⟨l.toArray⟩ = byC l := rfl
theorem VRs_byV {E : Env} : ∀ l : List UInt8, VRs E (byV l) (byC l)
  | [] => by rw [byV, byC, List.map_nil, List.map_nil, VRs]
  | x :: l => by
    show VRs E (.lit _ :: byV l) (_ :: byC l)
    rw [VRs]
    exact ⟨_, _, rfl, VR_mk rfl, VRs_byV l⟩
theorem VRs_byV_eq {E : Env} : ∀ {l : List UInt8} {cs : List Value}, VRs E (byV l) cs → cs = byC l
  | [], cs, h => by rw [byV, List.map_nil, VRs] at h; exact h
  | x :: l, cs, h => by
    change VRs E (.lit _ :: byV l) cs at h
    rw [VRs] at h
    obtain ⟨c, d, e, h1, h2⟩ := h
    rw [e, VR_lit h1, VRs_byV_eq h2]; rfl
theorem byV_append (a b : List UInt8) : byV (a ++ b) = byV a ++ byV b := List.map_append ..

/-- The builder, not written yet. -/
def Bld0 (m : Mm) (i : Nat) : Prop := m.obj i = some (.box [.lit (.pointer none), .sl 0 [] .exact] 103)
/-- The builder i that holds the bytes l in the box j. -/
def Bld (m : Mm) (i j : Nat) (l : List UInt8) : Prop := m.obj i = some (.box [.ptr i 0, .gsl j l.length 1] 103) ∧ m.obj j = some (.box (byV l) 5) ∧ j ≠ i
/-- What WriteString leaves: the builder i, now with the box m.next; the box j is gone. -/
def WsP (m : Mm) (i j : Nat) (l : List UInt8) (n : Nat) (r : V) (m' : Mm) : Prop :=
  r = .tup [vint n, .lit .nilIface] ∧ Bld m' i m.next l ∧ m'.next = m.next + 1 ∧ ∀ q, q ≠ i → q ≠ j → q ≠ m.next → m'.obj q = m.obj q

theorem Step.room {X : Nat → Prop} {E : Env} {m : Mm} {w : World} : Step X E m w E ⟨m.obj, m.next + 1⟩ w :=
  ⟨.refl E, Nat.le_add_right _ _, fun _ _ _ => rfl, fun _ _ _ h => ⟨fun _ => rfl, h⟩, rfl, rfl, rfl, Nat.le_refl _, fun _ _ _ => rfl, fun i _ h _ => ⟨i, h⟩, fun _ _ _ h => .inl h⟩

theorem take_two {c : Array Value} {x y : Value} (h : c.toList.take 2 = [x, y]) : c[0]? = some x ∧ c[1]? = some y := by
  have h0 := congrArg (·[0]?) h
  have h1 := congrArg (·[1]?) h
  simp only [List.getElem?_take, Array.getElem?_toList] at h0 h1
  exact ⟨h0, h1⟩

/-- The last store of WriteString: the buffer. -/
theorem bd_put {E : Env} {m : Mm} {w : World} (hm : MemR E m w) {i id b n cap : Nat} {g : Addr} {p v : V} (ho : m.obj i = some (.box [p, v] 103)) (hb : E.φ i = some b) {c : Array Value} (hh : w.heap[b]? = some (.cells c 103 (0, 0)))
    (h0 : c[0]? = some (.pointer (some ⟨b, 0, none⟩))) (h1 : 1 < c.size) (hid : VR E (.gsl id n 1) (.slice (some g) n cap)) :
    Step NoX E m w E (m.put i (.box [.ptr i 0, .gsl id n 1] 103)) (w.setCell ⟨b, 1, none⟩ (.slice (some g) n cap)) ∧ MemR E (m.put i (.box [.ptr i 0, .gsl id n 1] 103)) (w.setCell ⟨b, 1, none⟩ (.slice (some g) n cap)) := by
  refine hm.setBox ho hb (setCell_same w b 1 _) (setCell_heap hh 1 _) (fun c0 hc0 => ?_) ?_
  · rw [hh] at hc0; cases hc0; simp
  · have e : (c.setIfInBounds 1 (.slice (some g) n cap)).toList.take 2 = [.pointer (some ⟨b, 0, none⟩), .slice (some g) n cap] := by
      apply List.ext_getElem?
      intro k
      rw [List.getElem?_take, Array.getElem?_toList]
      rcases k with _ | _ | k
      · rw [if_pos (by decide), Array.getElem?_setIfInBounds_ne (by decide), h0]; rfl
      · rw [if_pos (by decide), Array.getElem?_setIfInBounds_self_of_lt h1]; rfl
      · rw [if_neg (by omega)]; rfl
    show VRs E [_, _] ((c.setIfInBounds 1 (.slice (some g) n cap)).toList.take 2)
    rw [e, VRs]
    refine ⟨_, _, rfl, ?_, ?_⟩
    · rw [VR]; exact ⟨b, hb, rfl⟩
    · rw [VRs]
      exact ⟨_, _, rfl, hid, by rw [VRs]⟩
/-- The first store: its own address. -/
theorem bd_own {E : Env} {m : Mm} {w : World} (hm : MemR E m w) {i b : Nat} {p v : V} {y : Value} (ho : m.obj i = some (.box [p, v] 103)) (hb : E.φ i = some b) {c : Array Value} (hh : w.heap[b]? = some (.cells c 103 (0, 0)))
    (h1 : c[1]? = some y) (hv : VR E v y) :
    Step NoX E m w E (m.put i (.box [.ptr i 0, v] 103)) (w.setCell ⟨b, 0, none⟩ (.pointer (some ⟨b, 0, none⟩))) ∧ MemR E (m.put i (.box [.ptr i 0, v] 103)) (w.setCell ⟨b, 0, none⟩ (.pointer (some ⟨b, 0, none⟩))) := by
  have hlt := (Array.getElem?_eq_some_iff.1 h1).1
  refine hm.setBox ho hb (setCell_same w b 0 _) (setCell_heap hh 0 _) (fun c0 hc0 => ?_) ?_
  · rw [hh] at hc0; cases hc0; simp
  · have e : (c.setIfInBounds 0 (.pointer (some ⟨b, 0, none⟩))).toList.take 2 = [.pointer (some ⟨b, 0, none⟩), y] := by
      apply List.ext_getElem?
      intro k
      rw [List.getElem?_take, Array.getElem?_toList]
      rcases k with _ | _ | k
      · rw [if_pos (by decide), Array.getElem?_setIfInBounds_self_of_lt (by omega)]; rfl
      · rw [if_pos (by decide), Array.getElem?_setIfInBounds_ne (by decide), h1]; rfl
      · rw [if_neg (by omega)]; rfl
    show VRs E [_, _] ((c.setIfInBounds 0 (.pointer (some ⟨b, 0, none⟩))).toList.take 2)
    rw [e, VRs]
    refine ⟨_, _, rfl, ?_, ?_⟩
    · rw [VR]; exact ⟨b, hb, rfl⟩
    · rw [VRs]
      exact ⟨_, _, rfl, hv, by rw [VRs]⟩
theorem VR_ws {E : Env} (n : Nat) : VR E (.tup [vint n, .lit .nilIface]) (.tuple #[.int .i64 n, .nilIface]) := by
  rw [VR]
  refine ⟨_, rfl, ?_⟩
  rw [VRs]
  refine ⟨_, _, rfl, VR_mk rfl, ?_⟩
  rw [VRs]
  exact ⟨_, _, rfl, VR_mk rfl, by rw [VRs]⟩

set_option maxHeartbeats 1000000 in
/-- WriteString to a builder that has been written. -/
theorem ws_sfn {G : Ground} {m : Mm} {i j : Nat} {l s : List UInt8} (h : Bld m i j l) (hs : s ≠ []) (hl : l.length + s.length ≤ 1000000) : SFn Tryd.prog G 87 [.ptr i 0, str s] m (WsP m i j (l ++ s) s.length) := by
  intro E w cargs hG hm hv
  obtain ⟨hoi, hoj, hji⟩ := h
  obtain ⟨x, y, rfl, hx, hy⟩ := two_args hv
  obtain rfl := VR_lit hy
  rw [VR] at hx
  obtain ⟨b, hφ, rfl⟩ := hx
  obtain ⟨b', c, e, hh, hr, _⟩ := hm.box i _ _ hoi
  rw [hφ] at e; cases e
  obtain ⟨x, y, e2, hx, hy⟩ := VRs_two hr
  rw [VR] at hx
  rw [VR] at hy
  obtain ⟨b', e, rfl⟩ := hx
  rw [hφ] at e; cases e
  obtain ⟨g, hφj, cap, rfl, hn, hloc⟩ := hy
  obtain ⟨c0, c1⟩ := take_two e2
  obtain ⟨g', cur, e, hhg, hrj, hMj⟩ := hm.box j _ _ hoj
  rw [hφj] at e; cases e
  have hsz := hm.siz j _ _ _ _ cap g cur hoj hloc hφj hhg
  have hgb : g ≠ b := fun e => by subst e; exact hji (hm.inj j i g (.inl ⟨_, _, hoj, hφj⟩) (.inl ⟨_, _, hoi, hφ⟩))
  obtain ⟨ti, hi, hz, hs1, hby⟩ := bd_byte
  have hsl : (⟨s.toArray⟩ : ByteArray).size = s.length := rfl
  have src : ∀ W : World, Src Tryd.prog ti.size 9 (.string ⟨s.toArray⟩) s.length (byC s) W := fun W => by rw [hs1]; exact Src.ofString W Tryd.underlying9 ⟨s.toArray⟩
  have hcl := VRs_byV_eq hrj
  rw [byV_length] at hcl
  have hs0 : 0 < s.length := List.length_pos_iff.2 hs
  have hfr := hm.fresh m.next (Nat.le_refl _)
  have hm0 : MemR E ⟨m.obj, m.next + 1⟩ w := hm.skip 1
  have hjn : j ≠ m.next := fun e => by rw [← e] at hfr; rw [hoj] at hfr; exact nomatch hfr.2.2
  have hin : i ≠ m.next := fun e => by rw [← e] at hfr; rw [hoi] at hfr; exact nomatch hfr.2.2
  have hblt : b < w.heap.size := heap_lt hh
  have hc1 : 1 < c.size := (Array.getElem?_eq_some_iff.1 c1).1
  by_cases hroom : l.length + s.length ≤ cap
  · have hfit : l.length + (byC s).length ≤ cur.size := by rw [byC_length]; omega
    have hrun := fun ty => run_append_room_src (P := Tryd.prog) w 101 9 ty 5 ti Tryd.underlying101 hi g 0 l.length cap (.string ⟨s.toArray⟩) s.length (byC s) (src w) hroom
      (fun q hq => by rw [byC_length] at hq; rw [hs1, Lib.cell_of_heap hhg, Array.getElem?_eq_getElem (by omega)]; rfl) (fun q hq => Lib.frozen_of_heap hhg _)
    rw [hs1, Nat.mul_one, Nat.zero_add] at hrun
    obtain ⟨hsb, c2, hc2, hcl2⟩ := setCells_spec g (byC s) l.length w cur 5 (0, 0) hhg hfit
    refine (ws_any b c c _ _ ⟨s.toArray⟩ w w _ _ _ _ hh c0 c1 (.inr ⟨rfl, rfl⟩) hrun ((hsb.block b (Ne.symm hgb)).trans hh) c1).mono ?_
    rintro e w' ⟨rfl, rfl⟩
    obtain ⟨hs2, hm2⟩ := hm0.setBox (cs' := byV (l ++ s)) hoj hφj hsb hc2 (fun c0 hc0 => by
      rw [hhg] at hc0; cases hc0
      have := congrArg List.length hcl2
      simp only [List.length_append, List.length_take, List.length_drop, Array.length_toList] at this
      omega) (by
        rw [hcl2, byV_length, List.length_append, hcl, List.take_append_of_le_length (by simp [byC_length]), List.take_of_length_le (l := byC l ++ byC s) (by simp [byC_length]), byV_append]
        exact (VRs_byV l).append (VRs_byV s))
    obtain ⟨E', hs3, hm3, hφ3, hl3⟩ := hm2.rename (i := j) (id := m.next) (s := 1) (if_pos rfl) hφj hloc (Nat.lt_succ_self _) hfr.1 ((if_neg (Ne.symm hjn)).trans hfr.2.2) hfr.2.1
    rw [put_del_put _ _ _ _ _ hjn] at hs3 hm3
    have hoi3 : ((Mm.del ⟨m.obj, m.next + 1⟩ j).put m.next (.box (byV (l ++ s)) 5)).obj i = some (.box [.ptr i 0, .gsl j l.length 1] 103) := by
      show (if i = m.next then _ else (if i = j then _ else m.obj i)) = _
      rw [if_neg hin, if_neg (Ne.symm hji), hoi]
    obtain ⟨hs4, hm4⟩ := bd_put hm3 (id := m.next) (n := l.length + s.length) (cap := cap) (g := ⟨g, 0, none⟩) hoi3 (hs3.le.φ _ _ hφ) ((hsb.block b (Ne.symm hgb)).trans hh) c0 hc1 (by rw [VR]; exact ⟨g, hφ3, cap, rfl, hroom, hl3⟩)
    refine ⟨_, _, _, E', rfl, ⟨rfl, ⟨?_, ?_, Ne.symm hin⟩, rfl, fun q h1 h2 h3 => ?_⟩, (((Step.room.trans (hs2.weaken fun _ _ h => h.elim)).trans hs3).trans (hs4.weaken fun _ _ h => h.elim)).weaken fun q hq e => by subst e; omega, hm4, VR_ws _⟩
    · show (if i = i then _ else _) = _
      rw [if_pos rfl, List.length_append]
    · show (if m.next = i then _ else (if m.next = m.next then _ else _)) = _
      rw [if_neg (Ne.symm hin), if_pos rfl]
    · show (if q = i then _ else (if q = m.next then _ else (if q = j then _ else m.obj q))) = _
      rw [if_neg h1, if_neg h3, if_neg h2]
  · have hlt : cap < l.length + s.length := by omega
    have hold : (Builtin.firstCells ti.size l.length (.slice (some ⟨g, 0, none⟩) l.length cap)).run Tryd.prog w.drew = .ok (byC l).toArray w.drew := by
      refine run_firstCells_some w.drew ti.size l.length ⟨g, 0, none⟩ l.length cap (byC l) (by rw [byC_length, hs1, Nat.mul_one]) fun q u hu => ?_
      have hhg' : w.drew.heap[g]? = some (.cells cur 5 (0, 0)) := hhg
      rw [Addr.add_lit, Nat.zero_add, Lib.cell_of_heap hhg', ← Array.getElem?_toList]
      have hq : q < l.length := by rw [← byC_length l]; exact (List.getElem?_eq_some_iff.1 hu).1
      rw [← hcl, List.getElem?_take, if_pos hq] at hu
      exact hu
    have hrun := fun ty => run_append_grow_src (P := Tryd.prog) w 101 9 ty 5 ti _ Tryd.underlying101 hi hz (some ⟨g, 0, none⟩) l.length cap (byC l) hold (.string ⟨s.toArray⟩) s.length (byC s) (src w) hlt (by omega) (growslice_fits hlt (by rw [hby]; omega))
    have hcapge := grownCap_ge w (l.length + s.length) cap 5
    have hbd : (w.drew.alloc (.cells ((byC l ++ byC s).toArray ++ Builtin.zeroCells (Value.int .u8 0).cells (grownCap w (l.length + s.length) cap 5 - (l.length + s.length))) 5)).heap[b]? = some (.cells c 103 (0, 0)) := (heap_alloc_old w.drew _ hblt).trans hh
    refine (ws_any b c c _ _ ⟨s.toArray⟩ w w _ _ _ _ hh c0 c1 (.inr ⟨rfl, rfl⟩) hrun hbd c1).mono ?_
    rintro e w' ⟨rfl, rfl⟩
    obtain ⟨hs2, hm2⟩ := hm0.del j
    obtain ⟨E', hs3, hm3, hφ3, hl3⟩ := hm2.drew.newBoxG (w := w.drew) (i := m.next) (Nat.lt_succ_self _) hfr.1 ((if_neg (Ne.symm hjn)).trans hfr.2.2) hfr.2.1 (cs := byV (l ++ s))
      (c := (byC l ++ byC s).toArray ++ Builtin.zeroCells (Value.int .u8 0).cells (grownCap w (l.length + s.length) cap 5 - (l.length + s.length))) (by
        rw [Array.toList_append, byV_length, List.length_append, List.take_append_of_le_length (by simp [byC_length]), List.take_of_length_le (by simp [byC_length]), byV_append]
        exact (VRs_byV l).append (VRs_byV s)) 5 (k := grownCap w (l.length + s.length) cap 5) (s := 1) (by
        have hz1 : (Value.int IntKind.u8 0).cells.size = 1 := rfl
        simp only [Array.size_append, List.size_toArray, List.length_append, size_zeroCells, hz1, byC_length]
        omega)
    have hoi3 : ((Mm.del ⟨m.obj, m.next + 1⟩ j).put m.next (.box (byV (l ++ s)) 5)).obj i = some (.box [.ptr i 0, .gsl j l.length 1] 103) := by
      show (if i = m.next then _ else (if i = j then _ else m.obj i)) = _
      rw [if_neg hin, if_neg (Ne.symm hji), hoi]
    obtain ⟨hs4, hm4⟩ := bd_put hm3 (id := m.next) (n := l.length + s.length) (g := ⟨w.heap.size, 0, none⟩) hoi3 (hs3.le.φ _ _ hφ) hbd c0 hc1 (by rw [VR]; exact ⟨_, hφ3, _, rfl, hcapge, hl3⟩)
    refine ⟨_, _, _, E', rfl, ⟨rfl, ⟨?_, ?_, Ne.symm hin⟩, rfl, fun q h1 h2 h3 => ?_⟩, (((Step.room.trans (hs2.weaken fun _ _ h => h.elim)).trans { hs3 with }).trans (hs4.weaken fun _ _ h => h.elim)).weaken fun q hq e => by subst e; omega, hm4, VR_ws _⟩
    · show (if i = i then _ else _) = _
      rw [if_pos rfl, List.length_append]
    · show (if m.next = i then _ else (if m.next = m.next then _ else _)) = _
      rw [if_neg (Ne.symm hin), if_pos rfl]
    · show (if q = i then _ else (if q = m.next then _ else (if q = j then _ else m.obj q))) = _
      rw [if_neg h1, if_neg h3, if_neg h2]

set_option maxHeartbeats 1000000 in
/-- WriteString to a builder that has not been written. -/
theorem ws0_sfn {G : Ground} {m : Mm} {i : Nat} {s : List UInt8} (h : Bld0 m i) (hs : s ≠ []) (hl : s.length ≤ 1000000) : SFn Tryd.prog G 87 [.ptr i 0, str s] m (WsP m i i s s.length) := by
  intro E w cargs hG hm hv
  obtain ⟨x, y, rfl, hx, hy⟩ := two_args hv
  obtain rfl := VR_lit hy
  rw [VR] at hx
  obtain ⟨b, hφ, rfl⟩ := hx
  obtain ⟨b', c, e, hh, hr, _⟩ := hm.box i _ _ h
  rw [hφ] at e; cases e
  obtain ⟨x, y, e2, hx, hy0⟩ := VRs_two hr
  obtain rfl := VR_lit hx
  have hy := hy0
  rw [VR] at hy
  obtain ⟨A, cap, rfl, _, hcap, _, _⟩ := hy
  obtain rfl : cap = 0 := hcap
  obtain ⟨c0, c1⟩ := take_two e2
  obtain ⟨ti, hi, hz, hs1, hby⟩ := bd_byte
  have src : ∀ W : World, Src Tryd.prog ti.size 9 (.string ⟨s.toArray⟩) s.length (byC s) W := fun W => by rw [hs1]; exact Src.ofString W Tryd.underlying9 ⟨s.toArray⟩
  have hs0 : 0 < s.length := List.length_pos_iff.2 hs
  have hfr := hm.fresh m.next (Nat.le_refl _)
  have hm0 : MemR E ⟨m.obj, m.next + 1⟩ w := hm.skip 1
  have hin : i ≠ m.next := fun e => by rw [← e] at hfr; rw [h] at hfr; exact nomatch hfr.2.2
  have hblt : b < w.heap.size := heap_lt hh
  have hc1 : 1 < c.size := (Array.getElem?_eq_some_iff.1 c1).1
  obtain ⟨hs2, hm2⟩ := bd_own hm0 h hφ hh c1 hy0
  have hh1 := setCell_heap hh 0 (.pointer (some ⟨b, 0, none⟩))
  have hsz1 : (w.setCell ⟨b, 0, none⟩ (.pointer (some ⟨b, 0, none⟩))).heap.size = w.heap.size := (setCell_same w b 0 _).size
  generalize hw1 : w.setCell ⟨b, 0, none⟩ (.pointer (some ⟨b, 0, none⟩)) = w1 at *
  have c10 : (c.setIfInBounds 0 (.pointer (some ⟨b, 0, none⟩)))[0]? = some (.pointer (some ⟨b, 0, none⟩)) := Array.getElem?_setIfInBounds_self_of_lt (by omega)
  have c11 : (c.setIfInBounds 0 (.pointer (some ⟨b, 0, none⟩)))[1]? = some (.slice A 0 0) := (Array.getElem?_setIfInBounds_ne (by decide)).trans c1
  have hold : (Builtin.firstCells ti.size 0 (.slice A 0 0)).run Tryd.prog w1.drew = .ok ([] : List Value).toArray w1.drew := by
    cases A with
    | none => exact run_firstCells_none w1.drew ti.size 0 0 0
    | some a => exact run_firstCells_some w1.drew ti.size 0 a 0 0 [] (by simp) (fun q u hu => by simp at hu)
  have hlt : 0 < 0 + s.length := by omega
  have hrun := fun ty => run_append_grow_src (P := Tryd.prog) w1 101 9 ty 5 ti _ Tryd.underlying101 hi hz A 0 0 [] hold (.string ⟨s.toArray⟩) s.length (byC s) (src w1) hlt (by omega) (growslice_fits hlt (by rw [hby]; omega))
  have hcapge := grownCap_ge w1 (0 + s.length) 0 5
  have hbd : (w1.drew.alloc (.cells (([] ++ byC s).toArray ++ Builtin.zeroCells (Value.int .u8 0).cells (grownCap w1 (0 + s.length) 0 5 - (0 + s.length))) 5)).heap[b]? = some (.cells (c.setIfInBounds 0 (.pointer (some ⟨b, 0, none⟩))) 103 (0, 0)) := (heap_alloc_old w1.drew _ (by show b < w1.heap.size; omega)).trans hh1
  refine (ws_any b c _ _ _ ⟨s.toArray⟩ w w1 _ _ _ _ hh c0 c1 (.inl ⟨rfl, hw1.symm⟩) hrun hbd c11).mono ?_
  rintro e w' ⟨rfl, rfl⟩
  obtain ⟨E', hs3, hm3, hφ3, hl3⟩ := hm2.drew.newBoxG (w := w1.drew) (i := m.next) (Nat.lt_succ_self _) hfr.1 ((if_neg (Ne.symm hin)).trans hfr.2.2) hfr.2.1 (cs := byV s)
    (c := ([] ++ byC s).toArray ++ Builtin.zeroCells (Value.int .u8 0).cells (grownCap w1 (0 + s.length) 0 5 - (0 + s.length))) (by
      rw [Array.toList_append, byV_length, List.nil_append, List.take_append_of_le_length (by simp [byC_length]), List.take_of_length_le (by simp [byC_length])]
      exact VRs_byV s) 5 (k := grownCap w1 (0 + s.length) 0 5) (s := 1) (by
      have hz1 : (Value.int IntKind.u8 0).cells.size = 1 := rfl
      simp only [Array.size_append, List.size_toArray, List.nil_append, size_zeroCells, hz1, byC_length]
      omega)
  have hoi3 : ((Mm.put ⟨m.obj, m.next + 1⟩ i (.box [.ptr i 0, .sl 0 [] .exact] 103)).put m.next (.box (byV s) 5)).obj i = some (.box [.ptr i 0, .sl 0 [] .exact] 103) := by
    show (if i = m.next then _ else (if i = i then _ else m.obj i)) = _
    rw [if_neg hin, if_pos rfl]
  obtain ⟨hs4, hm4⟩ := bd_put hm3 (id := m.next) (n := 0 + s.length) (g := ⟨w1.heap.size, 0, none⟩) hoi3 (hs3.le.φ _ _ hφ) hbd c10 (by simpa using hc1) (by rw [VR]; exact ⟨_, hφ3, _, rfl, hcapge, hl3⟩)
  refine ⟨_, _, _, E', rfl, ⟨rfl, ⟨?_, ?_, Ne.symm hin⟩, rfl, fun q h1 h2 h3 => ?_⟩, (((Step.room.trans (hs2.weaken fun _ _ h => h.elim)).trans { hs3 with }).trans (hs4.weaken fun _ _ h => h.elim)).weaken fun q hq e => by subst e; omega, hm4, VR_ws _⟩
  · show (if i = i then _ else _) = _
    rw [if_pos rfl, Nat.zero_add]
  · show (if m.next = i then _ else (if m.next = m.next then _ else _)) = _
    rw [if_neg (Ne.symm hin), if_pos rfl]
  · show (if q = i then _ else (if q = m.next then _ else (if q = i then _ else m.obj q))) = _
    rw [if_neg h1, if_neg h3, if_neg h1]

theorem freeze_same (w : World) (g n : Nat) : SameBut w (w.freeze ⟨g, 0, none⟩ n) g := by
  unfold World.freeze
  split
  · exact SameBut.refl _ _
  · exact ⟨rfl, rfl, rfl, by simp, fun k hk => by simp [Array.getElem?_modify, Ne.symm hk]⟩
theorem SameBut.cell {w w' : World} {g : Nat} (h : SameBut w w' g) {b o : Nat} (hb : b ≠ g) : w'.cell? ⟨b, o, none⟩ = w.cell? ⟨b, o, none⟩ := by
  unfold World.cell?
  rw [h.block b hb]
/-- A box goes, and its block may change. -/
theorem MemR.lose {E : Env} {m : Mm} {w w' : World} (hm : MemR E m w) {j g : Nat} {cs : List V} {t : TypeId} (ho : m.obj j = some (.box cs t)) (hφ : E.φ j = some g) (hs : SameBut w w' g) : Step NoX E m w E (m.del j) w' ∧ MemR E (m.del j) w' := by
  obtain ⟨h1, h2⟩ := hm.del j
  obtain ⟨g', c, e, hh, _, hM⟩ := hm.box j _ _ ho
  rw [hφ] at e; cases e
  have hB : ∀ i b, BlkOf E (m.del j) i b → i ≠ j ∧ BlkOf E m i b := fun i b hb => by
    by_cases hij : i = j
    · subst hij
      rcases hb with ⟨_, _, h, _⟩ | ⟨_, _, _, _, h, _⟩ <;> (change (if i = i then none else _) = _ at h; rw [if_pos rfl] at h; cases h)
    · refine ⟨hij, ?_⟩
      rcases hb with ⟨x, y, h, h'⟩ | ⟨x, y, z, u, h, h'⟩
      · change (if i = j then none else _) = _ at h; rw [if_neg hij] at h; exact .inl ⟨x, y, h, h'⟩
      · change (if i = j then none else _) = _ at h; rw [if_neg hij] at h; exact .inr ⟨x, y, z, u, h, h'⟩
  have hne : ∀ i b, BlkOf E (m.del j) i b → b ≠ g := fun i b hb e => by
    subst e
    obtain ⟨hij, hb⟩ := hB i b hb
    exact hij (hm.inj i j b hb (.inl ⟨_, _, ho, hφ⟩))
  refine ⟨{ h1 with os := hs.os, tape := hs.tape, output := hs.output, size := Nat.le_of_eq hs.size.symm, kept := fun b hb hn => hs.block b fun e => by subst e; exact hn j (.inl ⟨_, _, ho, hφ⟩) }, ⟨?_, h2.fresh, ?_, ?_, h2.inj, ?_⟩⟩
  · intro b o v hv
    have hb : b ≠ g := fun e => by subst e; rw [hM o] at hv; cases hv
    rw [hs.cell hb]; exact h2.stable b o v hv
  · intro i cs' t' hi
    obtain ⟨b, c', h3, h4, h5, h6⟩ := h2.box i cs' t' hi
    exact ⟨b, c', h3, (hs.block b (hne i b (.inl ⟨_, _, hi, h3⟩))).trans h4, h5, h6⟩
  · intro i n e size hi
    obtain ⟨A, cap, h3, h4, h5, h6⟩ := h2.row i n e size hi
    refine ⟨A, cap, h3, h4, h5, fun hn => ?_⟩
    obtain ⟨b, c', h7, h8, h9, h10⟩ := h6 hn
    subst h7
    exact ⟨b, c', rfl, (hs.block b (hne i b (.inr ⟨_, _, _, _, hi, h3, hn⟩))).trans h8, h9, h10⟩
  · intro i cs' t' s' A k b c' hi hl hb hc
    have := hne i b (.inl ⟨_, _, hi, hb⟩)
    exact h2.siz i cs' t' s' A k b c' hi hl hb ((hs.block b this).symm.trans hc)

/-- String of a builder that holds a byte. -/
theorem bs_sfn {G : Ground} {m : Mm} {i j : Nat} {l : List UInt8} (h : Bld m i j l) (h0 : l ≠ []) (hl : l.length ≤ 1000000) : SFn Tryd.prog G 88 [.ptr i 0] m (fun r m' => r = str l ∧ m' = m.del j) := by
  intro E w cargs hG hm hv
  obtain ⟨hoi, hoj, hji⟩ := h
  obtain ⟨x, rfl, hx⟩ := one_arg hv
  rw [VR] at hx
  obtain ⟨b, hφ, rfl⟩ := hx
  obtain ⟨b', c, e, hh, hr, _⟩ := hm.box i _ _ hoi
  rw [hφ] at e; cases e
  obtain ⟨x, y, e2, hx, hy⟩ := VRs_two hr
  rw [VR] at hx
  rw [VR] at hy
  obtain ⟨g, hφj, cap, rfl, hn, hloc⟩ := hy
  obtain ⟨c0, c1⟩ := take_two e2
  obtain ⟨g', cur, e, hhg, hrj, hMj⟩ := hm.box j _ _ hoj
  rw [hφj] at e; cases e
  have hsz := hm.siz j _ _ _ _ cap g cur hoj hloc hφj hhg
  have hcl := VRs_byV_eq hrj
  rw [byV_length] at hcl
  refine (bs_any b g cap c cur l w hh c1 hhg h0 hn (by omega) (by omega) hcl).mono ?_
  rintro e w' ⟨rfl, rfl⟩
  obtain ⟨hs, hm'⟩ := hm.drew.lose (w := w.drew) hoj hφj (freeze_same w.drew g l.length)
  exact ⟨_, _, _, E, rfl, ⟨rfl, rfl⟩, { hs with }, hm', VR_mk rfl⟩
end Go.Proofs.YtbdhjpdjbogggaaDoor
namespace Go.Proofs.YtbdhjpdjbogggaaDoor
open Go.RowKit
attribute [local go_sem] vx_skip vx_ret vx_exit vx_seq vx_block vx_scope vx_cond vx_condT vx_condF gR_nil gR_cons VO.stops beq_self_eq_true Bool.false_beq Bool.true_beq Bool.not_true Bool.not_false Bool.false_eq_true if_false exo VI.on if_true exoOp pureSem List.map_cons List.map_nil St.ev initT Option.map_some putT_get putT_none put_obj put_next M0_next freeze_obj freeze_next List.getD_cons_zero List.getD_cons_succ List.getD_nil V.cells rdable Nat.add_assoc Nat.add_zero Nat.add_left_cancel_iff Nat.add_eq_left Nat.left_eq_add decide_true Bool.true_or ite_self onB vbinI vint vbool List.drop_zero List.take_succ_cons List.drop_succ_cons List.take_zero List.length_cons List.length_nil List.getElem?_cons_zero List.getElem?_cons_succ decide_eq_true_eq true_and and_true Nat.le_refl List.zip_cons_cons List.zip_nil_left V.pubs V.pub Option.bind_some List.all_cons List.all_nil V.one Bool.and_self List.cons_append List.nil_append then_nrm then_ret then_exit inB_nrm inB_ret inB_exit Int.toNat_natCast Int.natCast_nonneg eq_self Nat.zero_add Nat.mul_one
set_option linter.unusedSimpArgs false
set_option linter.unusedVariables false

/-- The builder i holds the bytes l. -/
def BS (m : Mm) (i : Nat) (l : List UInt8) : Prop := (l = [] ∧ Bld0 m i) ∨ (l ≠ [] ∧ ∃ j, i < j ∧ j < m.next ∧ Bld m i j l)
theorem BS.keep {m m' : Mm} {i : Nat} {l : List UInt8} (h : BS m i l) (hi : i < m.next) (hn : m.next ≤ m'.next) (hk : ∀ q, q < m.next → m'.obj q = m.obj q) : BS m' i l := by
  rcases h with ⟨h0, h⟩ | ⟨h0, j, hj, hjn, h1, h2, h3⟩
  · exact .inl ⟨h0, (hk i hi).trans h⟩
  · exact .inr ⟨h0, j, hj, Nat.lt_of_lt_of_le hjn hn, (hk i hi).trans h1, (hk j hjn).trans h2, h3⟩
/-- What a write leaves. -/
def WP (m : Mm) (i : Nat) (l : List UInt8) (n : Nat) (r : V) (m' : Mm) : Prop :=
  r = .tup [vint n, .lit .nilIface] ∧ BS m' i l ∧ m'.next = m.next + 1 ∧ ∀ q cs t, q < m.next → q ≠ i → t ≠ 5 → m.obj q = some (.box cs t) → m'.obj q = some (.box cs t)
theorem write_sfn {G : Ground} {m : Mm} {i : Nat} {l s : List UInt8} (h : BS m i l) (hi : i < m.next) (hs : s ≠ []) (hl : l.length + s.length ≤ 1000000) : SFn Tryd.prog G 87 [.ptr i 0, str s] m (WP m i (l ++ s) s.length) := by
  rcases h with ⟨rfl, h⟩ | ⟨h0, j, hj, hjn, h⟩
  · refine SFn.mono (ws0_sfn h hs (by simpa using hl)) ?_
    rintro r m' ⟨hr, hB, hn, hk⟩
    refine ⟨hr, .inr ⟨by simpa using hs, m.next, hi, by omega, hB⟩, hn, fun q cs t hq h1 ht ho => ?_⟩
    rw [hk q h1 h1 (by omega), ho]
  · refine SFn.mono (ws_sfn h hs hl) ?_
    rintro r m' ⟨hr, hB, hn, hk⟩
    refine ⟨hr, .inr ⟨by simp [hs], m.next, hi, by omega, hB⟩, hn, fun q cs t hq h1 ht ho => ?_⟩
    rw [hk q h1 (fun e => by subst e; rw [h.2.1] at ho; cases ho; exact ht rfl) (by omega), ho]
theorem WP.ex (m : Mm) {i : Nat} (hi : i < m.next) {l : List UInt8} (hl : l ≠ []) (n : Nat) : ∃ r m', WP m i l n r m' := by
  refine ⟨_, (Mm.put ⟨m.obj, m.next + 1⟩ m.next (.box (byV l) 5)).put i (.box [.ptr i 0, .gsl m.next l.length 1] 103), rfl, .inr ⟨hl, m.next, hi, Nat.lt_succ_self _, ⟨if_pos rfl, ?_, by omega⟩⟩, rfl, fun q cs t hq h1 ht ho => ?_⟩
  · show (if m.next = i then _ else (if m.next = m.next then _ else _)) = _
    rw [if_neg (by omega), if_pos rfl]
  · show (if q = i then _ else (if q = m.next then _ else m.obj q)) = _
    rw [if_neg h1, if_neg (by omega), ho]
theorem read_sfn {G : Ground} {m : Mm} {i : Nat} {l : List UInt8} (h : BS m i l) (hl0 : l ≠ []) (hl : l.length ≤ 1000000) : SFn Tryd.prog G 88 [.ptr i 0] m (fun r _ => r = str l) := by
  rcases h with ⟨h0, _⟩ | ⟨h0, j, hj, hjn, h⟩
  · exact absurd h0 hl0
  · exact SFn.mono (bs_sfn h h0 hl) fun r m' h => h.1

def FmC (cs : List Crs) (ss : List Int) (s : St) : Prop := ∃ k : Nat, k ≤ cs.length ∧ s.t 21 = vint k ∧ s.t 20 = vint cs.length ∧ s.t 19 = tCrs cs ∧ s.t 5 = .ptr 3 0 ∧ s.t 1 = .ptr 0 0 ∧ s.m.obj 0 = some (.box [tCrs cs, tInts ss] 39) ∧ 3 < s.m.next ∧ BS s.m 3 (fmtCs cs k)
def FmS (cs : List Crs) (ss : List Int) (s : St) : Prop := ∃ k : Nat, k ≤ ss.length ∧ s.t 58 = vint k ∧ s.t 57 = vint ss.length ∧ s.t 56 = tInts ss ∧ s.t 5 = .ptr 3 0 ∧ 3 < s.m.next ∧ BS s.m 3 (fmtCs cs cs.length ++ [58] ++ fmtSs ss k)
set_option maxHeartbeats 2000000 in
theorem format_fn (cs : List Crs) (ss : List Int) : Fn Tryd.prog Gp 60 [tIns cs ss] (fmtV cs ss) := by
  refine Fn.of_vx0 k_instrument_Format (by simp) (pures_tIns cs ss) ?_
  unfold c_instrument_Format tIns
  have C := up (check_fn cs ss)
  have lC : (lits (cells3 cs)).length = cs.length * 3 := by rw [lits_length, cells3_length]
  have lS : (lits (ss.map (Value.int .i64))).length = ss.length := by rw [lits_length, List.length_map]
  repeat (first | with_reducible refine x_ops ?_ | (simp only [go_sem, Nat.reduceAdd, Nat.reduceEqDiff, Nat.reduceLT, Nat.reduceLeDiff, Nat.reduceMul, Nat.reduceSub, reduceIte, splice, vfill]))
  refine x_call none C (by (simp only [go_sem, reduceIte, Nat.reduceEqDiff, V.norms, V.norm]); try rfl) ?_
  by_cases h0 : chk cs ss = 0
  · obtain ⟨n1, n2⟩ := chk_small h0
    rw [h0, fmtV, if_pos h0]
    repeat (first | with_reducible refine x_ops ?_ | (simp only [go_sem, Nat.reduceAdd, Nat.reduceEqDiff, Nat.reduceLT, Nat.reduceLeDiff, Nat.reduceMul, Nat.reduceSub, reduceIte, splice, vfill, bne_self_eq_false, tCrs]))
    refine x_loop (FmC cs ss) (fun s => cs.length - numOf (s.t 21)) ?_ ?_
    · refine ⟨0, Nat.zero_le _, rfl, rfl, rfl, rfl, rfl, ?_, ?_, .inl ⟨rfl, ?_⟩⟩
      · simp only [put_obj, put_next, M0_next, freeze_obj, freeze_next, Nat.add_zero, Nat.zero_add, Nat.add_assoc, Nat.add_left_cancel_iff, Nat.add_eq_left, Nat.left_eq_add, decide_eq_true_eq, List.nil_append, List.append_nil, Nat.reduceAdd, Nat.reduceEqDiff, Nat.reduceLeDiff, Nat.reduceLT, reduceIte]; try rfl
      · simp only [put_obj, put_next, M0_next, freeze_obj, freeze_next, Nat.add_zero, Nat.zero_add, Nat.add_assoc, Nat.add_left_cancel_iff, Nat.add_eq_left, Nat.left_eq_add, decide_eq_true_eq, List.nil_append, List.append_nil, Nat.reduceAdd, Nat.reduceEqDiff, Nat.reduceLeDiff, Nat.reduceLT, reduceIte]; try omega
      · unfold Bld0; simp only [put_obj, put_next, M0_next, freeze_obj, freeze_next, Nat.add_zero, Nat.zero_add, Nat.add_assoc, Nat.add_left_cancel_iff, Nat.add_eq_left, Nat.left_eq_add, decide_eq_true_eq, List.nil_append, List.append_nil, Nat.reduceAdd, Nat.reduceEqDiff, Nat.reduceLeDiff, Nat.reduceLT, reduceIte]; try rfl
    · rintro s ⟨k, hk, h21, h20, h19, h5, h1, o0, hn, hB⟩
      unfold tCrs tInts at o0
      unfold tCrs at h19
      by_cases hlt : k < cs.length
      · have d3 : decide ((k : Int) < cs.length) = true := by simp; omega
        have hlti : ((k : Nat) : Int) < cs.length := by omega
        obtain ⟨c0, c1, c2⟩ := cells3_at cs k hlt
        have b3 : k * 3 + 3 ≤ cs.length * 3 := by omega
        have g3 : ((lits (cells3 cs)).drop (k * 3)).take 3 = [V.lit (.int .i64 (cs.getD k default).p), V.lit (.int .i64 (cs.getD k default).f), V.lit (.bool (cs.getD k default).o)] := by
          apply List.ext_getElem?
          intro q
          rw [List.getElem?_take]
          rcases q with _ | _ | _ | q
          · rw [if_pos (by decide), List.getElem?_drop, lits_get, Nat.add_zero, c0]; rfl
          · rw [if_pos (by decide), List.getElem?_drop, lits_get, c1]; rfl
          · rw [if_pos (by decide), List.getElem?_drop, lits_get, c2]; rfl
          · rw [if_neg (by omega)]; rfl
        have hp := pitchAt h0 hlt
        have hf := fretsAt h0 hlt
        have hle := fmtCs_le h0 k hk
        have hsn := fmtCs_snoc hlt
        obtain ⟨l, a, hsp, hR, hE, hP⟩ := spell_at hp.1 hp.2
        have S := up (spell_fn (cs.getD k default).p 0)
        rw [spRV, if_neg (by omega), if_neg (by omega), hsp, spVV] at S
        have N := name_fn l a (spO (cs.getD k default).p l a)
        have hnm : nmP (cs.getD k default).p = nmL l a (spO (cs.getD k default).p l a) := by rw [nmP, hsp]
        have hnl := nmP_le hp.1 hp.2
        rw [nameV, if_pos hR, ← hnm] at N
        have D := itoa_fn (cs.getD k default).f (by omega) (by omega)
        have hdl := itoa_le (n := (cs.getD k default).f) (by omega) (by omega)
        rw [fmtC] at hsn
        generalize nmP (cs.getD k default).p = nm at *
        generalize Lib.itoa (cs.getD k default).f = dg at *
        generalize fmtCs cs k = T at *
        have hw1 : IntKind.i64.wrap ((k : Int) + 1) = ((k + 1 : Nat) : Int) := by rw [IntWalk.i64_in _ (by omega)]; omega
        have v1 := vadd (a := nm) (b := [47]) (by simp; omega)
        have v2 := vadd (a := nm ++ [47]) (b := dg) (by simp; omega)
        unfold tSp at S N
        repeat (first | with_reducible refine x_ops ?_ | (simp only [go_sem, Nat.reduceAdd, Nat.reduceEqDiff, Nat.reduceLT, Nat.reduceLeDiff, Nat.reduceMul, Nat.reduceSub, reduceIte, splice, vfill, h1, h5, h19, h20, h21, d3, hlti, lC, b3, g3, hn]))
        refine x_call _ S (by (simp only [go_sem, reduceIte, Nat.reduceEqDiff, V.norms, V.norm]); try rfl) ?_
        repeat (first | with_reducible refine x_ops ?_ | (simp only [go_sem, Nat.reduceAdd, Nat.reduceEqDiff, Nat.reduceLT, Nat.reduceLeDiff, Nat.reduceMul, Nat.reduceSub, reduceIte, splice, vfill, bne_self_eq_false, hn]))
        refine x_call _ N (by (simp only [go_sem, reduceIte, Nat.reduceEqDiff, V.norms, V.norm]); try rfl) ?_
        repeat (first | with_reducible refine x_ops ?_ | (simp only [go_sem, Nat.reduceAdd, Nat.reduceEqDiff, Nat.reduceLT, Nat.reduceLeDiff, Nat.reduceMul, Nat.reduceSub, reduceIte, splice, vfill, bne_self_eq_false, str, v1]))
        refine x_call _ D (by (simp only [go_sem, reduceIte, Nat.reduceEqDiff, V.norms, V.norm]); try rfl) ?_
        repeat (first | with_reducible refine x_ops ?_ | (simp only [go_sem, Nat.reduceAdd, Nat.reduceEqDiff, Nat.reduceLT, Nat.reduceLeDiff, Nat.reduceMul, Nat.reduceSub, reduceIte, splice, vfill, str, v2, h5]))
        refine x_scall (write_sfn (i := 3) (l := T) (s := nm ++ [47] ++ dg) (hB.keep ?k0a ?k1a ?k2a) ?k3a ?k4a ?k5a) (by (simp only [go_sem, reduceIte, Nat.reduceEqDiff, V.norms, V.norm]); (try rw [h5]); try rfl) (WP.ex _ ?k6a ?k7a _) ?_
        case k0a => omega
        case k1a => simp only [put_obj, put_next, M0_next, freeze_obj, freeze_next, Nat.add_zero, Nat.zero_add, Nat.add_assoc, Nat.add_left_cancel_iff, Nat.add_eq_left, Nat.left_eq_add, decide_eq_true_eq, List.nil_append, List.append_nil, Nat.reduceAdd, Nat.reduceEqDiff, Nat.reduceLeDiff, Nat.reduceLT, reduceIte]; omega
        case k2a =>
          intro q hq
          simp only [put_obj, put_next, M0_next, freeze_obj, freeze_next, Nat.add_zero, Nat.zero_add, Nat.add_assoc, Nat.add_left_cancel_iff, Nat.add_eq_left, Nat.left_eq_add, decide_eq_true_eq, List.nil_append, List.append_nil, Nat.reduceAdd, Nat.reduceEqDiff, Nat.reduceLeDiff, Nat.reduceLT, reduceIte]
          repeat rw [if_neg (by omega)]
        case k3a => simp only [put_obj, put_next, M0_next, freeze_obj, freeze_next, Nat.add_zero, Nat.zero_add, Nat.add_assoc, Nat.add_left_cancel_iff, Nat.add_eq_left, Nat.left_eq_add, decide_eq_true_eq, List.nil_append, List.append_nil, Nat.reduceAdd, Nat.reduceEqDiff, Nat.reduceLeDiff, Nat.reduceLT, reduceIte]; omega
        case k4a => simp
        case k5a => simp; omega
        case k6a => simp only [put_obj, put_next, M0_next, freeze_obj, freeze_next, Nat.add_zero, Nat.zero_add, Nat.add_assoc, Nat.add_left_cancel_iff, Nat.add_eq_left, Nat.left_eq_add, decide_eq_true_eq, List.nil_append, List.append_nil, Nat.reduceAdd, Nat.reduceEqDiff, Nat.reduceLeDiff, Nat.reduceLT, reduceIte]; omega
        case k7a => simp
        rintro r m1 ⟨rfl, hB1, hn1, hk1⟩
        dsimp only at hn1
        have p7 : m1.obj (s.m.next + 2) = some (.box [V.lit (.int .i64 (cs.getD k default).p), V.lit (.int .i64 (cs.getD k default).f), V.lit (.bool (cs.getD k default).o)] 59) := by
          refine hk1 _ _ _ ?_ (by omega) (by decide) ?_
          · simp only [put_obj, put_next, M0_next, freeze_obj, freeze_next, Nat.add_zero, Nat.zero_add, Nat.add_assoc, Nat.add_left_cancel_iff, Nat.add_eq_left, Nat.left_eq_add, decide_eq_true_eq, List.nil_append, List.append_nil, Nat.reduceAdd, Nat.reduceEqDiff, Nat.reduceLeDiff, Nat.reduceLT, reduceIte]; omega
          · simp only [put_obj, put_next, M0_next, freeze_obj, freeze_next, Nat.add_zero, Nat.zero_add, Nat.add_assoc, Nat.add_left_cancel_iff, Nat.add_eq_left, Nat.left_eq_add, decide_eq_true_eq, List.nil_append, List.append_nil, Nat.reduceAdd, Nat.reduceEqDiff, Nat.reduceLeDiff, Nat.reduceLT, reduceIte]; repeat rw [if_neg (by omega)]
        have p0 : m1.obj 0 = some (.box [.sl cs.length (lits (cells3 cs)) .no, .sl ss.length (lits (ss.map (Value.int .i64))) .no] 39) := by
          refine hk1 _ _ _ ?_ (by omega) (by decide) ?_
          · simp only [put_obj, put_next, M0_next, freeze_obj, freeze_next, Nat.add_zero, Nat.zero_add, Nat.add_assoc, Nat.add_left_cancel_iff, Nat.add_eq_left, Nat.left_eq_add, decide_eq_true_eq, List.nil_append, List.append_nil, Nat.reduceAdd, Nat.reduceEqDiff, Nat.reduceLeDiff, Nat.reduceLT, reduceIte]; omega
          · simp only [put_obj, put_next, M0_next, freeze_obj, freeze_next, Nat.add_zero, Nat.zero_add, Nat.add_assoc, Nat.add_left_cancel_iff, Nat.add_eq_left, Nat.left_eq_add, decide_eq_true_eq, List.nil_append, List.append_nil, Nat.reduceAdd, Nat.reduceEqDiff, Nat.reduceLeDiff, Nat.reduceLT, reduceIte]; repeat rw [if_neg (by omega)]
            exact o0
        have q2 : s.m.next + 2 < m1.next := by omega
        cases ho : (cs.getD k default).o
        · rw [ho] at p7 hsn
          simp only [oct, Bool.false_eq_true, if_false, List.append_nil] at hsn
          repeat (first | with_reducible refine x_ops ?_ | (simp only [go_sem, Nat.reduceAdd, Nat.reduceEqDiff, Nat.reduceLT, Nat.reduceLeDiff, Nat.reduceMul, Nat.reduceSub, reduceIte, splice, vfill, h5, p7, q2]))
          refine x_scall (write_sfn (i := 3) (l := T ++ (nm ++ [47] ++ dg)) (s := [32]) (hB1.keep ?k0b ?k1b ?k2b) ?k3b ?k4b ?k5b) (by (simp only [go_sem, reduceIte, Nat.reduceEqDiff, V.norms, V.norm]); (try rw [h5]); try rfl) (WP.ex _ ?k6b ?k7b _) ?_
          case k0b => omega
          case k1b => simp only [put_obj, put_next, M0_next, freeze_obj, freeze_next, Nat.add_zero, Nat.zero_add, Nat.add_assoc, Nat.add_left_cancel_iff, Nat.add_eq_left, Nat.left_eq_add, decide_eq_true_eq, List.nil_append, List.append_nil, Nat.reduceAdd, Nat.reduceEqDiff, Nat.reduceLeDiff, Nat.reduceLT, reduceIte]; omega
          case k2b =>
            intro q hq
            simp only [put_obj, put_next, M0_next, freeze_obj, freeze_next, Nat.add_zero, Nat.zero_add, Nat.add_assoc, Nat.add_left_cancel_iff, Nat.add_eq_left, Nat.left_eq_add, decide_eq_true_eq, List.nil_append, List.append_nil, Nat.reduceAdd, Nat.reduceEqDiff, Nat.reduceLeDiff, Nat.reduceLT, reduceIte]
            repeat rw [if_neg (by omega)]
          case k3b => simp only [put_obj, put_next, M0_next, freeze_obj, freeze_next, Nat.add_zero, Nat.zero_add, Nat.add_assoc, Nat.add_left_cancel_iff, Nat.add_eq_left, Nat.left_eq_add, decide_eq_true_eq, List.nil_append, List.append_nil, Nat.reduceAdd, Nat.reduceEqDiff, Nat.reduceLeDiff, Nat.reduceLT, reduceIte]; omega
          case k4b => simp
          case k5b => simp; omega
          case k6b => simp only [put_obj, put_next, M0_next, freeze_obj, freeze_next, Nat.add_zero, Nat.zero_add, Nat.add_assoc, Nat.add_left_cancel_iff, Nat.add_eq_left, Nat.left_eq_add, decide_eq_true_eq, List.nil_append, List.append_nil, Nat.reduceAdd, Nat.reduceEqDiff, Nat.reduceLeDiff, Nat.reduceLT, reduceIte]; omega
          case k7b => simp
          rintro r m2 ⟨rfl, hB2, hn2, hk2⟩
          dsimp only at hn2
          repeat (first | with_reducible refine x_ops ?_ | (simp only [go_sem, Nat.reduceAdd, Nat.reduceEqDiff, Nat.reduceLT, Nat.reduceLeDiff, Nat.reduceMul, Nat.reduceSub, reduceIte, splice, vfill, h21, hw1]))
          refine ⟨⟨k + 1, by omega, rfl, ?_, ?_, ?_, ?_, ?_, ?_, ?_⟩, ?_⟩
          · simp only [put_obj, put_next, M0_next, freeze_obj, freeze_next, Nat.add_zero, Nat.zero_add, Nat.add_assoc, Nat.add_left_cancel_iff, Nat.add_eq_left, Nat.left_eq_add, decide_eq_true_eq, List.nil_append, List.append_nil, Nat.reduceAdd, Nat.reduceEqDiff, Nat.reduceLeDiff, Nat.reduceLT, reduceIte]; exact h20
          · simp only [put_obj, put_next, M0_next, freeze_obj, freeze_next, Nat.add_zero, Nat.zero_add, Nat.add_assoc, Nat.add_left_cancel_iff, Nat.add_eq_left, Nat.left_eq_add, decide_eq_true_eq, List.nil_append, List.append_nil, Nat.reduceAdd, Nat.reduceEqDiff, Nat.reduceLeDiff, Nat.reduceLT, reduceIte]; exact h19
          · simp only [put_obj, put_next, M0_next, freeze_obj, freeze_next, Nat.add_zero, Nat.zero_add, Nat.add_assoc, Nat.add_left_cancel_iff, Nat.add_eq_left, Nat.left_eq_add, decide_eq_true_eq, List.nil_append, List.append_nil, Nat.reduceAdd, Nat.reduceEqDiff, Nat.reduceLeDiff, Nat.reduceLT, reduceIte]; exact h5
          · simp only [put_obj, put_next, M0_next, freeze_obj, freeze_next, Nat.add_zero, Nat.zero_add, Nat.add_assoc, Nat.add_left_cancel_iff, Nat.add_eq_left, Nat.left_eq_add, decide_eq_true_eq, List.nil_append, List.append_nil, Nat.reduceAdd, Nat.reduceEqDiff, Nat.reduceLeDiff, Nat.reduceLT, reduceIte]; exact h1
          · simp only [put_obj, put_next, M0_next, freeze_obj, freeze_next, Nat.add_zero, Nat.zero_add, Nat.add_assoc, Nat.add_left_cancel_iff, Nat.add_eq_left, Nat.left_eq_add, decide_eq_true_eq, List.nil_append, List.append_nil, Nat.reduceAdd, Nat.reduceEqDiff, Nat.reduceLeDiff, Nat.reduceLT, reduceIte]
            exact hk2 _ _ _ (by simp only [put_obj, put_next, M0_next, freeze_obj, freeze_next, Nat.add_zero, Nat.zero_add, Nat.add_assoc, Nat.add_left_cancel_iff, Nat.add_eq_left, Nat.left_eq_add, decide_eq_true_eq, List.nil_append, List.append_nil, Nat.reduceAdd, Nat.reduceEqDiff, Nat.reduceLeDiff, Nat.reduceLT, reduceIte]; omega) (by omega) (by decide) (by simp only [put_obj, put_next, M0_next, freeze_obj, freeze_next, Nat.add_zero, Nat.zero_add, Nat.add_assoc, Nat.add_left_cancel_iff, Nat.add_eq_left, Nat.left_eq_add, decide_eq_true_eq, List.nil_append, List.append_nil, Nat.reduceAdd, Nat.reduceEqDiff, Nat.reduceLeDiff, Nat.reduceLT, reduceIte]; exact p0)
          · simp only [put_obj, put_next, M0_next, freeze_obj, freeze_next, Nat.add_zero, Nat.zero_add, Nat.add_assoc, Nat.add_left_cancel_iff, Nat.add_eq_left, Nat.left_eq_add, decide_eq_true_eq, List.nil_append, List.append_nil, Nat.reduceAdd, Nat.reduceEqDiff, Nat.reduceLeDiff, Nat.reduceLT, reduceIte]; omega
          · rw [hsn]; simp only [List.append_assoc] at hB2 ⊢; exact hB2
          · simp only [numOf, vint, putT_get, reduceIte, Nat.reduceEqDiff, Int.toNat_natCast, h21]; omega
        · rw [ho] at p7 hsn
          simp only [oct, if_true] at hsn
          repeat (first | with_reducible refine x_ops ?_ | (simp only [go_sem, Nat.reduceAdd, Nat.reduceEqDiff, Nat.reduceLT, Nat.reduceLeDiff, Nat.reduceMul, Nat.reduceSub, reduceIte, splice, vfill, h5, p7, q2]))
          refine x_scall (write_sfn (i := 3) (l := T ++ (nm ++ [47] ++ dg)) (s := [43]) (hB1.keep ?k0c ?k1c ?k2c) ?k3c ?k4c ?k5c) (by (simp only [go_sem, reduceIte, Nat.reduceEqDiff, V.norms, V.norm]); (try rw [h5]); try rfl) (WP.ex _ ?k6c ?k7c _) ?_
          case k0c => omega
          case k1c => simp only [put_obj, put_next, M0_next, freeze_obj, freeze_next, Nat.add_zero, Nat.zero_add, Nat.add_assoc, Nat.add_left_cancel_iff, Nat.add_eq_left, Nat.left_eq_add, decide_eq_true_eq, List.nil_append, List.append_nil, Nat.reduceAdd, Nat.reduceEqDiff, Nat.reduceLeDiff, Nat.reduceLT, reduceIte]; omega
          case k2c =>
            intro q hq
            simp only [put_obj, put_next, M0_next, freeze_obj, freeze_next, Nat.add_zero, Nat.zero_add, Nat.add_assoc, Nat.add_left_cancel_iff, Nat.add_eq_left, Nat.left_eq_add, decide_eq_true_eq, List.nil_append, List.append_nil, Nat.reduceAdd, Nat.reduceEqDiff, Nat.reduceLeDiff, Nat.reduceLT, reduceIte]
            repeat rw [if_neg (by omega)]
          case k3c => simp only [put_obj, put_next, M0_next, freeze_obj, freeze_next, Nat.add_zero, Nat.zero_add, Nat.add_assoc, Nat.add_left_cancel_iff, Nat.add_eq_left, Nat.left_eq_add, decide_eq_true_eq, List.nil_append, List.append_nil, Nat.reduceAdd, Nat.reduceEqDiff, Nat.reduceLeDiff, Nat.reduceLT, reduceIte]; omega
          case k4c => simp
          case k5c => simp; omega
          case k6c => simp only [put_obj, put_next, M0_next, freeze_obj, freeze_next, Nat.add_zero, Nat.zero_add, Nat.add_assoc, Nat.add_left_cancel_iff, Nat.add_eq_left, Nat.left_eq_add, decide_eq_true_eq, List.nil_append, List.append_nil, Nat.reduceAdd, Nat.reduceEqDiff, Nat.reduceLeDiff, Nat.reduceLT, reduceIte]; omega
          case k7c => simp
          rintro r m3 ⟨rfl, hB3, hn3, hk3⟩
          dsimp only at hn3
          repeat (first | with_reducible refine x_ops ?_ | (simp only [go_sem, Nat.reduceAdd, Nat.reduceEqDiff, Nat.reduceLT, Nat.reduceLeDiff, Nat.reduceMul, Nat.reduceSub, reduceIte, splice, vfill, h5]))
          refine x_scall (write_sfn (i := 3) (l := T ++ (nm ++ [47] ++ dg) ++ [43]) (s := [32]) (hB3.keep ?k0d ?k1d ?k2d) ?k3d ?k4d ?k5d) (by (simp only [go_sem, reduceIte, Nat.reduceEqDiff, V.norms, V.norm]); (try rw [h5]); try rfl) (WP.ex _ ?k6d ?k7d _) ?_
          case k0d => omega
          case k1d => simp only [put_obj, put_next, M0_next, freeze_obj, freeze_next, Nat.add_zero, Nat.zero_add, Nat.add_assoc, Nat.add_left_cancel_iff, Nat.add_eq_left, Nat.left_eq_add, decide_eq_true_eq, List.nil_append, List.append_nil, Nat.reduceAdd, Nat.reduceEqDiff, Nat.reduceLeDiff, Nat.reduceLT, reduceIte]; omega
          case k2d =>
            intro q hq
            simp only [put_obj, put_next, M0_next, freeze_obj, freeze_next, Nat.add_zero, Nat.zero_add, Nat.add_assoc, Nat.add_left_cancel_iff, Nat.add_eq_left, Nat.left_eq_add, decide_eq_true_eq, List.nil_append, List.append_nil, Nat.reduceAdd, Nat.reduceEqDiff, Nat.reduceLeDiff, Nat.reduceLT, reduceIte]
            repeat rw [if_neg (by omega)]
          case k3d => simp only [put_obj, put_next, M0_next, freeze_obj, freeze_next, Nat.add_zero, Nat.zero_add, Nat.add_assoc, Nat.add_left_cancel_iff, Nat.add_eq_left, Nat.left_eq_add, decide_eq_true_eq, List.nil_append, List.append_nil, Nat.reduceAdd, Nat.reduceEqDiff, Nat.reduceLeDiff, Nat.reduceLT, reduceIte]; omega
          case k4d => simp
          case k5d => simp; omega
          case k6d => simp only [put_obj, put_next, M0_next, freeze_obj, freeze_next, Nat.add_zero, Nat.zero_add, Nat.add_assoc, Nat.add_left_cancel_iff, Nat.add_eq_left, Nat.left_eq_add, decide_eq_true_eq, List.nil_append, List.append_nil, Nat.reduceAdd, Nat.reduceEqDiff, Nat.reduceLeDiff, Nat.reduceLT, reduceIte]; omega
          case k7d => simp
          rintro r m2 ⟨rfl, hB2, hn2, hk2⟩
          dsimp only at hn2
          repeat (first | with_reducible refine x_ops ?_ | (simp only [go_sem, Nat.reduceAdd, Nat.reduceEqDiff, Nat.reduceLT, Nat.reduceLeDiff, Nat.reduceMul, Nat.reduceSub, reduceIte, splice, vfill, h21, hw1]))
          refine ⟨⟨k + 1, by omega, rfl, ?_, ?_, ?_, ?_, ?_, ?_, ?_⟩, ?_⟩
          · simp only [put_obj, put_next, M0_next, freeze_obj, freeze_next, Nat.add_zero, Nat.zero_add, Nat.add_assoc, Nat.add_left_cancel_iff, Nat.add_eq_left, Nat.left_eq_add, decide_eq_true_eq, List.nil_append, List.append_nil, Nat.reduceAdd, Nat.reduceEqDiff, Nat.reduceLeDiff, Nat.reduceLT, reduceIte]; exact h20
          · simp only [put_obj, put_next, M0_next, freeze_obj, freeze_next, Nat.add_zero, Nat.zero_add, Nat.add_assoc, Nat.add_left_cancel_iff, Nat.add_eq_left, Nat.left_eq_add, decide_eq_true_eq, List.nil_append, List.append_nil, Nat.reduceAdd, Nat.reduceEqDiff, Nat.reduceLeDiff, Nat.reduceLT, reduceIte]; exact h19
          · simp only [put_obj, put_next, M0_next, freeze_obj, freeze_next, Nat.add_zero, Nat.zero_add, Nat.add_assoc, Nat.add_left_cancel_iff, Nat.add_eq_left, Nat.left_eq_add, decide_eq_true_eq, List.nil_append, List.append_nil, Nat.reduceAdd, Nat.reduceEqDiff, Nat.reduceLeDiff, Nat.reduceLT, reduceIte]; exact h5
          · simp only [put_obj, put_next, M0_next, freeze_obj, freeze_next, Nat.add_zero, Nat.zero_add, Nat.add_assoc, Nat.add_left_cancel_iff, Nat.add_eq_left, Nat.left_eq_add, decide_eq_true_eq, List.nil_append, List.append_nil, Nat.reduceAdd, Nat.reduceEqDiff, Nat.reduceLeDiff, Nat.reduceLT, reduceIte]; exact h1
          · simp only [put_obj, put_next, M0_next, freeze_obj, freeze_next, Nat.add_zero, Nat.zero_add, Nat.add_assoc, Nat.add_left_cancel_iff, Nat.add_eq_left, Nat.left_eq_add, decide_eq_true_eq, List.nil_append, List.append_nil, Nat.reduceAdd, Nat.reduceEqDiff, Nat.reduceLeDiff, Nat.reduceLT, reduceIte]
            exact hk2 _ _ _ (by simp only [put_obj, put_next, M0_next, freeze_obj, freeze_next, Nat.add_zero, Nat.zero_add, Nat.add_assoc, Nat.add_left_cancel_iff, Nat.add_eq_left, Nat.left_eq_add, decide_eq_true_eq, List.nil_append, List.append_nil, Nat.reduceAdd, Nat.reduceEqDiff, Nat.reduceLeDiff, Nat.reduceLT, reduceIte]; omega) (by omega) (by decide) (by simp only [put_obj, put_next, M0_next, freeze_obj, freeze_next, Nat.add_zero, Nat.zero_add, Nat.add_assoc, Nat.add_left_cancel_iff, Nat.add_eq_left, Nat.left_eq_add, decide_eq_true_eq, List.nil_append, List.append_nil, Nat.reduceAdd, Nat.reduceEqDiff, Nat.reduceLeDiff, Nat.reduceLT, reduceIte]; exact hk3 _ _ _ (by simp only [put_obj, put_next, M0_next, freeze_obj, freeze_next, Nat.add_zero, Nat.zero_add, Nat.add_assoc, Nat.add_left_cancel_iff, Nat.add_eq_left, Nat.left_eq_add, decide_eq_true_eq, List.nil_append, List.append_nil, Nat.reduceAdd, Nat.reduceEqDiff, Nat.reduceLeDiff, Nat.reduceLT, reduceIte]; omega) (by omega) (by decide) (by simp only [put_obj, put_next, M0_next, freeze_obj, freeze_next, Nat.add_zero, Nat.zero_add, Nat.add_assoc, Nat.add_left_cancel_iff, Nat.add_eq_left, Nat.left_eq_add, decide_eq_true_eq, List.nil_append, List.append_nil, Nat.reduceAdd, Nat.reduceEqDiff, Nat.reduceLeDiff, Nat.reduceLT, reduceIte]; exact p0))
          · simp only [put_obj, put_next, M0_next, freeze_obj, freeze_next, Nat.add_zero, Nat.zero_add, Nat.add_assoc, Nat.add_left_cancel_iff, Nat.add_eq_left, Nat.left_eq_add, decide_eq_true_eq, List.nil_append, List.append_nil, Nat.reduceAdd, Nat.reduceEqDiff, Nat.reduceLeDiff, Nat.reduceLT, reduceIte]; omega
          · rw [hsn]; simp only [List.append_assoc] at hB2 ⊢; exact hB2
          · simp only [numOf, vint, putT_get, reduceIte, Nat.reduceEqDiff, Int.toNat_natCast, h21]; omega
      · have hke : k = cs.length := by omega
        subst hke
        have d3 : decide (((cs.length : Nat) : Int) < cs.length) = false := by simp
        have hlc := fmtCs_le h0 cs.length (Nat.le_refl _)
        repeat (first | with_reducible refine x_ops ?_ | (simp only [go_sem, Nat.reduceAdd, Nat.reduceEqDiff, Nat.reduceLT, Nat.reduceLeDiff, Nat.reduceMul, Nat.reduceSub, reduceIte, splice, vfill, h5, h20, h21, d3, hn]))
        refine x_scall (write_sfn (i := 3) (l := fmtCs cs cs.length) (s := [58]) (hB.keep ?k0p ?k1p ?k2p) ?k3p ?k4p ?k5p) (by (simp only [go_sem, reduceIte, Nat.reduceEqDiff, V.norms, V.norm]); (try rw [h5]); try rfl) (WP.ex _ ?k6p ?k7p _) ?_
        case k0p => omega
        case k1p => simp only [put_obj, put_next, M0_next, freeze_obj, freeze_next, Nat.add_zero, Nat.zero_add, Nat.add_assoc, Nat.add_left_cancel_iff, Nat.add_eq_left, Nat.left_eq_add, decide_eq_true_eq, List.nil_append, List.append_nil, Nat.reduceAdd, Nat.reduceEqDiff, Nat.reduceLeDiff, Nat.reduceLT, reduceIte]; omega
        case k2p =>
          intro q hq
          simp only [put_obj, put_next, M0_next, freeze_obj, freeze_next, Nat.add_zero, Nat.zero_add, Nat.add_assoc, Nat.add_left_cancel_iff, Nat.add_eq_left, Nat.left_eq_add, decide_eq_true_eq, List.nil_append, List.append_nil, Nat.reduceAdd, Nat.reduceEqDiff, Nat.reduceLeDiff, Nat.reduceLT, reduceIte]
          repeat rw [if_neg (by omega)]
        case k3p => simp only [put_obj, put_next, M0_next, freeze_obj, freeze_next, Nat.add_zero, Nat.zero_add, Nat.add_assoc, Nat.add_left_cancel_iff, Nat.add_eq_left, Nat.left_eq_add, decide_eq_true_eq, List.nil_append, List.append_nil, Nat.reduceAdd, Nat.reduceEqDiff, Nat.reduceLeDiff, Nat.reduceLT, reduceIte]; omega
        case k4p => simp
        case k5p => simp; omega
        case k6p => simp only [put_obj, put_next, M0_next, freeze_obj, freeze_next, Nat.add_zero, Nat.zero_add, Nat.add_assoc, Nat.add_left_cancel_iff, Nat.add_eq_left, Nat.left_eq_add, decide_eq_true_eq, List.nil_append, List.append_nil, Nat.reduceAdd, Nat.reduceEqDiff, Nat.reduceLeDiff, Nat.reduceLT, reduceIte]; omega
        case k7p => simp
        rintro r m1 ⟨rfl, hB1, hn1, hk1⟩
        dsimp only at hn1
        have p0 : m1.obj 0 = some (.box [.sl cs.length (lits (cells3 cs)) .no, .sl ss.length (lits (ss.map (Value.int .i64))) .no] 39) := by
          refine hk1 _ _ _ ?_ (by omega) (by decide) ?_
          · simp only [put_obj, put_next, M0_next, freeze_obj, freeze_next, Nat.add_zero, Nat.zero_add, Nat.add_assoc, Nat.add_left_cancel_iff, Nat.add_eq_left, Nat.left_eq_add, decide_eq_true_eq, List.nil_append, List.append_nil, Nat.reduceAdd, Nat.reduceEqDiff, Nat.reduceLeDiff, Nat.reduceLT, reduceIte]; omega
          · simp only [put_obj, put_next, M0_next, freeze_obj, freeze_next, Nat.add_zero, Nat.zero_add, Nat.add_assoc, Nat.add_left_cancel_iff, Nat.add_eq_left, Nat.left_eq_add, decide_eq_true_eq, List.nil_append, List.append_nil, Nat.reduceAdd, Nat.reduceEqDiff, Nat.reduceLeDiff, Nat.reduceLT, reduceIte]; exact o0
        have q0 : 0 < m1.next := by omega
        repeat (first | with_reducible refine x_ops ?_ | (simp only [go_sem, Nat.reduceAdd, Nat.reduceEqDiff, Nat.reduceLT, Nat.reduceLeDiff, Nat.reduceMul, Nat.reduceSub, reduceIte, splice, vfill, h1, p0, q0]))
        refine x_loop (FmS cs ss) (fun s => ss.length - numOf (s.t 58)) ?_ ?_
        · refine ⟨0, Nat.zero_le _, rfl, rfl, rfl, ?_, ?_, ?_⟩
          · simp only [put_obj, put_next, M0_next, freeze_obj, freeze_next, Nat.add_zero, Nat.zero_add, Nat.add_assoc, Nat.add_left_cancel_iff, Nat.add_eq_left, Nat.left_eq_add, decide_eq_true_eq, List.nil_append, List.append_nil, Nat.reduceAdd, Nat.reduceEqDiff, Nat.reduceLeDiff, Nat.reduceLT, reduceIte]; exact h5
          · simp only [put_obj, put_next, M0_next, freeze_obj, freeze_next, Nat.add_zero, Nat.zero_add, Nat.add_assoc, Nat.add_left_cancel_iff, Nat.add_eq_left, Nat.left_eq_add, decide_eq_true_eq, List.nil_append, List.append_nil, Nat.reduceAdd, Nat.reduceEqDiff, Nat.reduceLeDiff, Nat.reduceLT, reduceIte]; omega
          · rw [show fmtSs ss 0 = [] by simp [fmtSs], List.append_nil]
            refine hB1.keep ?_ ?_ ?_
            · omega
            · simp only [put_obj, put_next, M0_next, freeze_obj, freeze_next, Nat.add_zero, Nat.zero_add, Nat.add_assoc, Nat.add_left_cancel_iff, Nat.add_eq_left, Nat.left_eq_add, decide_eq_true_eq, List.nil_append, List.append_nil, Nat.reduceAdd, Nat.reduceEqDiff, Nat.reduceLeDiff, Nat.reduceLT, reduceIte]; omega
            · intro q hq
              simp only [put_obj, put_next, M0_next, freeze_obj, freeze_next, Nat.add_zero, Nat.zero_add, Nat.add_assoc, Nat.add_left_cancel_iff, Nat.add_eq_left, Nat.left_eq_add, decide_eq_true_eq, List.nil_append, List.append_nil, Nat.reduceAdd, Nat.reduceEqDiff, Nat.reduceLeDiff, Nat.reduceLT, reduceIte]
        · rintro s ⟨k, hk, h58, h57, h56, h5, hn, hB⟩
          unfold tInts at h56
          by_cases hlt : k < ss.length
          · have d3 : decide ((k : Int) < ss.length) = true := by simp; omega
            have hlti : ((k : Nat) : Int) < ss.length := by omega
            have g0 : (lits (ss.map (Value.int .i64)))[k]? = some (V.lit (.int .i64 (ss.getD k 0))) := by
              rw [lits_get, List.getElem?_map, List.getD_eq_getElem?_getD, List.getElem?_eq_getElem hlt]; rfl
            have hp := step_at h0 hlt
            have hle := fmtSs_le h0 k hk
            have hsn := fmtSs_snoc hlt
            have D := itoa_fn (ss.getD k 0) (by omega) (by omega)
            have hdl := itoa_le (n := ss.getD k 0) (by omega) (by omega)
            rw [fmtS] at hsn
            generalize Lib.itoa (ss.getD k 0) = dg at *
            have hw1 : IntKind.i64.wrap ((k : Int) + 1) = ((k + 1 : Nat) : Int) := by rw [IntWalk.i64_in _ (by omega)]; omega
            have v2 := vadd (a := [32]) (b := dg) (by simp; omega)
            have T0 : (fmtCs cs cs.length ++ [58] ++ fmtSs ss k).length ≤ 2000 := by simp; omega
            generalize hT : fmtCs cs cs.length ++ [58] ++ fmtSs ss k = T at *
            repeat (first | with_reducible refine x_ops ?_ | (simp only [go_sem, Nat.reduceAdd, Nat.reduceEqDiff, Nat.reduceLT, Nat.reduceLeDiff, Nat.reduceMul, Nat.reduceSub, reduceIte, splice, vfill, h5, h56, h57, h58, d3, hlti, lS, g0, hn, Nat.mul_one]))
            refine x_call _ D (by (simp only [go_sem, reduceIte, Nat.reduceEqDiff, V.norms, V.norm]); try rfl) ?_
            repeat (first | with_reducible refine x_ops ?_ | (simp only [go_sem, Nat.reduceAdd, Nat.reduceEqDiff, Nat.reduceLT, Nat.reduceLeDiff, Nat.reduceMul, Nat.reduceSub, reduceIte, splice, vfill, str, v2, h5]))
            refine x_scall (write_sfn (i := 3) (l := T) (s := [32] ++ dg) (hB.keep ?k0q ?k1q ?k2q) ?k3q ?k4q ?k5q) (by (simp only [go_sem, reduceIte, Nat.reduceEqDiff, V.norms, V.norm]); (try rw [h5]); try rfl) (WP.ex _ ?k6q ?k7q _) ?_
            case k0q => omega
            case k1q => simp only [put_obj, put_next, M0_next, freeze_obj, freeze_next, Nat.add_zero, Nat.zero_add, Nat.add_assoc, Nat.add_left_cancel_iff, Nat.add_eq_left, Nat.left_eq_add, decide_eq_true_eq, List.nil_append, List.append_nil, Nat.reduceAdd, Nat.reduceEqDiff, Nat.reduceLeDiff, Nat.reduceLT, reduceIte]; omega
            case k2q =>
              intro q hq
              simp only [put_obj, put_next, M0_next, freeze_obj, freeze_next, Nat.add_zero, Nat.zero_add, Nat.add_assoc, Nat.add_left_cancel_iff, Nat.add_eq_left, Nat.left_eq_add, decide_eq_true_eq, List.nil_append, List.append_nil, Nat.reduceAdd, Nat.reduceEqDiff, Nat.reduceLeDiff, Nat.reduceLT, reduceIte]
              repeat rw [if_neg (by omega)]
            case k3q => simp only [put_obj, put_next, M0_next, freeze_obj, freeze_next, Nat.add_zero, Nat.zero_add, Nat.add_assoc, Nat.add_left_cancel_iff, Nat.add_eq_left, Nat.left_eq_add, decide_eq_true_eq, List.nil_append, List.append_nil, Nat.reduceAdd, Nat.reduceEqDiff, Nat.reduceLeDiff, Nat.reduceLT, reduceIte]; omega
            case k4q => simp
            case k5q => simp; omega
            case k6q => simp only [put_obj, put_next, M0_next, freeze_obj, freeze_next, Nat.add_zero, Nat.zero_add, Nat.add_assoc, Nat.add_left_cancel_iff, Nat.add_eq_left, Nat.left_eq_add, decide_eq_true_eq, List.nil_append, List.append_nil, Nat.reduceAdd, Nat.reduceEqDiff, Nat.reduceLeDiff, Nat.reduceLT, reduceIte]; omega
            case k7q => simp
            rintro r m2 ⟨rfl, hB2, hn2, hk2⟩
            dsimp only at hn2
            repeat (first | with_reducible refine x_ops ?_ | (simp only [go_sem, Nat.reduceAdd, Nat.reduceEqDiff, Nat.reduceLT, Nat.reduceLeDiff, Nat.reduceMul, Nat.reduceSub, reduceIte, splice, vfill, h58, hw1]))
            refine ⟨⟨k + 1, by omega, rfl, ?_, ?_, ?_, ?_, ?_⟩, ?_⟩
            · simp only [put_obj, put_next, M0_next, freeze_obj, freeze_next, Nat.add_zero, Nat.zero_add, Nat.add_assoc, Nat.add_left_cancel_iff, Nat.add_eq_left, Nat.left_eq_add, decide_eq_true_eq, List.nil_append, List.append_nil, Nat.reduceAdd, Nat.reduceEqDiff, Nat.reduceLeDiff, Nat.reduceLT, reduceIte]; exact h57
            · simp only [put_obj, put_next, M0_next, freeze_obj, freeze_next, Nat.add_zero, Nat.zero_add, Nat.add_assoc, Nat.add_left_cancel_iff, Nat.add_eq_left, Nat.left_eq_add, decide_eq_true_eq, List.nil_append, List.append_nil, Nat.reduceAdd, Nat.reduceEqDiff, Nat.reduceLeDiff, Nat.reduceLT, reduceIte]; exact h56
            · simp only [put_obj, put_next, M0_next, freeze_obj, freeze_next, Nat.add_zero, Nat.zero_add, Nat.add_assoc, Nat.add_left_cancel_iff, Nat.add_eq_left, Nat.left_eq_add, decide_eq_true_eq, List.nil_append, List.append_nil, Nat.reduceAdd, Nat.reduceEqDiff, Nat.reduceLeDiff, Nat.reduceLT, reduceIte]; exact h5
            · simp only [put_obj, put_next, M0_next, freeze_obj, freeze_next, Nat.add_zero, Nat.zero_add, Nat.add_assoc, Nat.add_left_cancel_iff, Nat.add_eq_left, Nat.left_eq_add, decide_eq_true_eq, List.nil_append, List.append_nil, Nat.reduceAdd, Nat.reduceEqDiff, Nat.reduceLeDiff, Nat.reduceLT, reduceIte]; omega
            · rw [hsn, ← List.append_assoc, hT]; exact hB2
            · simp only [numOf, vint, putT_get, reduceIte, Nat.reduceEqDiff, Int.toNat_natCast, h58]; omega
          · have hke : k = ss.length := by omega
            subst hke
            have d3 : decide (((ss.length : Nat) : Int) < ss.length) = false := by simp
            have hlS := fmtSs_le h0 ss.length (Nat.le_refl _)
            repeat (first | with_reducible refine x_ops ?_ | (simp only [go_sem, Nat.reduceAdd, Nat.reduceEqDiff, Nat.reduceLT, Nat.reduceLeDiff, Nat.reduceMul, Nat.reduceSub, reduceIte, splice, vfill, h5, h56, h57, h58, d3, hn]))
            refine x_scall (read_sfn (i := 3) (l := fmtT cs ss) (hB.keep ?k0z ?k1z ?k2z) ?k3z ?k4z) (by (simp only [go_sem, reduceIte, Nat.reduceEqDiff, V.norms, V.norm]); (try rw [h5]); try rfl) ⟨_, s.m, rfl⟩ ?_
            case k0z => omega
            case k1z => simp only [put_obj, put_next, M0_next, freeze_obj, freeze_next, Nat.add_zero, Nat.zero_add, Nat.add_assoc, Nat.add_left_cancel_iff, Nat.add_eq_left, Nat.left_eq_add, decide_eq_true_eq, List.nil_append, List.append_nil, Nat.reduceAdd, Nat.reduceEqDiff, Nat.reduceLeDiff, Nat.reduceLT, reduceIte]; omega
            case k2z =>
              intro q hq
              simp only [put_obj, put_next, M0_next, freeze_obj, freeze_next, Nat.add_zero, Nat.zero_add, Nat.add_assoc, Nat.add_left_cancel_iff, Nat.add_eq_left, Nat.left_eq_add, decide_eq_true_eq, List.nil_append, List.append_nil, Nat.reduceAdd, Nat.reduceEqDiff, Nat.reduceLeDiff, Nat.reduceLT, reduceIte]
            case k3z => simp [fmtT]
            case k4z => rw [fmtT]; simp; omega
            rintro r m2 rfl
            repeat (first | with_reducible refine x_ops ?_ | (simp only [go_sem, Nat.reduceAdd, Nat.reduceEqDiff, Nat.reduceLT, Nat.reduceLeDiff, Nat.reduceMul, Nat.reduceSub, reduceIte, splice, vfill]))
            exact finV_ret (r' := _) (by (simp only [go_sem, Nat.reduceAdd, Nat.reduceEqDiff, Nat.reduceLT, Nat.reduceLeDiff, Nat.reduceMul, Nat.reduceSub, reduceIte, resV, resAll, resOne, oneOr]); try rfl) (vw_strp _ _)
  · have e1 : (chk cs ss != 0) = true := by simpa using h0
    rw [fmtV, if_neg h0]
    repeat (first | with_reducible refine x_ops ?_ | (simp only [go_sem, Nat.reduceAdd, Nat.reduceEqDiff, Nat.reduceLT, Nat.reduceLeDiff, Nat.reduceMul, Nat.reduceSub, reduceIte, splice, vfill, e1]))
    exact finV_ret (r' := _) (by (simp only [go_sem, Nat.reduceAdd, Nat.reduceEqDiff, Nat.reduceLT, Nat.reduceLeDiff, Nat.reduceMul, Nat.reduceSub, reduceIte, resV, resAll, resOne, oneOr]); try rfl) (vw_strp _ _)
end Go.Proofs.YtbdhjpdjbogggaaDoor
namespace Go.Proofs.YtbdhjpdjbogggaaDoor
open Go.RowKit

/-- As InsRet; and its rows are new. -/
def InsNew (w : World) (cs : List Crs) (ss : List Int) (er : Int) (e : Ending) (w' : World) : Prop :=
  ∃ (A C : Option Addr) (nc cc ns kc : Nat), e = .returned (.tuple #[.agg #[.slice A nc cc, .slice C ns kc], .int .i64 er]) ∧ Arr w' w'.heap.size 3 A nc (cells3 cs) ∧
    Arr w' w'.heap.size 1 C ns (ss.map (Value.int .i64)) ∧ Below w.heap.size w w' ∧ (∀ a, A = some a → w.heap.size ≤ a.block) ∧ (∀ a, C = some a → w.heap.size ≤ a.block) ∧ nc ≤ cc ∧ ns ≤ kc
theorem own_cap {w : World} {base : Nat} {e : TypeId} {size n cap : Nat} {A : Option Addr} {xs : List Value} (h : w.ownsRow base e size (.slice A n cap) n xs) : n ≤ cap := by
  rcases h.2 with ⟨hv, h0⟩ | ⟨g, c, cur, hv, _, _, h1, _⟩
  · omega
  · cases hv; exact h1
theorem own_new {w : World} {base K : Nat} {e : TypeId} {size n cap : Nat} {A : Option Addr} {xs : List Value} (h : w.ownsRow base e size (.slice A n cap) n xs) (hK : K ≤ base) : ∀ a, A = some a → K ≤ a.block := by
  rintro a rfl
  rcases h.2 with ⟨hv, _⟩ | ⟨g, c, cur, hv, hg, _⟩
  · cases hv
  · cases hv; exact Nat.le_trans hK hg

set_option maxHeartbeats 8000000 in
set_option maxRecDepth 10000 in
theorem parse_mainN (s : ByteArray) (ws : List ByteArray) (k nw : Nat) (w : World) (hg : Gnd w) (hnw : Hid (nw = ws.length)) (hk : k < nw) (hbig : nw ≤ 4294967296)
    (HW : Hid (∀ x ∈ ws, x.size < 4294967281))
    (HS : Hid (∀ W, Below w.heap.size w W → Calls Tryd.prog 70 #[.string s, .string ⟨#[32]⟩] W fun e1 w1 => e1 = .returned (.slice (some ⟨W.heap.size, 0, none⟩) nw nw) ∧ w1 = W.alloc (.cells (ws.map Value.string).toArray 9)))
    (HI : Hid (∀ W b, (∀ j, j < nw → W.cell? ⟨b, j, none⟩ = some (.string (ws.getD j ByteArray.empty))) → Calls Tryd.prog 71 #[.slice (some ⟨b, 0, none⟩) nw nw, .string ⟨#[58]⟩] W fun e1 w1 => e1 = .returned (.int .i64 k) ∧ w1 = W))
    (wl : List (List UInt8)) (hwl : Hid (wl = ws.map (·.data.toList)))
    (cs : List Crs) (ss : List Int) (er : Int) (hr : Hid (er = if cErr (wl.take k) ≠ 0 then cErr (wl.take k) else if (wl.drop (k + 1)).all numOk = false then 4 else chk (cVal (wl.take k)) (nVal (wl.drop (k + 1)))))
    (hcs : Hid (cs = if er = 0 then cVal (wl.take k) else [])) (hss : Hid (ss = if er = 0 then nVal (wl.drop (k + 1)) else [])) :
    Calls Tryd.prog 32 #[.string s] w (InsNew w cs ss er) := by
  obtain ⟨i0, hi0, hz0, hz1, hz2⟩ := info_parts info_crs
  obtain ⟨i1, hi1, hy0, hy1, hy2⟩ := info_parts info_int
  have HII := Lib.hid hi1
  have HI0 := Lib.hid hi0
  clear hi0 hi1
  have hsz := hg.sz
  have HG := Lib.hid hg
  clear hg
  have hkz : decide ((k : Int) < 0) = false := by simp
  go_enter Tryd.func32, Tryd.ntmps32
  go_wp2_with fail
  refine (HS.out _ ?_).mono ?_
  · (repeat (first | exact Below.refl _ _ | assumption | refine below_drewN ?_ _ | refine Below.drew ?_ | refine Below.alloc ?_ (by first | exact Nat.le_refl _ | omega | (simp; done) | (simp; omega)) _ | refine Below.setCell ?_ (by first | exact Nat.le_refl _ | (simp; done) | (simp; omega)) _))
  rintro e1 w1 ⟨rfl, rfl⟩
  go_wp2_with fail
  refine (HI.out _ _ ?_).mono ?_
  · intro j hj
    have hbk := Blk.new (w.alloc (.cells #[.slice none 0 0, .slice none 0 0] 39)) 9 (ws.map Value.string).toArray
    rw [World.size_alloc] at hbk
    rw [hbk.cell]
    have : j < ws.length := by have := hnw.out; omega
    simp [List.getElem?_map, List.getElem?_eq_getElem this, List.getD_eq_getElem?_getD]
  rintro e1 w1 ⟨rfl, rfl⟩
  go_wp2_with fail
  obtain ⟨W1, hW1⟩ : ∃ W1, W1 = ((w.alloc (Obj.cells #[Value.slice none 0 0, Value.slice none 0 0] 39)).alloc (Obj.cells (List.map Value.string ws).toArray 9)).alloc (Obj.cells #[Value.slice none 0 0, Value.slice none 0 0] 39) := ⟨_, rfl⟩
  have hres1 : Blk W1 w.heap.size 39 #[Value.slice none 0 0, Value.slice none 0 0] := by
    rw [hW1]; exact ((Blk.new w _ _).alloc _).alloc _
  have hwds1 : Blk W1 (w.heap.size + 1) 9 (List.map Value.string ws).toArray := by
    rw [hW1]
    have h := (Blk.new (w.alloc (.cells #[.slice none 0 0, .slice none 0 0] 39)) 9 (ws.map Value.string).toArray).alloc (Obj.cells #[Value.slice none 0 0, Value.slice none 0 0] 39)
    rw [World.size_alloc] at h
    exact h
  have hin1 : Blk W1 (w.heap.size + 1 + 1) 39 #[Value.slice none 0 0, Value.slice none 0 0] := by
    rw [hW1]
    have h := Blk.new ((w.alloc (.cells #[.slice none 0 0, .slice none 0 0] 39)).alloc (Obj.cells (List.map Value.string ws).toArray 9)) 39 #[Value.slice none 0 0, Value.slice none 0 0]
    simp only [World.size_alloc] at h
    exact h
  have hsz1 : W1.heap.size = w.heap.size + 1 + 1 + 1 := by rw [hW1]; simp
  have hb1 : Below w.heap.size w W1 := by rw [hW1]; repeat (first | exact Below.refl _ _ | assumption | refine below_drewN ?_ _ | refine Below.drew ?_ | refine Below.alloc ?_ (by first | exact Nat.le_refl _ | omega | (simp; done) | (simp; omega)) _ | refine Below.setCell ?_ (by first | exact Nat.le_refl _ | (simp; done) | (simp; omega)) _)
  rw [← hW1]
  have HSZ := Lib.hid hsz1
  clear hW1 hsz1
  have hwl' : wl.length = nw := by rw [hwl.out, List.length_map, hnw.out]
  have HWL := Lib.hid hwl'
  clear hwl'
  have hat : ∀ j, wl.getD j [] = (ws.getD j ByteArray.empty).data.toList := by
    intro j
    rw [hwl.out, List.getD_eq_getElem?_getD, List.getD_eq_getElem?_getD, List.getElem?_map]
    cases ws[j]? <;> rfl
  have HAT := Lib.hid hat
  clear hat
  go_loopw [27] (fun i wr => ∃ (j : Nat) (A : Option Addr) (c : Nat), j ≤ k ∧ i = .int .i64 j ∧ Blk wr (w.heap.size + 1 + 1) 39 #[.slice A j c, .slice none 0 0] ∧
      wr.ownsRow (w.heap.size + 3) 59 3 (.slice A j c) j (cells3 (cVal (wl.take j))) ∧ Below (w.heap.size + 1 + 1) W1 wr ∧ w.heap.size + 3 ≤ wr.heap.size ∧ Hid (cErr (wl.take k) = cErr ((wl.take k).drop j)))
    (fun i _ => k - (intOf i).toNat)
  case atStart => exact ⟨0, none, 0, Nat.zero_le _, rfl, hin1, World.ownsRow_nil _ _ _ _, Below.refl _ _, by have := HSZ.out; omega, rfl⟩
  case round =>
    obtain ⟨j, A, c, hj, rfl, hblk, hown, hb, hsz2, hce⟩ := hrel
    have hbw : Below w.heap.size w wr := hb1.trans (hb.mono (by omega))
    have c0 := hblk.cell 0
    have c1 := hblk.cell 1
    have fr := hblk.frozen 0
    have fr1 := hblk.frozen 1
    have r0 := (hres1.below hb (by omega)).cell 0
    have r1 := (hres1.below hb (by omega)).cell 1
    have fr2 := (hres1.below hb (by omega)).frozen 0
    have fr3 := (hres1.below hb (by omega)).frozen 1
    simp at c0 c1 r0 r1
    by_cases hlt : j < k
    · obtain ⟨x, hx⟩ : ∃ x, x = ws.getD j ByteArray.empty := ⟨_, rfl⟩
      have hjl : j < ws.length := by have := hnw.out; omega
      have hcx : wr.cell? ⟨w.heap.size + 1, j, none⟩ = some (.string x) := by
        rw [(hwds1.below hb (by omega)).cell, hx]
        simp [List.getElem?_map, List.getElem?_eq_getElem hjl, List.getD_eq_getElem?_getD]
      have hxs : x.size < 4294967281 := by
        refine HW.out x ?_
        rw [hx, List.getD_eq_getElem?_getD, List.getElem?_eq_getElem hjl]
        exact List.getElem_mem hjl
      have hwx : (wl.take k).drop j = x.data.toList :: (wl.take k).drop (j + 1) := by
        have hl : j < (wl.take k).length := by rw [List.length_take, HWL.out]; omega
        rw [drop_cons _ _ hl]
        congr 1
        rw [hx, ← HAT.out, List.getD_eq_getElem?_getD, List.getD_eq_getElem?_getD, List.getElem?_take_of_lt hlt]
        rfl
      have htk : wl.take (j + 1) = wl.take j ++ [x.data.toList] := by
        have hl : j < wl.length := by rw [HWL.out]; omega
        rw [List.take_succ_eq_append_getElem hl]
        congr 2
        have := HAT.out j
        rw [List.getD_eq_getElem?_getD, List.getElem?_eq_getElem hl] at this
        rw [hx]; exact this
      obtain ⟨⟨p, f, o⟩, hcrs⟩ : ∃ cc : Crs, cc = (crsOf x.data.toList).2 := ⟨_, rfl⟩
      obtain ⟨ce, hcerr⟩ : ∃ ce : Int, ce = (crsOf x.data.toList).1 := ⟨_, rfl⟩
      have hcall : ∀ W, Below wr.heap.size wr W → Calls Tryd.prog 72 #[.string x] W fun e1 w1 => e1 = .returned (.tuple #[.agg #[.int .i64 p, .int .i64 f, .bool o], .int .i64 ce]) ∧ Below wr.heap.size wr w1 := fun W hW =>
        (course_any x W (HG.out.up (hbw.trans (hW.mono (by omega)))) hxs).mono fun e1 w1 ⟨he, hw⟩ => ⟨by rw [he, ← hcrs, ← hcerr], hW.trans (hw.mono hW.size)⟩
      have HCALL := Lib.hid hcall
      have HX := Lib.hid hx
      have HWX := Lib.hid hwx
      have HTK := Lib.hid htk
      have HCRS := Lib.hid hcrs
      have HCERR := Lib.hid hcerr
      clear hcall hx hwx htk hcrs hcerr hwds1 hin1
      by_cases hce0 : ce = 0
      · subst hce0
        go_wp2_with (first
          | (go_at_call 72; refine (HCALL.out _ ?_).mono ?_; (repeat (first | exact Below.refl _ _ | assumption | refine below_drewN ?_ _ | refine Below.drew ?_ | refine Below.alloc ?_ (by first | exact Nat.le_refl _ | omega | (simp; done) | (simp; omega)) _ | refine Below.setCell ?_ (by first | exact Nat.le_refl _ | (simp; done) | (simp; omega)) _)); rintro e1 w1 ⟨rfl, hb3⟩; have hz3 := hb3.size; have l2 : w.heap.size + 1 + 1 < w1.heap.size := (by omega); have l0 : w.heap.size < w1.heap.size := (by omega); have hbk1 := hblk.below hb3 (by omega); have hrs1 := hres1.below (hb.trans (hb3.mono (by omega))) (by omega); have d0 := hbk1.cell 0; have d1 := hbk1.cell 1; have e0 := hrs1.cell 0; have e1 := hrs1.cell 1; have f0 := hbk1.frozen 0; have f1 := hbk1.frozen 1; have f2 := hrs1.frozen 0; have f3 := hrs1.frozen 1; simp at d0 d1 e0 e1)
          | (at_builtin; refine wpList_append_lies _ rfl _ _ 36 rfl (w.heap.size + 3) 59 i0 _ 3 24 Tryd.underlying36 HI0.out hz0 hz1 hz2 rfl (by decide) (.slice A j c) j (cells3 (cVal (wl.take j))) (by rfl) (((own_up hown hb3 (Nat.le_refl _)).alloc _).alloc _) ⟨w1.heap.size + 1, 0, none⟩ 1 1 [.int .i64 p, .int .i64 f, .bool o] (by rfl) rfl (news2 _ _ _ _) (by intro u hu; simp at hu; rcases hu with rfl | rfl | rfl <;> rfl) (by decide) (by unfold maxLen; omega) (by omega) (by simp; omega) (w1.heap.size + 1 + 1) (by simp) ?_; intro g cap w2 hown2 hgrow hat hlt; have hbk2 := Blk.grown ((hbk1.alloc _).alloc _) hgrow (own_ne hown (b := w.heap.size + 1 + 1) (by omega)); have g0 := hbk2.cell 0; have g1 := hbk2.frozen 0; simp at g0))
        have hbA : Below (w.heap.size + 1 + 1) W1 w1 := hb.trans (hb3.mono (by omega))
        go_roundw
        case rel =>
          refine ⟨j + 1, some ⟨g, 0, none⟩, cap, by omega, by go_num, ?_, ?_, ?_, ?_, ?_⟩
          · have := hbk2.set_ 0 (Value.slice (some ⟨g, 0, none⟩) (j + 1) cap); simpa using this
          · rw [HTK.out, cVal_snoc, ← HCRS.out, cells3_snoc]
            exact own_far hown2 (p := ⟨w.heap.size + 1 + 1, 0, none⟩) (by show w.heap.size + 1 + 1 < w.heap.size + 3; omega) _
          · exact (((hbA.alloc (by omega) _).alloc (by simp; omega) _).grown hgrow (by simp; omega) (fun k' hk' => by have := (hown.lt k' hk').1; omega)).setCell (p := ⟨w.heap.size + 1 + 1, 0, none⟩) (Nat.le_refl _) _
          · have := hgrow.size; simp at this ⊢; omega
          · show cErr _ = _
            rw [hce.out, HWX.out, cErr, if_pos HCERR.out.symm]
        case measure => simp [intOf]; omega
      · have hce1 : (ce == 0) = false := by simpa using hce0
        have hfin : er = ce ∧ cs = [] ∧ ss = [] := by
          have h1 : cErr (wl.take k) = ce := by rw [hce.out, HWX.out, cErr, ← HCERR.out, if_neg hce0]
          have h2 : er = ce := by rw [hr.out, h1, if_pos hce0]
          exact ⟨h2, by rw [hcs.out, if_neg (by rw [h2]; exact hce0)], by rw [hss.out, if_neg (by rw [h2]; exact hce0)]⟩
        have HF := Lib.hid hfin
        clear hfin hce0
        go_wp2_with (first
          | (go_at_call 72; refine (HCALL.out _ ?_).mono ?_; (repeat (first | exact Below.refl _ _ | assumption | refine below_drewN ?_ _ | refine Below.drew ?_ | refine Below.alloc ?_ (by first | exact Nat.le_refl _ | omega | (simp; done) | (simp; omega)) _ | refine Below.setCell ?_ (by first | exact Nat.le_refl _ | (simp; done) | (simp; omega)) _)); rintro e1 w1 ⟨rfl, hb3⟩; have hz3 := hb3.size; have l2 : w.heap.size + 1 + 1 < w1.heap.size := (by omega); have l0 : w.heap.size < w1.heap.size := (by omega); have hbk1 := hblk.below hb3 (by omega); have hrs1 := hres1.below (hb.trans (hb3.mono (by omega))) (by omega); have d0 := hbk1.cell 0; have d1 := hbk1.cell 1; have e0 := hrs1.cell 0; have e1 := hrs1.cell 1; have f0 := hbk1.frozen 0; have f1 := hbk1.frozen 1; have f2 := hrs1.frozen 0; have f3 := hrs1.frozen 1; simp at d0 d1 e0 e1))
        have hbB := hbw.trans (hb3.mono (by omega))
        refine bodyPost_ret (v := .tuple #[.agg #[.slice none 0 0, .slice none 0 0], .int .i64 ce]) (by simp only [results, Tryd.results32]; go_simp) rfl ?_
        obtain ⟨q1, q2, q3⟩ := HF.out
        subst q1 q2 q3
        exact ⟨none, none, 0, 0, 0, 0, rfl, Arr.nil_ _ _, Arr.nil_ _ _, (by repeat (first | exact Below.refl _ _ | assumption | refine below_drewN ?_ _ | refine Below.drew ?_ | refine Below.alloc ?_ (by first | exact Nat.le_refl _ | omega | (simp; done) | (simp; omega)) _ | refine Below.setCell ?_ (by first | exact Nat.le_refl _ | (simp; done) | (simp; omega)) _)), (fun _ h => nomatch h), (fun _ h => nomatch h), Nat.le_refl _, Nat.le_refl _⟩
    · obtain rfl : j = k := by omega
      have hce0 : cErr (wl.take j) = 0 := by rw [hce.out, List.drop_of_length_le (by rw [List.length_take, HWL.out]; omega)]; rfl
      have HC0 := Lib.hid hce0
      clear hce0 hlt
      obtain ⟨wo, rfl⟩ : ∃ wo : World, wo = wr := ⟨_, rfl⟩
      by_cases hlast : nw = j + 1
      · subst hlast
        go_wp2_with fail
        go_loopw [52] (fun i w2 => ∃ (m : Nat) (C : Option Addr) (c2 : Nat), m ≤ 0 ∧ i = .int .i64 m ∧ Blk w2 (w.heap.size + 1 + 1) 39 #[.slice A j c, .slice C m c2] ∧
          w2.ownsRow wo.heap.size 3 1 (.slice C m c2) m ((nVal ((wl.drop (j + 1)).take m)).map (Value.int .i64)) ∧ wo.grownBy w2 (some (w.heap.size + 1 + 1)) ∧ Hid ((wl.drop (j + 1)).all numOk = ((wl.drop (j + 1)).drop m).all numOk))
        (fun i _ => 0 - (intOf i).toNat)
        case atStart => exact ⟨0, none, 0, Nat.zero_le _, rfl, hblk, World.ownsRow_nil _ _ _ _, World.grownBy.refl _ _, rfl⟩
        case round =>
          obtain ⟨m, C, c2, hm, rfl, hblk2, hown2, hgr, hal⟩ := hrel
          obtain rfl : m = 0 := by omega
          have hall : (wl.drop (j + 1)).all numOk = true := by rw [hal.out, List.drop_of_length_le (by rw [List.length_drop, HWL.out]; omega)]; rfl
          have htk : (wl.drop (j + 1)).take 0 = wl.drop (j + 1) := List.take_of_length_le (by rw [List.length_drop, HWL.out]; omega)
          rw [htk] at hown2
          have here : er = chk (cVal (wl.take j)) (nVal (wl.drop (j + 1))) := by rw [hr.out, HC0.out, hall]; rfl
          have hownA := hown.kept hgr (.inr (fun e => own_ne hown (b := w.heap.size + 1 + 1) (by omega) e.symm))
          have hA2 : Arr wr wr.heap.size 3 A j (cells3 (cVal (wl.take j))) := Arr.of_own hownA
          have hC2 : Arr wr wr.heap.size 1 C 0 ((nVal (wl.drop (j + 1))).map (Value.int .i64)) := Arr.of_own hown2
          have hbw2 : Below w.heap.size w wr := hbw.trans ⟨hgr.os, hgr.tape, hgr.output, hgr.size, fun q hq => hgr.block q (by omega) (fun e => by injection e; omega)⟩
          have hzz : w.heap.size + 3 ≤ wr.heap.size := by have := hgr.size; omega
          have c0' := hblk2.cell 0
          have c1' := hblk2.cell 1
          simp at c0' c1'
          have rr := Blk.grown (hres1.below hb (by omega)) hgr (by intro e; injection e; omega)
          have hcall : ∀ W, Below wr.heap.size wr W → Calls Tryd.prog 30 #[.agg #[.slice A j c, .slice C 0 c2]] W fun e1 w1 => e1 = .returned (.int .i64 er) ∧ Below wr.heap.size wr w1 := fun W hW =>
            (check_any A C j c 0 c2 _ _ W (hA2.up hW) (hC2.up hW)).mono fun e1 w1 ⟨he, hw⟩ => ⟨by rw [he, ← here], hW.trans (hw.mono hW.size)⟩
          have HCALL := Lib.hid hcall
          have HERE := Lib.hid here
          clear hcall here hres1 hwds1 hin1 hall htk
          have harm : ∀ w1, Below wr.heap.size wr w1 → (w1.cell? ⟨w.heap.size + 1 + 1, 0, none⟩ = some (.slice A j c) ∧ w1.cell? ⟨w.heap.size + 1 + 1, 1, none⟩ = some (.slice C 0 c2)) ∧ (w1.cell? ⟨w.heap.size, 0, none⟩ = some (.slice none 0 0) ∧ w1.cell? ⟨w.heap.size, 1, none⟩ = some (.slice none 0 0) ∧ w1.frozen? ⟨w.heap.size, 0, none⟩ = false ∧ w1.frozen? ⟨w.heap.size, 1, none⟩ = false) := by
            intro w1 hb3
            have k1 := hblk2.below hb3 (by omega)
            have k2 := rr.below hb3 (by omega)
            have d0 := k1.cell 0
            have d1 := k1.cell 1
            have e0 := k2.cell 0
            have e1 := k2.cell 1
            simp at d0 d1 e0 e1
            exact ⟨⟨d0, d1⟩, e0, e1, k2.frozen 0, k2.frozen 1⟩
          have HARM := Lib.hid harm
          clear harm
          by_cases her : er = 0
          · have hcs1 : cs = cVal (wl.take j) := by rw [hcs.out, if_pos her]
            have hss1 : ss = nVal (wl.drop (j + 1)) := by rw [hss.out, if_pos her]
            rw [← hcs1] at hownA
            rw [← hss1] at hown2
            clear hcs1 hss1 hA2 hC2
            subst her
            go_wp2_with (go_at_call 30; refine (HCALL.out _ ?_).mono ?_; (repeat (first | exact Below.refl _ _ | assumption | refine below_drewN ?_ _ | refine Below.drew ?_ | refine Below.alloc ?_ (by first | exact Nat.le_refl _ | omega | (simp; done) | (simp; omega)) _ | refine Below.setCell ?_ (by first | exact Nat.le_refl _ | (simp; done) | (simp; omega)) _)); rintro e1 w1 ⟨rfl, hb3⟩; obtain ⟨⟨d0, d1⟩, d2, d3, d4, d5⟩ := HARM.out w1 hb3)
            refine bodyPost_ret (v := .tuple #[.agg #[.slice A j c, .slice C 0 c2], .int .i64 0]) (by simp only [results, Tryd.results32]; go_simp) rfl ?_
            have hA3 := own_up hownA hb3 (Nat.le_refl _)
            have hC3 := own_up hown2 hb3 (Nat.le_refl _)
            exact ⟨A, C, j, c, 0, c2, rfl, Arr.of_own (own_far (own_far hA3 (p := ⟨w.heap.size, 0, none⟩) (by show w.heap.size < _; omega) _) (p := ⟨w.heap.size, 1, none⟩) (by show w.heap.size < _; omega) _),
              Arr.of_own (own_far (own_far hC3 (p := ⟨w.heap.size, 0, none⟩) (by show w.heap.size < _; omega) _) (p := ⟨w.heap.size, 1, none⟩) (by show w.heap.size < _; omega) _),
              ((hbw2.trans (hb3.mono (by omega))).setCell (p := ⟨w.heap.size, 0, none⟩) (Nat.le_refl _) _).setCell (p := ⟨w.heap.size, 1, none⟩) (Nat.le_refl _) _, own_new hA3 (by omega), own_new hC3 (by omega), own_cap hA3, own_cap hC3⟩
          · have her1 : (er == 0) = false := by simpa using her
            have hcs1 : cs = [] := by rw [hcs.out, if_neg her]
            have hss1 : ss = [] := by rw [hss.out, if_neg her]
            have HCS := Lib.hid hcs1
            have HSS := Lib.hid hss1
            clear hcs1 hss1 her
            go_wp2_with (go_at_call 30; refine (HCALL.out _ ?_).mono ?_; (repeat (first | exact Below.refl _ _ | assumption | refine below_drewN ?_ _ | refine Below.drew ?_ | refine Below.alloc ?_ (by first | exact Nat.le_refl _ | omega | (simp; done) | (simp; omega)) _ | refine Below.setCell ?_ (by first | exact Nat.le_refl _ | (simp; done) | (simp; omega)) _)); rintro e1 w1 ⟨rfl, hb3⟩; obtain ⟨⟨d0, d1⟩, d2, d3, d4, d5⟩ := HARM.out w1 hb3)
            have hbB := hbw2.trans (hb3.mono (by omega))
            refine bodyPost_ret (v := .tuple #[.agg #[.slice none 0 0, .slice none 0 0], .int .i64 er]) (by simp only [results, Tryd.results32]; go_simp) rfl ?_
            rw [HCS.out, HSS.out]
            exact ⟨none, none, 0, 0, 0, 0, rfl, Arr.nil_ _ _, Arr.nil_ _ _, (by repeat (first | exact Below.refl _ _ | assumption | refine below_drewN ?_ _ | refine Below.drew ?_ | refine Below.alloc ?_ (by first | exact Nat.le_refl _ | omega | (simp; done) | (simp; omega)) _ | refine Below.setCell ?_ (by first | exact Nat.le_refl _ | (simp; done) | (simp; omega)) _)), (fun _ h => nomatch h), (fun _ h => nomatch h), Nat.le_refl _, Nat.le_refl _⟩
      · have hl1 : j + 1 < nw := by omega
        have hl2 : ¬ nw = j + 1 := hlast
        go_wp2_with fail
        go_loopw [52] (fun i w2 => ∃ (m : Nat) (C : Option Addr) (c2 : Nat), m ≤ (nw - (j + 1)) ∧ i = .int .i64 m ∧ Blk w2 (w.heap.size + 1 + 1) 39 #[.slice A j c, .slice C m c2] ∧
          w2.ownsRow wo.heap.size 3 1 (.slice C m c2) m ((nVal ((wl.drop (j + 1)).take m)).map (Value.int .i64)) ∧ wo.grownBy w2 (some (w.heap.size + 1 + 1)) ∧ Hid ((wl.drop (j + 1)).all numOk = ((wl.drop (j + 1)).drop m).all numOk))
        (fun i _ => (nw - (j + 1)) - (intOf i).toNat)
        case atStart => exact ⟨0, none, 0, Nat.zero_le _, rfl, hblk, World.ownsRow_nil _ _ _ _, World.grownBy.refl _ _, rfl⟩
        case round =>
          obtain ⟨m, C, c2, hm, rfl, hblk2, hown2, hgr, hal⟩ := hrel
          by_cases hlt : m < nw - (j + 1)
          · have hjl : j + 1 + m < ws.length := by have := hnw.out; omega
            obtain ⟨x, hx⟩ : ∃ x, x = ws.getD (j + 1 + m) ByteArray.empty := ⟨_, rfl⟩
            have hcx : wr.cell? ⟨w.heap.size + 1, j + 1 + m, none⟩ = some (.string x) := by
              rw [(Blk.grown (hwds1.below hb (by omega)) hgr (by intro e; injection e; omega)).cell, hx]
              simp [List.getElem?_map, List.getElem?_eq_getElem hjl, List.getD_eq_getElem?_getD]
            have hdl : m < (wl.drop (j + 1)).length := by rw [List.length_drop, HWL.out]; omega
            have hdd : (wl.drop (j + 1)).getD m [] = x.data.toList := by
              have h := HAT.out (j + 1 + m)
              rw [← hx] at h
              rw [← h, List.getD_eq_getElem?_getD, List.getD_eq_getElem?_getD, List.getElem?_drop]
            have hwx : (wl.drop (j + 1)).drop m = x.data.toList :: (wl.drop (j + 1)).drop (m + 1) := by
              rw [drop_cons _ _ hdl]
              congr 1
            have htk : (wl.drop (j + 1)).take (m + 1) = (wl.drop (j + 1)).take m ++ [x.data.toList] := by
              rw [List.take_succ_eq_append_getElem hdl]
              congr 2
              rw [← hdd, List.getD_eq_getElem?_getD, List.getElem?_eq_getElem hdl]; rfl
            have hzz : w.heap.size + 3 ≤ wr.heap.size := by have := hgr.size; omega
            have hzo : wo.heap.size ≤ wr.heap.size := hgr.size
            have hbw2 : Below w.heap.size w wr := hbw.trans ⟨hgr.os, hgr.tape, hgr.output, hgr.size, fun q hq => hgr.block q (by omega) (fun e => by injection e; omega)⟩
            have rr := Blk.grown (hres1.below hb (by omega)) hgr (by intro e; injection e; omega)
            have s0 := hblk2.cell 0
            have s1 := hblk2.cell 1
            have s2 := rr.cell 0
            have s3 := rr.cell 1
            have s4 := hblk2.frozen 0
            have s5 := hblk2.frozen 1
            have s6 := rr.frozen 0
            have s7 := rr.frozen 1
            simp at s0 s1 s2 s3
            obtain ⟨nv, hnv⟩ : ∃ nv, nv = numN x.data.toList := ⟨_, rfl⟩
            obtain ⟨nb, hnb⟩ : ∃ nb, nb = numOk x.data.toList := ⟨_, rfl⟩
            have hcall : ∀ W, Calls Tryd.prog 73 #[.string x] W fun e1 w1 => e1 = .returned (.tuple #[.int .i64 nv, .bool nb]) ∧ W = w1 := fun W =>
              (number_any x W).mono fun e1 w1 ⟨he, hw⟩ => ⟨by rw [he, hnv, hnb], hw⟩
            have HCALL := Lib.hid hcall
            have HWX := Lib.hid hwx
            have HTK := Lib.hid htk
            have HNV := Lib.hid hnv
            have HNB := Lib.hid hnb
            clear hcall hx hdd hwx htk hnv hnb c0 c1 r0 r1 fr fr1 fr2 fr3
            cases nb
            · have h4 : er = 4 := by
                have h5 : (wl.drop (j + 1)).all numOk = false := by rw [hal.out, HWX.out, List.all_cons, ← HNB.out]; rfl
                rw [hr.out, HC0.out, h5]; rfl
              have hcs1 : cs = [] := by rw [hcs.out, if_neg (by rw [h4]; decide)]
              have hss1 : ss = [] := by rw [hss.out, if_neg (by rw [h4]; decide)]
              have HCS := Lib.hid hcs1
              have HSS := Lib.hid hss1
              have H4 := Lib.hid h4
              clear hcs1 hss1 h4
              go_wp2_with (go_at_call 73; refine (HCALL.out _).mono ?_; rintro e1 w1 ⟨rfl, rfl⟩)
              refine bodyPost_ret (v := .tuple #[.agg #[.slice none 0 0, .slice none 0 0], .int .i64 4]) (by simp only [results, Tryd.results32]; go_simp) rfl ?_
              rw [HCS.out, HSS.out, H4.out]
              exact ⟨none, none, 0, 0, 0, 0, rfl, Arr.nil_ _ _, Arr.nil_ _ _, (by repeat (first | exact Below.refl _ _ | assumption | refine below_drewN ?_ _ | refine Below.drew ?_ | refine Below.alloc ?_ (by first | exact Nat.le_refl _ | omega | (simp; done) | (simp; omega)) _ | refine Below.setCell ?_ (by first | exact Nat.le_refl _ | (simp; done) | (simp; omega)) _)), (fun _ h => nomatch h), (fun _ h => nomatch h), Nat.le_refl _, Nat.le_refl _⟩
            · go_wp2_with (first
                | (go_at_call 73; refine (HCALL.out _).mono ?_; rintro e1 w1 ⟨rfl, rfl⟩)
                | (at_builtin; refine wpList_append_lies _ rfl _ _ 37 rfl wo.heap.size 3 i1 _ 1 8 Tryd.underlying37 HII.out hy0 hy1 hy2 rfl (by decide) (.slice C m c2) m ((nVal ((wl.drop (j + 1)).take m)).map (Value.int .i64)) (by rfl) (hown2.alloc _) ⟨wr.heap.size, 0, none⟩ 1 1 [.int .i64 nv] (by rfl) rfl (news1 _ _ _) (by intro u hu; simp at hu; subst hu; rfl) (by decide) (by unfold maxLen; omega) (by omega) (by simp; omega) (wr.heap.size + 1) (by simp) ?_; intro g cap w2 hown3 hgrow hat hlt3; have hbk3 := Blk.grown (hblk2.alloc _) hgrow (own_ne hown2 (b := w.heap.size + 1 + 1) (by omega)); have g0 := hbk3.cell 1; have g1 := hbk3.frozen 1; simp at g0))
              go_roundw
              case rel =>
                refine ⟨m + 1, some ⟨g, 0, none⟩, cap, by omega, by go_num, ?_, ?_, ?_, ?_⟩
                · have := hbk3.set_ 1 (Value.slice (some ⟨g, 0, none⟩) (m + 1) cap); simpa using this
                · rw [HTK.out, nVal_snoc, ← HNV.out, List.map_append]
                  exact own_far hown3 (p := ⟨w.heap.size + 1 + 1, 1, none⟩) (by show w.heap.size + 1 + 1 < wo.heap.size; omega) _
                · have k1 : wo.grownBy w2 (some (w.heap.size + 1 + 1)) := grow_own hgr hgrow (fun q hq => (hown2.lt q hq).1)
                  exact grow_set k1 _ _
                · show (wl.drop (j + 1)).all numOk = _
                  rw [hal.out, HWX.out, List.all_cons, ← HNB.out, Bool.true_and]
              case measure => simp [intOf]; omega
          have hmm : m = nw - (j + 1) := by omega
          subst hmm
          have hall : (wl.drop (j + 1)).all numOk = true := by rw [hal.out, List.drop_of_length_le (by rw [List.length_drop, HWL.out]; omega)]; rfl
          have htk : (wl.drop (j + 1)).take (nw - (j + 1)) = wl.drop (j + 1) := List.take_of_length_le (by rw [List.length_drop, HWL.out]; omega)
          rw [htk] at hown2
          have here : er = chk (cVal (wl.take j)) (nVal (wl.drop (j + 1))) := by rw [hr.out, HC0.out, hall]; rfl
          have hownA := hown.kept hgr (.inr (fun e => own_ne hown (b := w.heap.size + 1 + 1) (by omega) e.symm))
          have hA2 : Arr wr wr.heap.size 3 A j (cells3 (cVal (wl.take j))) := Arr.of_own hownA
          have hC2 : Arr wr wr.heap.size 1 C (nw - (j + 1)) ((nVal (wl.drop (j + 1))).map (Value.int .i64)) := Arr.of_own hown2
          have hbw2 : Below w.heap.size w wr := hbw.trans ⟨hgr.os, hgr.tape, hgr.output, hgr.size, fun q hq => hgr.block q (by omega) (fun e => by injection e; omega)⟩
          have hzz : w.heap.size + 3 ≤ wr.heap.size := by have := hgr.size; omega
          have c0' := hblk2.cell 0
          have c1' := hblk2.cell 1
          simp at c0' c1'
          have rr := Blk.grown (hres1.below hb (by omega)) hgr (by intro e; injection e; omega)
          have hcall : ∀ W, Below wr.heap.size wr W → Calls Tryd.prog 30 #[.agg #[.slice A j c, .slice C (nw - (j + 1)) c2]] W fun e1 w1 => e1 = .returned (.int .i64 er) ∧ Below wr.heap.size wr w1 := fun W hW =>
            (check_any A C j c (nw - (j + 1)) c2 _ _ W (hA2.up hW) (hC2.up hW)).mono fun e1 w1 ⟨he, hw⟩ => ⟨by rw [he, ← here], hW.trans (hw.mono hW.size)⟩
          have HCALL := Lib.hid hcall
          have HERE := Lib.hid here
          clear hcall here hres1 hwds1 hin1 hall htk
          have harm : ∀ w1, Below wr.heap.size wr w1 → (w1.cell? ⟨w.heap.size + 1 + 1, 0, none⟩ = some (.slice A j c) ∧ w1.cell? ⟨w.heap.size + 1 + 1, 1, none⟩ = some (.slice C (nw - (j + 1)) c2)) ∧ (w1.cell? ⟨w.heap.size, 0, none⟩ = some (.slice none 0 0) ∧ w1.cell? ⟨w.heap.size, 1, none⟩ = some (.slice none 0 0) ∧ w1.frozen? ⟨w.heap.size, 0, none⟩ = false ∧ w1.frozen? ⟨w.heap.size, 1, none⟩ = false) := by
            intro w1 hb3
            have k1 := hblk2.below hb3 (by omega)
            have k2 := rr.below hb3 (by omega)
            have d0 := k1.cell 0
            have d1 := k1.cell 1
            have e0 := k2.cell 0
            have e1 := k2.cell 1
            simp at d0 d1 e0 e1
            exact ⟨⟨d0, d1⟩, e0, e1, k2.frozen 0, k2.frozen 1⟩
          have HARM := Lib.hid harm
          clear harm
          by_cases her : er = 0
          · have hcs1 : cs = cVal (wl.take j) := by rw [hcs.out, if_pos her]
            have hss1 : ss = nVal (wl.drop (j + 1)) := by rw [hss.out, if_pos her]
            rw [← hcs1] at hownA
            rw [← hss1] at hown2
            clear hcs1 hss1 hA2 hC2
            subst her
            go_wp2_with (go_at_call 30; refine (HCALL.out _ ?_).mono ?_; (repeat (first | exact Below.refl _ _ | assumption | refine below_drewN ?_ _ | refine Below.drew ?_ | refine Below.alloc ?_ (by first | exact Nat.le_refl _ | omega | (simp; done) | (simp; omega)) _ | refine Below.setCell ?_ (by first | exact Nat.le_refl _ | (simp; done) | (simp; omega)) _)); rintro e1 w1 ⟨rfl, hb3⟩; obtain ⟨⟨d0, d1⟩, d2, d3, d4, d5⟩ := HARM.out w1 hb3)
            refine bodyPost_ret (v := .tuple #[.agg #[.slice A j c, .slice C (nw - (j + 1)) c2], .int .i64 0]) (by simp only [results, Tryd.results32]; go_simp) rfl ?_
            have hA3 := own_up hownA hb3 (Nat.le_refl _)
            have hC3 := own_up hown2 hb3 (Nat.le_refl _)
            exact ⟨A, C, j, c, (nw - (j + 1)), c2, rfl, Arr.of_own (own_far (own_far hA3 (p := ⟨w.heap.size, 0, none⟩) (by show w.heap.size < _; omega) _) (p := ⟨w.heap.size, 1, none⟩) (by show w.heap.size < _; omega) _),
              Arr.of_own (own_far (own_far hC3 (p := ⟨w.heap.size, 0, none⟩) (by show w.heap.size < _; omega) _) (p := ⟨w.heap.size, 1, none⟩) (by show w.heap.size < _; omega) _),
              ((hbw2.trans (hb3.mono (by omega))).setCell (p := ⟨w.heap.size, 0, none⟩) (Nat.le_refl _) _).setCell (p := ⟨w.heap.size, 1, none⟩) (Nat.le_refl _) _, own_new hA3 (by omega), own_new hC3 (by omega), own_cap hA3, own_cap hC3⟩
          · have her1 : (er == 0) = false := by simpa using her
            have hcs1 : cs = [] := by rw [hcs.out, if_neg her]
            have hss1 : ss = [] := by rw [hss.out, if_neg her]
            have HCS := Lib.hid hcs1
            have HSS := Lib.hid hss1
            clear hcs1 hss1 her
            go_wp2_with (go_at_call 30; refine (HCALL.out _ ?_).mono ?_; (repeat (first | exact Below.refl _ _ | assumption | refine below_drewN ?_ _ | refine Below.drew ?_ | refine Below.alloc ?_ (by first | exact Nat.le_refl _ | omega | (simp; done) | (simp; omega)) _ | refine Below.setCell ?_ (by first | exact Nat.le_refl _ | (simp; done) | (simp; omega)) _)); rintro e1 w1 ⟨rfl, hb3⟩; obtain ⟨⟨d0, d1⟩, d2, d3, d4, d5⟩ := HARM.out w1 hb3)
            have hbB := hbw2.trans (hb3.mono (by omega))
            refine bodyPost_ret (v := .tuple #[.agg #[.slice none 0 0, .slice none 0 0], .int .i64 er]) (by simp only [results, Tryd.results32]; go_simp) rfl ?_
            rw [HCS.out, HSS.out]
            exact ⟨none, none, 0, 0, 0, 0, rfl, Arr.nil_ _ _, Arr.nil_ _ _, (by repeat (first | exact Below.refl _ _ | assumption | refine below_drewN ?_ _ | refine Below.drew ?_ | refine Below.alloc ?_ (by first | exact Nat.le_refl _ | omega | (simp; done) | (simp; omega)) _ | refine Below.setCell ?_ (by first | exact Nat.le_refl _ | (simp; done) | (simp; omega)) _)), (fun _ h => nomatch h), (fun _ h => nomatch h), Nat.le_refl _, Nat.le_refl _⟩

set_option maxHeartbeats 2000000 in
theorem parse_noneN (s : ByteArray) (ws : List ByteArray) (nw : Nat) (w : World)
    (HS : Hid (∀ W, Below w.heap.size w W → Calls Tryd.prog 70 #[.string s, .string ⟨#[32]⟩] W fun e1 w1 => e1 = .returned (.slice (some ⟨W.heap.size, 0, none⟩) nw nw) ∧ w1 = W.alloc (.cells (ws.map Value.string).toArray 9)))
    (HI : Hid (∀ W b, (∀ j, j < nw → W.cell? ⟨b, j, none⟩ = some (.string (ws.getD j ByteArray.empty))) → Calls Tryd.prog 71 #[.slice (some ⟨b, 0, none⟩) nw nw, .string ⟨#[58]⟩] W fun e1 w1 => e1 = .returned (.int .i64 (-1)) ∧ w1 = W)) (hnw : Hid (nw = ws.length)) :
    Calls Tryd.prog 32 #[.string s] w (InsNew w [] [] 4) := by
  go_enter Tryd.func32, Tryd.ntmps32
  go_wp2_with fail
  refine (HS.out _ ?_).mono ?_
  · (repeat (first | exact Below.refl _ _ | assumption | refine below_drewN ?_ _ | refine Below.drew ?_ | refine Below.alloc ?_ (by first | exact Nat.le_refl _ | omega | (simp; done) | (simp; omega)) _ | refine Below.setCell ?_ (by first | exact Nat.le_refl _ | (simp; done) | (simp; omega)) _))
  rintro e1 w1 ⟨rfl, rfl⟩
  go_wp2_with fail
  refine (HI.out _ _ ?_).mono ?_
  · intro j hj
    have hbk := Blk.new (w.alloc (.cells #[.slice none 0 0, .slice none 0 0] 39)) 9 (ws.map Value.string).toArray
    rw [World.size_alloc] at hbk
    rw [hbk.cell]
    have : j < ws.length := by have := hnw.out; omega
    simp [List.getElem?_map, List.getElem?_eq_getElem this, List.getD_eq_getElem?_getD]
  rintro e1 w1 ⟨rfl, rfl⟩
  go_wp2
  refine bodyPost_ret (v := .tuple #[.agg #[.slice none 0 0, .slice none 0 0], .int .i64 4]) (by simp only [results, Tryd.results32]; go_simp) rfl ?_
  exact ⟨none, none, 0, 0, 0, 0, rfl, Arr.nil_ _ _, Arr.nil_ _ _, (by repeat (first | exact Below.refl _ _ | assumption | refine below_drewN ?_ _ | refine Below.drew ?_ | refine Below.alloc ?_ (by first | exact Nat.le_refl _ | omega | (simp; done) | (simp; omega)) _ | refine Below.setCell ?_ (by first | exact Nat.le_refl _ | (simp; done) | (simp; omega)) _)), (fun _ h => nomatch h), (fun _ h => nomatch h), Nat.le_refl _, Nat.le_refl _⟩

theorem parse_anyN (s : ByteArray) (w : World) (hg : Gnd w) (hs : s.size < 4294967281) :
    Calls Tryd.prog 32 #[.string s] w (InsNew w (psC s.data.toList) (psS s.data.toList) (psE s.data.toList)) := by
  obtain ⟨ws, hws⟩ : ∃ ws, ws = Lib.splitB ⟨#[32]⟩ 0 (Lib.countB s ⟨#[32]⟩) s := ⟨_, rfl⟩
  have hwl : ws.map (·.data.toList) = splitC 32 s.data.toList := by rw [hws]; exact split_eq 32 s
  have hlen : ws.length = Lib.countB s ⟨#[32]⟩ + 1 := by rw [hws]; exact Lib.splitB_all ⟨#[32]⟩ (by decide) 0 _ s rfl
  have hlen2 : ws.length = (splitC 32 s.data.toList).length := by rw [← hwl, List.length_map]
  have hbig : ws.length ≤ 4294967296 := by have := splitC_len 32 s.data.toList; rw [sz_of] at this; omega
  obtain ⟨m, hm⟩ := hg.ml
  have h2 : 2 < w.heap.size := by have := hg.sz; omega
  have HS : ∀ W, Below w.heap.size w W → Calls Tryd.prog 70 #[.string s, .string ⟨#[32]⟩] W fun e1 w1 => e1 = .returned (.slice (some ⟨W.heap.size, 0, none⟩) ws.length ws.length) ∧ w1 = W.alloc (.cells (ws.map Value.string).toArray 9) := fun W hW =>
    (Tryd.strings_Split s ⟨#[32]⟩ m W hs ((hW.cell (p := ⟨2, 0, none⟩) h2).trans hm) (by decide)).mono fun e1 w1 ⟨he, hw⟩ => ⟨by rw [he, hlen], by rw [hw, hws]⟩
  have hsz : ∀ x ∈ ws, x.size < 4294967281 := by
    intro x hx
    have h := splitC_part 32 s.data.toList x.data.toList (by rw [← hwl]; exact List.mem_map_of_mem hx)
    rw [sz_of, sz_of] at h
    omega
  have HI : ∀ W b, (∀ j, j < ws.length → W.cell? ⟨b, j, none⟩ = some (.string (ws.getD j ByteArray.empty))) → Calls Tryd.prog 71 #[.slice (some ⟨b, 0, none⟩) ws.length ws.length, .string ⟨#[58]⟩] W fun e1 w1 => e1 = .returned (.int .i64 (Lib.idxOfS ws ⟨#[58]⟩)) ∧ w1 = W := fun W b hc =>
    (Tryd.slices_Index_string b 0 ws.length ws.length ws ⟨#[58]⟩ W (Nat.le_refl _) (by omega) (by simpa using hc)).mono fun e1 w1 ⟨he, hw⟩ => ⟨by rw [he, List.take_length], hw⟩
  have hix := idxOfS_eq ⟨#[58]⟩ ws
  rw [hwl] at hix
  have e58 : (⟨#[58]⟩ : ByteArray).data.toList = [58] := rfl
  rw [e58] at hix
  have hle := ixOf_le [58] (splitC 32 s.data.toList)
  by_cases hk : ixOf [58] (splitC 32 s.data.toList) < ws.length
  · rw [if_pos hk] at hix
    rw [hix] at HI
    have hE : psE s.data.toList = if cErr ((splitC 32 s.data.toList).take (ixOf [58] (splitC 32 s.data.toList))) ≠ 0 then cErr ((splitC 32 s.data.toList).take (ixOf [58] (splitC 32 s.data.toList)))
        else if ((splitC 32 s.data.toList).drop (ixOf [58] (splitC 32 s.data.toList) + 1)).all numOk = false then 4 else chk (cVal ((splitC 32 s.data.toList).take (ixOf [58] (splitC 32 s.data.toList)))) (nVal ((splitC 32 s.data.toList).drop (ixOf [58] (splitC 32 s.data.toList) + 1))) := by
      rw [psE, wsE, if_neg (by omega)]
    exact parse_mainN s ws _ _ w hg rfl hk hbig hsz HS HI _ hwl.symm _ _ _ hE rfl rfl
  · rw [if_neg hk] at hix
    rw [hix] at HI
    have hE : psE s.data.toList = 4 := by rw [psE, wsE, if_pos (by omega)]
    have hC : psC s.data.toList = [] := by rw [psC, if_neg (by rw [hE]; decide)]
    have hS : psS s.data.toList = [] := by rw [psS, if_neg (by rw [hE]; decide)]
    rw [hC, hS, hE]
    exact parse_noneN s ws _ w HS HI rfl
end Go.Proofs.YtbdhjpdjbogggaaDoor
namespace Go.Proofs.YtbdhjpdjbogggaaDoor
open Go.RowKit
attribute [local go_sem] vx_skip vx_ret vx_exit vx_seq vx_block vx_scope vx_cond vx_condT vx_condF gR_nil gR_cons VO.stops beq_self_eq_true Bool.false_beq Bool.true_beq Bool.not_true Bool.not_false Bool.false_eq_true if_false exo VI.on if_true exoOp pureSem List.map_cons List.map_nil St.ev initT Option.map_some putT_get putT_none put_obj put_next M0_next freeze_obj freeze_next List.getD_cons_zero List.getD_cons_succ List.getD_nil V.cells rdable Nat.add_assoc Nat.add_zero Nat.add_left_cancel_iff Nat.add_eq_left Nat.left_eq_add decide_true Bool.true_or ite_self onB vbinI vint vbool List.drop_zero List.take_succ_cons List.drop_succ_cons List.take_zero List.length_cons List.length_nil List.getElem?_cons_zero List.getElem?_cons_succ decide_eq_true_eq true_and and_true Nat.le_refl List.zip_cons_cons List.zip_nil_left V.pubs V.pub Option.bind_some List.all_cons List.all_nil V.one Bool.and_self List.cons_append List.nil_append then_nrm then_ret then_exit inB_nrm inB_ret inB_exit Int.toNat_natCast Int.natCast_nonneg eq_self Nat.zero_add Nat.mul_one
set_option linter.unusedSimpArgs false
set_option linter.unusedVariables false

theorem vr_newarr {E : Env} {w w' : World} {size : Nat} {A : Option Addr} {n cap : Nat} {ys : List Value} (h : Arr w' w'.heap.size size A n ys) (hc : n ≤ cap) (hcl : V.clean (lits ys) = true) (hf : ∀ u ∈ ys, flat u = true)
    (hn : ∀ a, A = some a → w.heap.size ≤ a.block) (hM : ∀ b o u, w.heap.size ≤ b → w'.cell? ⟨b, o, none⟩ = some u → E.M b o = some u) : VR E (.sl n (lits ys) .no) (.slice A n cap) := by
  rw [VR]
  refine ⟨A, cap, rfl, hc, trivial, hcl, ?_⟩
  rcases Nat.eq_zero_or_pos n with h0 | h0
  · left
    have := h.1
    rw [h0, Nat.zero_mul] at this
    rw [List.eq_nil_of_length_eq_zero this]; rfl
  · right
    obtain ⟨b, o, rfl, _, hx⟩ := h.2 h0
    refine ⟨b, o, rfl, At.of_get fun i v hv => ?_⟩
    rw [lits_get, Option.map_eq_some_iff] at hv
    obtain ⟨u, hu, rfl⟩ := hv
    exact ⟨u, hM b _ u (hn _ rfl) (hx i u hu), VR_mk (hf u (List.mem_of_getElem? hu))⟩
theorem parse_vfn (t : List UInt8) (ht : t.length < 4294967281) : Fn Tryd.prog Gd 32 [str t] (.tup [tIns (psC t) (psS t), vint (psE t)]) :=
  Fn.of_calls fun E w cargs hG hst hv => by
    obtain ⟨c, rfl, hr⟩ := one_arg hv
    obtain rfl := VR_lit hr
    refine (parse_anyN ⟨t.toArray⟩ w (gnd_w hG hst) ht).mono ?_
    rintro e w' ⟨A, C, nc, cc, ns, kc, rfl, hA, hC, hb, nA, nC, c1, c2⟩
    have e1 : nc = (psC t).length := by have := hA.1; rw [cells3_length] at this; change (psC t).length * 3 = _ at this; omega
    have e2 : ns = (psS t).length := by have := hC.1; rw [List.length_map] at this; change (psS t).length = _ at this; omega
    subst e1
    subst e2
    refine ⟨_, rfl, hb, fun b o => if b < w.heap.size then E.M b o else w'.cell? ⟨b, o, none⟩, fun b o v hM => ?_, fun b o hlt => if_pos hlt, fun b o v hM => ?_, ?_⟩
    · show (if b < w.heap.size then E.M b o else _) = _
      rw [if_pos (cell_lt (hst _ _ _ hM))]; exact hM
    · change (if b < w.heap.size then E.M b o else w'.cell? ⟨b, o, none⟩) = some v at hM
      by_cases hlt : b < w.heap.size
      · rw [if_pos hlt] at hM
        rw [hb.cell (p := ⟨b, o, none⟩) hlt]
        exact hst _ _ _ hM
      · rw [if_neg hlt] at hM; exact hM
    · have hM : ∀ b o u, w.heap.size ≤ b → w'.cell? ⟨b, o, none⟩ = some u → (if b < w.heap.size then E.M b o else w'.cell? ⟨b, o, none⟩) = some u := fun b o u h1 h2 => by rw [if_neg (by omega)]; exact h2
      rw [VR]
      refine ⟨_, rfl, ?_⟩
      rw [VRs]
      refine ⟨_, _, rfl, ?_, ?_⟩
      · rw [tIns, VR]
        refine ⟨_, rfl, ?_⟩
        rw [VRs]
        refine ⟨_, _, rfl, vr_newarr hA c1 (clean_crs _) (flat_crs _) nA hM, ?_⟩
        rw [VRs]
        exact ⟨_, _, rfl, vr_newarr hC c2 (clean_ints _) (flat_ints _) nC hM, by rw [VRs]⟩
      · rw [VRs]
        exact ⟨_, _, rfl, VR_mk rfl, by rw [VRs]⟩
set_option maxHeartbeats 2000000 in
theorem formats_fn (cs : List Crs) (ss : List Int) : Fn Tryd.prog Gp 19 [tIns cs ss] (vbool true) := by
  refine Fn.of_vx0 k_theorbolaw01_InstrumentFormats (by simp) (pures_tIns cs ss) ?_
  unfold c_theorbolaw01_InstrumentFormats tIns
  have hbig := up (big_fn cs ss)
  generalize hB : (decide (64 < cs.length) || decide (64 < ss.length)) = B at hbig
  repeat (first | with_reducible refine x_ops ?_ | (simp only [go_sem, Nat.reduceAdd, Nat.reduceEqDiff, Nat.reduceLT, Nat.reduceLeDiff, Nat.reduceMul, Nat.reduceSub, reduceIte, splice, vfill]))
  refine x_call none hbig (by (simp only [go_sem, reduceIte, Nat.reduceEqDiff, V.norms, V.norm]); try rfl) ?_
  cases B
  · have hsm : cs.length ≤ 64 ∧ ss.length ≤ 64 := by simp at hB; omega
    have FF := format_fn cs ss
    have RF := rformat_fn cs ss
    repeat (first | with_reducible refine x_ops ?_ | (simp only [go_sem, Nat.reduceAdd, Nat.reduceEqDiff, Nat.reduceLT, Nat.reduceLeDiff, Nat.reduceMul, Nat.reduceSub, reduceIte, splice, vfill, tCrs, tInts]))
    refine x_call _ (up (copy_fn cs ss (by omega) (by omega))) (by (simp only [go_sem, reduceIte, Nat.reduceEqDiff, V.norms, V.norm]); try rfl) ?_
    repeat (first | with_reducible refine x_ops ?_ | (simp only [go_sem, Nat.reduceAdd, Nat.reduceEqDiff, Nat.reduceLT, Nat.reduceLeDiff, Nat.reduceMul, Nat.reduceSub, reduceIte, splice, vfill, tIns, tCrs, tInts]))
    by_cases h0 : chk cs ss = 0
    · rw [fmtV, if_pos h0] at FF RF
      have hlC := fmtCs_le h0 cs.length (Nat.le_refl _)
      have hlS := fmtSs_le h0 ss.length (Nat.le_refl _)
      have hlen : (fmtT cs ss).length < 4294967281 := by rw [fmtT]; simp; omega
      have PV := up (parse_vfn (fmtT cs ss) hlen)
      obtain ⟨e1, e2, e3⟩ := read_text h0
      rw [e1, e2, e3] at PV
      have SV := up (rsame_fn cs cs ss ss (by omega) (by omega))
      rw [decide_eq_true rfl, decide_eq_true rfl] at SV
      refine x_call _ FF (by (simp only [go_sem, reduceIte, Nat.reduceEqDiff, V.norms, V.norm]); try rfl) ?_
      repeat (first | with_reducible refine x_ops ?_ | (simp only [go_sem, Nat.reduceAdd, Nat.reduceEqDiff, Nat.reduceLT, Nat.reduceLeDiff, Nat.reduceMul, Nat.reduceSub, reduceIte, splice, vfill, tIns, tCrs, tInts, str]))
      refine x_call _ RF (by (simp only [go_sem, reduceIte, Nat.reduceEqDiff, V.norms, V.norm]); try rfl) ?_
      repeat (first | with_reducible refine x_ops ?_ | (simp only [go_sem, Nat.reduceAdd, Nat.reduceEqDiff, Nat.reduceLT, Nat.reduceLeDiff, Nat.reduceMul, Nat.reduceSub, reduceIte, splice, vfill, tIns, tCrs, tInts, str, vbinS, vund, bne_self_eq_false, eqOffs, eqSc]))
      refine x_call _ PV (by (simp only [go_sem, reduceIte, Nat.reduceEqDiff, V.norms, V.norm]); try rfl) ?_
      repeat (first | with_reducible refine x_ops ?_ | (simp only [go_sem, Nat.reduceAdd, Nat.reduceEqDiff, Nat.reduceLT, Nat.reduceLeDiff, Nat.reduceMul, Nat.reduceSub, reduceIte, splice, vfill, tIns, tCrs, tInts, str, vbinS, vund, bne_self_eq_false, eqOffs, eqSc]))
      refine x_on rfl ?_
      refine x_call _ SV (by (simp only [go_sem, reduceIte, Nat.reduceEqDiff, V.norms, V.norm]); try rfl) ?_
      repeat (first | with_reducible refine x_ops ?_ | (simp only [go_sem, Nat.reduceAdd, Nat.reduceEqDiff, Nat.reduceLT, Nat.reduceLeDiff, Nat.reduceMul, Nat.reduceSub, reduceIte, splice, vfill]))
      refine x_on rfl ?_
      refine x_call _ (up works_fn) (by (simp only [go_sem, reduceIte, Nat.reduceEqDiff, V.norms, V.norm]); try rfl) ?_
      repeat (first | with_reducible refine x_ops ?_ | (simp only [go_sem, Nat.reduceAdd, Nat.reduceEqDiff, Nat.reduceLT, Nat.reduceLeDiff, Nat.reduceMul, Nat.reduceSub, reduceIte, splice, vfill]))
      exact finV_ret (r' := _) (by (simp only [go_sem, Nat.reduceAdd, Nat.reduceEqDiff, Nat.reduceLT, Nat.reduceLeDiff, Nat.reduceMul, Nat.reduceSub, reduceIte, resV, resAll, resOne, oneOr]); try rfl) (.lit _)
    · have e1 : (chk cs ss != 0) = true := by simpa using h0
      rw [fmtV, if_neg h0] at FF RF
      refine x_call _ FF (by (simp only [go_sem, reduceIte, Nat.reduceEqDiff, V.norms, V.norm]); try rfl) ?_
      repeat (first | with_reducible refine x_ops ?_ | (simp only [go_sem, Nat.reduceAdd, Nat.reduceEqDiff, Nat.reduceLT, Nat.reduceLeDiff, Nat.reduceMul, Nat.reduceSub, reduceIte, splice, vfill, tIns, tCrs, tInts, str]))
      refine x_call _ RF (by (simp only [go_sem, reduceIte, Nat.reduceEqDiff, V.norms, V.norm]); try rfl) ?_
      repeat (first | with_reducible refine x_ops ?_ | (simp only [go_sem, Nat.reduceAdd, Nat.reduceEqDiff, Nat.reduceLT, Nat.reduceLeDiff, Nat.reduceMul, Nat.reduceSub, reduceIte, splice, vfill, tIns, tCrs, tInts, str, vbinS, vund, bne_self_eq_false, eqOffs, eqSc, e1]))
      refine x_call _ (up works_fn) (by (simp only [go_sem, reduceIte, Nat.reduceEqDiff, V.norms, V.norm]); try rfl) ?_
      repeat (first | with_reducible refine x_ops ?_ | (simp only [go_sem, Nat.reduceAdd, Nat.reduceEqDiff, Nat.reduceLT, Nat.reduceLeDiff, Nat.reduceMul, Nat.reduceSub, reduceIte, splice, vfill]))
      exact finV_ret (r' := _) (by (simp only [go_sem, Nat.reduceAdd, Nat.reduceEqDiff, Nat.reduceLT, Nat.reduceLeDiff, Nat.reduceMul, Nat.reduceSub, reduceIte, resV, resAll, resOne, oneOr]); try rfl) (.lit _)
  · repeat (first | with_reducible refine x_ops ?_ | (simp only [go_sem, Nat.reduceAdd, Nat.reduceEqDiff, Nat.reduceLT, Nat.reduceLeDiff, Nat.reduceMul, Nat.reduceSub, reduceIte, splice, vfill]))
    refine x_call none (up works_fn) (by (simp only [go_sem, reduceIte, Nat.reduceEqDiff, V.norms, V.norm]); try rfl) ?_
    repeat (first | with_reducible refine x_ops ?_ | (simp only [go_sem, Nat.reduceAdd, Nat.reduceEqDiff, Nat.reduceLT, Nat.reduceLeDiff, Nat.reduceMul, Nat.reduceSub, reduceIte, splice, vfill]))
    exact finV_ret (r' := _) (by (simp only [go_sem, Nat.reduceAdd, Nat.reduceEqDiff, Nat.reduceLT, Nat.reduceLeDiff, Nat.reduceMul, Nat.reduceSub, reduceIte, resV, resAll, resOne, oneOr]); try rfl) (.lit _)
end Go.Proofs.YtbdhjpdjbogggaaDoor
