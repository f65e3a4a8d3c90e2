/- The law of what is spelled: on values. -/
import Derived.Test.YtbdhjpdjbogggaaDoorX25
import Derived.Test.YtbdhjpdjbogggaaDoorW13
import Derived.Test.YtbdhjpdjbogggaaDoorW6
namespace Go.Proofs.YtbdhjpdjbogggaaDoor
open Go.RowKit
attribute [local go_sem] vx_skip vx_ret vx_exit vx_seq vx_block vx_scope vx_cond vx_condT vx_condF gR_nil gR_cons VO.stops beq_self_eq_true Bool.false_beq Bool.true_beq Bool.not_true Bool.not_false Bool.false_eq_true if_false exo VI.on if_true exoOp pureSem List.map_cons List.map_nil St.ev initT Option.map_some putT_get putT_none put_obj put_next M0_next freeze_obj freeze_next List.getD_cons_zero List.getD_cons_succ List.getD_nil V.cells rdable Nat.add_assoc Nat.add_zero Nat.add_left_cancel_iff Nat.add_eq_left Nat.left_eq_add decide_true Bool.true_or ite_self onB vbinI vint vbool List.drop_zero List.take_succ_cons List.drop_succ_cons List.take_zero List.length_cons List.length_nil List.getElem?_cons_zero List.getElem?_cons_succ decide_eq_true_eq true_and and_true Nat.le_refl List.zip_cons_cons List.zip_nil_left V.pubs V.pub Option.bind_some List.all_cons List.all_nil V.one Bool.and_self List.cons_append List.nil_append then_nrm then_ret then_exit inB_nrm inB_ret inB_exit Int.toNat_natCast Int.natCast_nonneg eq_self Nat.zero_add Nat.mul_one
set_option linter.unusedSimpArgs false
set_option linter.unusedVariables false

/-! ### What Spell finds -/
theorem spFrom_ok {p key : Int} : ∀ {n m : Nat} {l a : Int}, n + m ≤ 21 → spFrom p key n m = some (l, a) → spOk p key l a = true ∧ 0 ≤ l ∧ l ≤ 6
  | 0, _, _, _, _, h => by cases h
  | n + 1, m, l, a, hn, h => by
    rw [spFrom] at h
    split at h
    · rename_i hok
      simp only [Option.some.injEq, Prod.mk.injEq] at h
      obtain ⟨rfl, rfl⟩ := h
      exact ⟨hok, by omega, by omega⟩
    · exact spFrom_ok (by omega) h
def noSp (p : Nat) (key : Int) : Bool := (spFrom p key 21 0).isSome || (p == 0 && key == 4)
theorem ns_0 : upto (fun p => noSp p (-4)) 128 = true := by decide +kernel
theorem ns_1 : upto (fun p => noSp p (-3)) 128 = true := by decide +kernel
theorem ns_2 : upto (fun p => noSp p (-2)) 128 = true := by decide +kernel
theorem ns_3 : upto (fun p => noSp p (-1)) 128 = true := by decide +kernel
theorem ns_4 : upto (fun p => noSp p 0) 128 = true := by decide +kernel
theorem ns_5 : upto (fun p => noSp p 1) 128 = true := by decide +kernel
theorem ns_6 : upto (fun p => noSp p 2) 128 = true := by decide +kernel
theorem ns_7 : upto (fun p => noSp p 3) 128 = true := by decide +kernel
theorem ns_8 : upto (fun p => noSp p 4) 128 = true := by decide +kernel
theorem no_sp (p : Nat) (hp : p < 128) (key : Int) (h0 : -4 ≤ key) (h1 : key ≤ 4) : noSp p key = true := by
  have : key = -4 ∨ key = -3 ∨ key = -2 ∨ key = -1 ∨ key = 0 ∨ key = 1 ∨ key = 2 ∨ key = 3 ∨ key = 4 := by omega
  rcases this with rfl | rfl | rfl | rfl | rfl | rfl | rfl | rfl | rfl
  · exact upto_at ns_0 p hp
  · exact upto_at ns_1 p hp
  · exact upto_at ns_2 p hp
  · exact upto_at ns_3 p hp
  · exact upto_at ns_4 p hp
  · exact upto_at ns_5 p hp
  · exact upto_at ns_6 p hp
  · exact upto_at ns_7 p hp
  · exact upto_at ns_8 p hp
def spVV (p : Int) : Option (Int × Int) → V
  | none => .tup [tSp 0 0 0, vint 10]
  | some (l, a) => .tup [tSp l a (spO p l a), vint 0]
def spRV (p key : Int) : V := if p < 0 ∨ 127 < p then .tup [tSp 0 0 0, vint 10] else if key < -4 ∨ 4 < key then .tup [tSp 0 0 0, vint 1] else spVV p (spFrom p key 21 0)
theorem VR_spe {E : Env} (l a o e : Int) : VR E (.tup [tSp l a o, vint e]) (.tuple #[.agg #[.int .i64 l, .int .i64 a, .int .i64 o], .int .i64 e]) := by
  rw [VR]
  refine ⟨_, rfl, ?_⟩
  rw [VRs]
  refine ⟨_, _, rfl, ?_, ?_⟩
  · rw [tSp, VR]
    refine ⟨_, rfl, ?_⟩
    rw [VRs]
    refine ⟨_, _, rfl, VR_mk rfl, ?_⟩
    rw [VRs]
    refine ⟨_, _, rfl, VR_mk rfl, ?_⟩
    rw [VRs]
    refine ⟨_, _, rfl, VR_mk rfl, ?_⟩
    rw [VRs]
  · rw [VRs]
    refine ⟨_, _, rfl, VR_mk rfl, ?_⟩
    rw [VRs]
theorem VR_spR {E : Env} (p key : Int) : VR E (spRV p key) (spR p key) := by
  unfold spRV spR
  split
  · exact VR_spe _ _ _ _
  · split
    · exact VR_spe _ _ _ _
    · cases h : spFrom p key 21 0 with
      | none => exact VR_spe _ _ _ _
      | some x => obtain ⟨l, a⟩ := x; exact VR_spe _ _ _ _
theorem spell_fn (p key : Int) : Fn Tryd.prog Gd 20 [vint p, vint key] (spRV p key) :=
  fn_flat (fun _ => VR_spR p key) fun E w cargs hG hst hv => by
    obtain ⟨c, d, rfl, h1, h2⟩ := two_args hv
    obtain rfl := VR_lit h1
    obtain rfl := VR_lit h2
    exact spell_any p key w (gnd_w hG hst)
theorem parse_fn (s : List UInt8) : Fn Tryd.prog Gd 24 [str s] (.tup [tSp (pnV s).1 (pnV s).2.1 (pnV s).2.2, vint (pnE s)]) :=
  fn_flat (fun _ => VR_spe _ _ _ _) fun E w cargs hG hst hv => by
    obtain ⟨c, rfl, h1⟩ := one_arg hv
    obtain rfl := VR_lit h1
    exact parseName_any ⟨s.toArray⟩ w (gnd_w hG hst)

/-! ### A name is read as its note -/
def itoS (o : Int) : List UInt8 := if o = -1 then [45, 49] else [UInt8.ofNat (48 + o.toNat)]
theorem itoa_S {o : Int} (h0 : -1 ≤ o) (h1 : o ≤ 9) : Lib.itoa o = itoS o := by
  unfold itoS
  split
  · rename_i h; subst h
    rw [Lib.itoa, if_pos (by decide), show (-1 : Int).natAbs = 1 from rfl, dec_small (by decide)]; rfl
  · rw [Lib.itoa, if_neg (by omega), dec_small (by omega)]
theorem read_fin : ∀ l : Fin 7, ∀ a : Fin 3, ∀ o : Fin 11, pnO (letL l.val ++ sgn ((a.val : Int) - 1) ++ itoS ((o.val : Int) - 1)) = some ((l.val : Int), (a.val : Int) - 1, (o.val : Int) - 1) := by decide +kernel
theorem read_name {l a o : Int} (h : right l a o = true) : pnO (nmL l a o) = some (l, a, o) := by
  obtain ⟨l0, l6, a0, a1, o0, o1⟩ := right_in h
  have := read_fin ⟨l.toNat, by omega⟩ ⟨(a + 1).toNat, by omega⟩ ⟨(o + 1).toNat, by omega⟩
  simp only [show (((a + 1).toNat : Nat) : Int) - 1 = a by omega, show (((o + 1).toNat : Nat) : Int) - 1 = o by omega, show ((l.toNat : Nat) : Int) = l by omega] at this
  rw [nmL, itoa_S o0 o1]
  exact this
theorem fif_lit {l : Int} (l0 : 0 ≤ l) (l6 : l ≤ 6) : ([V.lit (.int .i64 0), .lit (.int .i64 2), .lit (.int .i64 4), .lit (.int .i64 (-1)), .lit (.int .i64 1), .lit (.int .i64 3), .lit (.int .i64 5)] : List V)[l.toNat]? = some (.lit (.int .i64 (fif l))) := by
  have : l = 0 ∨ l = 1 ∨ l = 2 ∨ l = 3 ∨ l = 4 ∨ l = 5 ∨ l = 6 := by omega
  rcases this with rfl | rfl | rfl | rfl | rfl | rfl | rfl <;> rfl
theorem fif_bd2 {l : Int} (l0 : 0 ≤ l) (l6 : l ≤ 6) : -1 ≤ fif l ∧ fif l ≤ 5 := by
  have : l = 0 ∨ l = 1 ∨ l = 2 ∨ l = 3 ∨ l = 4 ∨ l = 5 ∨ l = 6 := by omega
  rcases this with rfl | rfl | rfl | rfl | rfl | rfl | rfl <;> decide
set_option maxHeartbeats 2000000 in
theorem spelledback_fn (p key : Int) : Fn Tryd.prog Gp 18 [vint p, vint key] (vbool true) := by
  refine Fn.of_vx0 k_theorbolaw01_InstrumentSpelledBack (by simp) (pures_cons (pure_vint p) (pures1 (pure_vint key))) ?_
  unfold c_theorbolaw01_InstrumentSpelledBack
  have S := up (spell_fn p key)
  have e10 : ((10 : Int) != 0) = true := rfl
  have e1 : ((1 : Int) != 0) = true := rfl
  repeat (first | with_reducible refine x_ops ?_ | (simp only [go_sem, Nat.reduceAdd, Nat.reduceEqDiff, Nat.reduceLT, Nat.reduceLeDiff, Nat.reduceMul, Nat.reduceSub, reduceIte, splice, vfill]))
  refine x_call none S (by (simp only [go_sem, reduceIte, Nat.reduceEqDiff, V.norms, V.norm]); try rfl) ?_
  by_cases hp0 : p < 0
  · have d0 : decide (p < 0) = true := by simpa using hp0
    rw [spRV, if_pos (.inl hp0)]
    repeat (first | with_reducible refine x_ops ?_ | (simp only [go_sem, Nat.reduceAdd, Nat.reduceEqDiff, Nat.reduceLT, Nat.reduceLeDiff, Nat.reduceMul, Nat.reduceSub, reduceIte, splice, vfill, tSp, vund, e10, d0]))
    refine x_on rfl ?_
    refine x_call none (up works_fn) (by (simp only [go_sem, reduceIte, Nat.reduceEqDiff, V.norms, V.norm]); try rfl) ?_
    repeat (first | with_reducible refine x_ops ?_ | (simp only [go_sem, Nat.reduceAdd, Nat.reduceEqDiff, Nat.reduceLT, Nat.reduceLeDiff, Nat.reduceMul, Nat.reduceSub, reduceIte, splice, vfill]))
    exact finV_ret (r' := _) (by (simp only [go_sem, Nat.reduceAdd, Nat.reduceEqDiff, Nat.reduceLT, Nat.reduceLeDiff, Nat.reduceMul, Nat.reduceSub, reduceIte, resV, resAll, resOne, oneOr]); try rfl) (.lit _)
  have d0 : decide (p < 0) = false := by simpa using hp0
  by_cases hp1 : p > 127
  · have d1 : decide (p > 127) = true := by simpa using hp1
    rw [spRV, if_pos (.inr hp1)]
    repeat (first | with_reducible refine x_ops ?_ | (simp only [go_sem, Nat.reduceAdd, Nat.reduceEqDiff, Nat.reduceLT, Nat.reduceLeDiff, Nat.reduceMul, Nat.reduceSub, reduceIte, splice, vfill, tSp, vund, e10, d0, d1]))
    refine x_on rfl ?_
    refine x_call none (up works_fn) (by (simp only [go_sem, reduceIte, Nat.reduceEqDiff, V.norms, V.norm]); try rfl) ?_
    repeat (first | with_reducible refine x_ops ?_ | (simp only [go_sem, Nat.reduceAdd, Nat.reduceEqDiff, Nat.reduceLT, Nat.reduceLeDiff, Nat.reduceMul, Nat.reduceSub, reduceIte, splice, vfill]))
    exact finV_ret (r' := _) (by (simp only [go_sem, Nat.reduceAdd, Nat.reduceEqDiff, Nat.reduceLT, Nat.reduceLeDiff, Nat.reduceMul, Nat.reduceSub, reduceIte, resV, resAll, resOne, oneOr]); try rfl) (.lit _)
  have d1 : decide (p > 127) = false := by simpa using hp1
  rw [spRV, if_neg (by omega)]
  by_cases hk0 : key < -4
  · have d2 : decide (key < -4) = true := by simpa using hk0
    rw [if_pos (.inl hk0)]
    repeat (first | with_reducible refine x_ops ?_ | (simp only [go_sem, Nat.reduceAdd, Nat.reduceEqDiff, Nat.reduceLT, Nat.reduceLeDiff, Nat.reduceMul, Nat.reduceSub, reduceIte, splice, vfill, tSp, vund, e1, d0, d1, d2]))
    refine x_on rfl ?_
    refine x_call none (up works_fn) (by (simp only [go_sem, reduceIte, Nat.reduceEqDiff, V.norms, V.norm]); try rfl) ?_
    repeat (first | with_reducible refine x_ops ?_ | (simp only [go_sem, Nat.reduceAdd, Nat.reduceEqDiff, Nat.reduceLT, Nat.reduceLeDiff, Nat.reduceMul, Nat.reduceSub, reduceIte, splice, vfill]))
    exact finV_ret (r' := _) (by (simp only [go_sem, Nat.reduceAdd, Nat.reduceEqDiff, Nat.reduceLT, Nat.reduceLeDiff, Nat.reduceMul, Nat.reduceSub, reduceIte, resV, resAll, resOne, oneOr]); try rfl) (.lit _)
  have d2 : decide (key < -4) = false := by simpa using hk0
  by_cases hk1 : key > 4
  · have d3 : decide (key > 4) = true := by simpa using hk1
    rw [if_pos (.inr hk1)]
    repeat (first | with_reducible refine x_ops ?_ | (simp only [go_sem, Nat.reduceAdd, Nat.reduceEqDiff, Nat.reduceLT, Nat.reduceLeDiff, Nat.reduceMul, Nat.reduceSub, reduceIte, splice, vfill, tSp, vund, e1, d0, d1, d2, d3]))
    refine x_on rfl ?_
    refine x_call none (up works_fn) (by (simp only [go_sem, reduceIte, Nat.reduceEqDiff, V.norms, V.norm]); try rfl) ?_
    repeat (first | with_reducible refine x_ops ?_ | (simp only [go_sem, Nat.reduceAdd, Nat.reduceEqDiff, Nat.reduceLT, Nat.reduceLeDiff, Nat.reduceMul, Nat.reduceSub, reduceIte, splice, vfill]))
    exact finV_ret (r' := _) (by (simp only [go_sem, Nat.reduceAdd, Nat.reduceEqDiff, Nat.reduceLT, Nat.reduceLeDiff, Nat.reduceMul, Nat.reduceSub, reduceIte, resV, resAll, resOne, oneOr]); try rfl) (.lit _)
  have d3 : decide (key > 4) = false := by simpa using hk1
  rw [if_neg (by omega)]
  cases hr : spFrom p key 21 0 with
  | none =>
    have hn := no_sp p.toNat (by omega) key (by omega) (by omega)
    rw [noSp, show ((p.toNat : Nat) : Int) = p by omega, hr] at hn
    have hpk : p = 0 ∧ key = 4 := by simp at hn; omega
    obtain ⟨rfl, rfl⟩ := hpk
    have d4 : ((0 : Int) == 0) = true := rfl
    have d5 : ((4 : Int) == 4) = true := rfl
    rw [spVV]
    repeat (first | with_reducible refine x_ops ?_ | (simp only [go_sem, Nat.reduceAdd, Nat.reduceEqDiff, Nat.reduceLT, Nat.reduceLeDiff, Nat.reduceMul, Nat.reduceSub, reduceIte, splice, vfill, tSp, vund, e10, d0, d1, d2, d3, d4, d5]))
    refine x_on rfl ?_
    refine x_call none (up works_fn) (by (simp only [go_sem, reduceIte, Nat.reduceEqDiff, V.norms, V.norm]); try rfl) ?_
    repeat (first | with_reducible refine x_ops ?_ | (simp only [go_sem, Nat.reduceAdd, Nat.reduceEqDiff, Nat.reduceLT, Nat.reduceLeDiff, Nat.reduceMul, Nat.reduceSub, reduceIte, splice, vfill]))
    exact finV_ret (r' := _) (by (simp only [go_sem, Nat.reduceAdd, Nat.reduceEqDiff, Nat.reduceLT, Nat.reduceLeDiff, Nat.reduceMul, Nat.reduceSub, reduceIte, resV, resAll, resOne, oneOr]); try rfl) (.lit _)
  | some x =>
    obtain ⟨l, a⟩ := x
    obtain ⟨hok, l0, l6⟩ := spFrom_ok (by omega) hr
    rw [spVV]
    rw [spOk] at hok
    simp only [Bool.and_eq_true, decide_eq_true_eq] at hok
    obtain ⟨⟨hin, hE⟩, hP⟩ := hok
    generalize spO p l a = o at *
    rw [spIn] at hin
    simp only [Bool.and_eq_true, decide_eq_true_eq] at hin
    have hR : right l a o = true := by
      by_cases h : right l a o = true
      · exact h
      · rw [sndE, if_neg h] at hE; cases hE
    obtain ⟨_, _, a0, a1, o0, o1⟩ := right_in hR
    have S2 := up (sounding_fn l a o)
    rw [hP, hE] at S2
    have N := name_fn l a o
    rw [nameV, if_pos hR] at N
    have R := up (parse_fn (nmL l a o))
    simp only [pnV, pnE, read_name hR, hR, if_true] at R
    unfold tSp at S2 N R
    have hfb := fif_bd2 l0 l6
    have hfl := fif_lit l0 l6
    have z6 : l < ((7 : Nat) : Int) := by omega
    have w7 : IntKind.i64.wrap (7 * a) = 7 * a := IntWalk.i64_in _ (by omega)
    have wf : IntKind.i64.wrap (fif l + 7 * a) = fif l + 7 * a := IntWalk.i64_in _ (by omega)
    have w3 : IntKind.i64.wrap (key - 3) = key - 3 := IntWalk.i64_in _ (by omega)
    have w8 : IntKind.i64.wrap (key + 8) = key + 8 := IntWalk.i64_in _ (by omega)
    have g1 : decide (fif l + 7 * a ≥ key - 3) = true := by simpa using hin.1
    have g2 : decide (fif l + 7 * a ≤ key + 8) = true := by simpa using hin.2
    have g3 : decide (l < 0) = false := by simp; omega
    have g4 : decide (l > 6) = false := by simp; omega
    repeat (first | with_reducible refine x_ops ?_ | (simp only [go_sem, Nat.reduceAdd, Nat.reduceEqDiff, Nat.reduceLT, Nat.reduceLeDiff, Nat.reduceMul, Nat.reduceSub, reduceIte, splice, vfill, tSp, bne_self_eq_false]))
    refine x_call _ S2 (by (simp only [go_sem, reduceIte, Nat.reduceEqDiff, V.norms, V.norm]); try rfl) ?_
    repeat (first | with_reducible refine x_ops ?_ | (simp only [go_sem, Nat.reduceAdd, Nat.reduceEqDiff, Nat.reduceLT, Nat.reduceLeDiff, Nat.reduceMul, Nat.reduceSub, reduceIte, splice, vfill]))
    refine x_call _ N (by (simp only [go_sem, reduceIte, Nat.reduceEqDiff, V.norms, V.norm]); try rfl) ?_
    repeat (first | with_reducible refine x_ops ?_ | (simp only [go_sem, Nat.reduceAdd, Nat.reduceEqDiff, Nat.reduceLT, Nat.reduceLeDiff, Nat.reduceMul, Nat.reduceSub, reduceIte, splice, vfill]))
    refine x_call _ R (by (simp only [go_sem, reduceIte, Nat.reduceEqDiff, V.norms, V.norm]); try rfl) ?_
    repeat (first | with_reducible refine x_ops ?_ | (simp only [go_sem, Nat.reduceAdd, Nat.reduceEqDiff, Nat.reduceLT, Nat.reduceLeDiff, Nat.reduceMul, Nat.reduceSub, reduceIte, splice, vfill, bne_self_eq_false, eqOffs, eqSc, g3, g4, l0, z6, hfl, w7, wf, w3, w8, g1, g2]))
    refine x_on rfl ?_
    refine x_call none (up works_fn) (by (simp only [go_sem, reduceIte, Nat.reduceEqDiff, V.norms, V.norm]); try rfl) ?_
    repeat (first | with_reducible refine x_ops ?_ | (simp only [go_sem, Nat.reduceAdd, Nat.reduceEqDiff, Nat.reduceLT, Nat.reduceLeDiff, Nat.reduceMul, Nat.reduceSub, reduceIte, splice, vfill]))
    exact finV_ret (r' := _) (by (simp only [go_sem, Nat.reduceAdd, Nat.reduceEqDiff, Nat.reduceLT, Nat.reduceLeDiff, Nat.reduceMul, Nat.reduceSub, reduceIte, resV, resAll, resOne, oneOr]); try rfl) (.lit _)
end Go.Proofs.YtbdhjpdjbogggaaDoor
