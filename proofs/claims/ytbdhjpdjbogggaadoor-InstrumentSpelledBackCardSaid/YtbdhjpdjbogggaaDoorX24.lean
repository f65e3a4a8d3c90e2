/- Contracts on values: numerals and names of notes. -/
import Derived.Test.YtbdhjpdjbogggaaDoorG2
import Derived.Test.YtbdhjpdjbogggaaDoorP5
import Derived.Test.YtbdhjpdjbogggaaDoorR1
import Derived.Test.YtbdhjpdjbogggaaDoorW1
import Derived.Test.YtbdhjpdjbogggaaDoorX12
namespace Go.Proofs.YtbdhjpdjbogggaaDoor
open Go.RowKit
attribute [local go_sem] vx_skip vx_ret vx_exit vx_seq vx_block vx_scope vx_cond vx_condT vx_condF gR_nil gR_cons VO.stops beq_self_eq_true Bool.false_beq Bool.true_beq Bool.not_true Bool.not_false Bool.false_eq_true if_false exo VI.on if_true exoOp pureSem List.map_cons List.map_nil St.ev initT Option.map_some putT_get putT_none put_obj put_next M0_next freeze_obj freeze_next List.getD_cons_zero List.getD_cons_succ List.getD_nil V.cells rdable Nat.add_assoc Nat.add_zero Nat.add_left_cancel_iff Nat.add_eq_left Nat.left_eq_add decide_true Bool.true_or ite_self onB vbinI vint vbool List.drop_zero List.take_succ_cons List.drop_succ_cons List.take_zero List.length_cons List.length_nil List.getElem?_cons_zero List.getElem?_cons_succ decide_eq_true_eq true_and and_true Nat.le_refl List.zip_cons_cons List.zip_nil_left V.pubs V.pub Option.bind_some List.all_cons List.all_nil V.one Bool.and_self List.cons_append List.nil_append then_nrm then_ret then_exit inB_nrm inB_ret inB_exit Int.toNat_natCast Int.natCast_nonneg eq_self Nat.zero_add Nat.mul_one
set_option linter.unusedSimpArgs false
set_option linter.unusedVariables false

theorem pure_str (l : List UInt8) : V.pure (str l) = true := by rw [str, V.pure]
theorem rem_nat (n : Nat) : ((n : Nat) : Int).tmod 10 = ((n % 10 : Nat) : Int) := rfl
theorem quo_nat (n : Nat) : ((n : Nat) : Int).tdiv 10 = ((n / 10 : Nat) : Int) := rfl
theorem digs_at {d : Nat} (h : d < 10) : (⟨#[48, 49, 50, 51, 52, 53, 54, 55, 56, 57]⟩ : ByteArray).extract d (d + 1) = ⟨[UInt8.ofNat (48 + d)].toArray⟩ := dig_fin ⟨d, h⟩
theorem dec_le : ∀ (k n : Nat), n < 10 ^ (k + 1) → (Lib.decDigits n).length ≤ k + 1
  | 0, n, h => by rw [dec_small (by simpa using h)]; exact Nat.le_refl _
  | k + 1, n, h => by
    by_cases h10 : n < 10
    · rw [dec_small h10]; simp
    · rw [dec_big h10, List.length_append]
      have := dec_le k (n / 10) (by rw [Nat.pow_succ] at h; omega)
      simp; omega
theorem dec_fn : ∀ n : Nat, n < 100000 → Fn Tryd.prog Gp 86 [vint n] (str (Lib.decDigits n)) := by
  intro n
  induction n using Nat.strongRecOn with
  | _ n ih =>
    intro hn
    refine Fn.of_vx0 k_theorboref01_Decimal (by simp) (pures1 (pure_vint _)) ?_
    unfold c_theorboref01_Decimal
    have d1 : decide ((n : Int) < 0) = false := by simp; try omega
    have hw1 : IntKind.i64.wrap (((n % 10 : Nat) : Int) + 1) = ((n % 10 + 1 : Nat) : Int) := by rw [IntWalk.i64_in _ (by omega)]; omega
    have hd := digs_at (d := n % 10) (by omega)
    have c1 : (((n % 10 : Nat) : Int) ≤ ((n % 10 + 1 : Nat) : Int) ∧ ((n % 10 + 1 : Nat) : Int) ≤ ((⟨#[48, 49, 50, 51, 52, 53, 54, 55, 56, 57]⟩ : ByteArray).size : Int)) := by
      have : ((⟨#[48, 49, 50, 51, 52, 53, 54, 55, 56, 57]⟩ : ByteArray).size : Int) = 10 := rfl
      rw [this]; omega
    have c2 : ((n % 10 + 1 : Nat) : Int) ≤ (((#[48, 49, 50, 51, 52, 53, 54, 55, 56, 57] : Array UInt8).size : Nat) : Int) := by
      have : (((#[48, 49, 50, 51, 52, 53, 54, 55, 56, 57] : Array UInt8).size : Nat) : Int) = 10 := rfl
      rw [this]; omega
    have n10 : ¬ ((10 : Int) = 0) := by decide
    by_cases h10 : n < 10
    · have d2 : decide ((n : Int) < 10) = true := by simp; omega
      rw [dec_small h10]
      rw [show n % 10 = n by omega] at hw1 hd c1 c2
      have hm : ((n : Nat) : Int).tmod 10 = (n : Int) := by rw [rem_nat]; omega
      repeat (first | with_reducible refine x_ops ?_ | (simp only [go_sem, Nat.reduceAdd, Nat.reduceEqDiff, Nat.reduceLT, Nat.reduceLeDiff, Nat.reduceMul, Nat.reduceSub, reduceIte, splice, vfill, d1, n10, hm, hw1, bnds, vslS, c1, c2, hd, d2]))
      exact finV_ret (r' := _) (by (simp only [go_sem, Nat.reduceAdd, Nat.reduceEqDiff, Nat.reduceLT, Nat.reduceLeDiff, Nat.reduceMul, Nat.reduceSub, reduceIte, resV, resAll, resOne, oneOr]); try rfl) (.lit _)
    · have d2 : decide ((n : Int) < 10) = false := by simp; omega
      have hwq : IntKind.i64.wrap ((n / 10 : Nat) : Int) = ((n / 10 : Nat) : Int) := IntWalk.i64_in _ (by omega)
      have I := ih (n / 10) (by omega) (by omega)
      have hl := dec_le 4 (n / 10) (by omega)
      rw [dec_big h10]
      repeat (first | with_reducible refine x_ops ?_ | (simp only [go_sem, Nat.reduceAdd, Nat.reduceEqDiff, Nat.reduceLT, Nat.reduceLeDiff, Nat.reduceMul, Nat.reduceSub, reduceIte, splice, vfill, d1, n10, rem_nat, hw1, bnds, vslS, c1, c2, hd, d2, quo_nat, hwq]))
      refine x_call none I (by (simp only [go_sem, reduceIte, Nat.reduceEqDiff, V.norms, V.norm]); try rfl) ?_
      have hva := vadd (a := Lib.decDigits (n / 10)) (b := [UInt8.ofNat (48 + n % 10)]) (by simp; omega)
      repeat (first | with_reducible refine x_ops ?_ | (simp only [go_sem, Nat.reduceAdd, Nat.reduceEqDiff, Nat.reduceLT, Nat.reduceLeDiff, Nat.reduceMul, Nat.reduceSub, reduceIte, splice, vfill, str, hva]))
      exact finV_ret (r' := _) (by (simp only [go_sem, Nat.reduceAdd, Nat.reduceEqDiff, Nat.reduceLT, Nat.reduceLeDiff, Nat.reduceMul, Nat.reduceSub, reduceIte, resV, resAll, resOne, oneOr]); try rfl) (.lit _)
theorem decNeg_fn (n : Nat) (h0 : 0 < n) (hn : n < 1000) : Fn Tryd.prog Gp 86 [vint (-(n : Int))] (str (45 :: Lib.decDigits n)) := by
  refine Fn.of_vx0 k_theorboref01_Decimal (by simp) (pures1 (pure_vint _)) ?_
  unfold c_theorboref01_Decimal
  have d1 : decide ((-(n : Int)) < 0) = true := by simp; omega
  have hw : IntKind.i64.wrap (0 - -(n : Int)) = (n : Int) := by rw [IntWalk.i64_in _ (by omega)]; omega
  have hl := dec_le 2 n (by omega)
  have hva := vadd (a := [45]) (b := Lib.decDigits n) (by simp; omega)
  repeat (first | with_reducible refine x_ops ?_ | (simp only [go_sem, Nat.reduceAdd, Nat.reduceEqDiff, Nat.reduceLT, Nat.reduceLeDiff, Nat.reduceMul, Nat.reduceSub, reduceIte, splice, vfill, d1, hw]))
  refine x_call none (dec_fn n (by omega)) (by (simp only [go_sem, reduceIte, Nat.reduceEqDiff, V.norms, V.norm]); try rfl) ?_
  repeat (first | with_reducible refine x_ops ?_ | (simp only [go_sem, Nat.reduceAdd, Nat.reduceEqDiff, Nat.reduceLT, Nat.reduceLeDiff, Nat.reduceMul, Nat.reduceSub, reduceIte, splice, vfill, str, hva]))
  exact finV_ret (r' := _) (by (simp only [go_sem, Nat.reduceAdd, Nat.reduceEqDiff, Nat.reduceLT, Nat.reduceLeDiff, Nat.reduceMul, Nat.reduceSub, reduceIte, resV, resAll, resOne, oneOr]); try rfl) (.lit _)
theorem decimal_fn (n : Int) (h0 : -1000 < n) (h1 : n < 1000) : Fn Tryd.prog Gp 86 [vint n] (str (Lib.itoa n)) := by
  rcases Int.lt_or_le n 0 with h | h
  · obtain ⟨k, rfl⟩ : ∃ k : Nat, n = -(k : Int) := ⟨n.natAbs, by omega⟩
    rw [Lib.itoa, if_pos h, show (-(k : Int)).natAbs = k by omega]
    exact decNeg_fn k (by omega) (by omega)
  · obtain ⟨k, rfl⟩ : ∃ k : Nat, n = k := ⟨n.toNat, by omega⟩
    rw [itoa_nat]
    exact dec_fn k (by omega)
theorem itoa_le {n : Int} (h0 : -1000 < n) (h1 : n < 1000) : (Lib.itoa n).length ≤ 4 := by
  rw [Lib.itoa]
  split
  · have := dec_le 2 n.natAbs (by omega)
    simp; omega
  · have := dec_le 2 n.toNat (by omega)
    omega

/-! ### Names -/
def tSp (l a o : Int) : V := .agg [vint l, vint a, vint o]
theorem pure_tSp (l a o : Int) : V.pure (tSp l a o) = true := by
  rw [tSp, V.pure, V.pures, V.pures, V.pures, V.pures, vint, vint, vint, V.pure, V.pure, V.pure]; rfl
theorem three_arg {E : Env} {l a o : Int} {cargs : Array Value} (h : VRs E [tSp l a o] cargs.toList) : cargs = #[.agg #[.int .i64 l, .int .i64 a, .int .i64 o]] := by
  obtain ⟨c, rfl, hr⟩ := one_arg h
  rw [tSp, VR] at hr
  obtain ⟨x, rfl, hr⟩ := hr
  obtain ⟨p, q, r, e, h1, h2, h3⟩ := VRs_three hr
  obtain rfl := VR_lit h1
  obtain rfl := VR_lit h2
  obtain rfl := VR_lit h3
  obtain rfl : x = #[Value.int .i64 l, Value.int .i64 a, Value.int .i64 o] := Array.ext' e
  rfl
theorem VR_pair {E : Env} (a b : Int) : VR E (.tup [vint a, vint b]) (.tuple #[.int .i64 a, .int .i64 b]) := by
  rw [VR]
  refine ⟨_, rfl, ?_⟩
  rw [VRs]
  refine ⟨_, _, rfl, VR_mk rfl, ?_⟩
  rw [VRs]
  refine ⟨_, _, rfl, VR_mk rfl, ?_⟩
  rw [VRs]
theorem sounding_fn (l a o : Int) : Fn Tryd.prog Gd 56 [tSp l a o] (.tup [vint (sndP l a o), vint (sndE l a o)]) :=
  fn_flat (fun _ => VR_pair _ _) fun E w cargs hG hst hv => by
    obtain rfl := three_arg hv
    exact sounding_any l a o w (gnd_w hG hst)
theorem rsounding_fn (l a o : Int) : Fn Tryd.prog Gd 57 [tSp l a o] (.tup [vint (sndP l a o), vint (sndE l a o)]) :=
  fn_flat (fun _ => VR_pair _ _) fun E w cargs hG hst hv => by
    obtain rfl := three_arg hv
    exact rsounding_any l a o w
theorem rright_fn (l a o : Int) : Fn Tryd.prog Gd 66 [tSp l a o] (vbool (right l a o)) :=
  fn_flat (fun _ => VR_mk rfl) fun E w cargs hG hst hv => by
    obtain rfl := three_arg hv
    exact rright_any l a o w
theorem own_fn (l a o : Int) : Fn Tryd.prog Gd 22 [tSp l a o] (tSp l a o) := by
  refine Fn.of_vx0 k_theorbolaw01_own (by simp) (pures1 (pure_tSp l a o)) ?_
  unfold c_theorbolaw01_own tSp
  repeat (first | with_reducible refine x_ops ?_ | (simp only [go_sem, Nat.reduceAdd, Nat.reduceEqDiff, Nat.reduceLT, Nat.reduceLeDiff, Nat.reduceMul, Nat.reduceSub, reduceIte, splice, vfill]))
  exact finV_ret (r' := _) (by (simp only [go_sem, Nat.reduceAdd, Nat.reduceEqDiff, Nat.reduceLT, Nat.reduceLeDiff, Nat.reduceMul, Nat.reduceSub, reduceIte, resV, resAll, resOne, oneOr]); try rfl) (.agg (.cons (.lit _) (.cons (.lit _) (.cons (.lit _) .nil))))
end Go.Proofs.YtbdhjpdjbogggaaDoor
