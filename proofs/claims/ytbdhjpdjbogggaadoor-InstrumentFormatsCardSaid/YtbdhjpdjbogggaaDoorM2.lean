/- The ground with the table of powers of ten; numerals. Contracts on values: numerals and names of notes. Contracts on values: names of notes; the law Sounds. The law of what is spelled: on values. -/
import Derived.Test.YtbdhjpdjbogggaaDoorX7
import Derived.Test.YtbdhjpdjbogggaaDoorShelf
import Derived.Test.YtbdhjpdjbogggaaDoorP5
import Derived.Test.YtbdhjpdjbogggaaDoorR1
import Derived.Test.YtbdhjpdjbogggaaDoorW1
import Derived.Test.YtbdhjpdjbogggaaDoorX12
import Derived.Test.YtbdhjpdjbogggaaDoorW13
import Derived.Test.YtbdhjpdjbogggaaDoorW6
namespace Go.Proofs.YtbdhjpdjbogggaaDoor
open Go.RowKit
set_option linter.unusedSimpArgs false
set_option linter.unusedVariables false

theorem Fn.up {P : Program} {G G' : Ground} {f : FuncId} {args : List V} {r : V} (h : Fn P G f args r) (h0 : ∀ M w, G'.ok M w → G.ok M w) : Fn P G' f args r := fun m E w cargs hG hm hv => h m E w cargs (h0 _ _ hG) hm hv

def pwCells : Array Value := (Lib.pow10Tab.map fun z => Value.int .u64 z).toArray
theorem pwCells_size : pwCells.size = 20 := by simp [pwCells, Lib.pow10Tab]
def pwB : Nat := 3
theorem gPow : Tryd.prog.globalNamed "internal/strconv.uint64pow10" = some pwB := by kernel_rfl
/-- The table stands whole. -/
def PowOk (M : Nat → Nat → Option Value) (w : World) : Prop := (∃ t fr, w.heap[pwB]? = some (.cells pwCells t fr)) ∧ ∀ o u, pwCells[o]? = some u → M pwB o = some u
theorem PowOk.tab {M : Nat → Nat → Option Value} {w : World} (h : PowOk M w) : Lib.TabIs Tryd.prog w "internal/strconv.uint64pow10" .u64 Lib.pow10Tab := by
  obtain ⟨⟨t, fr, h1⟩, _⟩ := h
  unfold Lib.TabIs World.var?
  rw [gPow, Option.bind_some, h1]; rfl
theorem PowOk.step {X : Nat → Prop} {E E' : Env} {m m' : Mm} {w w' : World} (hm : MemR E m w) (hs : Step X E m w E' m' w') (h : PowOk E.M w) : PowOk E'.M w' := by
  obtain ⟨⟨t, fr, h1⟩, h2⟩ := h
  have h20 := pwCells_size
  have hlt := heap_lt h1
  refine ⟨⟨t, fr, (hs.kept pwB hlt fun i hi => ?_).trans h1⟩, fun o u hu => hs.le.M _ _ _ (h2 o u hu)⟩
  rcases hi with ⟨cs, t', ho, hφ⟩ | ⟨n, e, size, cap, ho, hl, hn⟩
  · obtain ⟨b, c, h3, h4, _, h5⟩ := hm.box i cs t' ho
    rw [hφ] at h3; cases h3
    have := h2 0 _ (Array.getElem?_eq_getElem (show 0 < pwCells.size by omega))
    rw [h5 0] at this; cases this
  · obtain ⟨A, cap', h3, _, _, h5⟩ := hm.row i n e size ho
    rw [hl] at h3; cases h3
    obtain ⟨b, c, h6, h7, h8, h9⟩ := h5 hn
    cases h6
    rw [h1] at h7
    have hc : c = pwCells := by cases h7; rfl
    subst hc
    have hsz : n * size < cap * size := by
      rcases Nat.eq_zero_or_pos size with h0 | h0
      · rw [h0, Nat.mul_zero] at h8; omega
      · exact Nat.mul_lt_mul_of_pos_right hn h0
    have := h2 (n * size) _ (Array.getElem?_eq_getElem (show n * size < pwCells.size by omega))
    rw [h9 _ (Nat.le_refl _)] at this; cases this
/-- This program's ground, with that table. -/
def Gp : Ground := ⟨fun M w => GOk M ∧ PowOk M w, fun _ _ _ _ _ _ _ hm hs h => ⟨GOk.mono hs.le.M h.1, h.2.step hm hs⟩, gtab, gtab_clean, fun E _ h g => gtab_ok E h.1 g⟩
theorem up {f : FuncId} {args : List V} {r : V} (h : Fn Tryd.prog Gd f args r) : Fn Tryd.prog Gp f args r := h.up fun _ _ h => h.1

def str (l : List UInt8) : V := .lit (.string ⟨l.toArray⟩)
theorem grow_below (w : World) (k : Nat) (os : Array Obj) : Below w.heap.size w (Go.Sort.grow (w.drewN k) os) :=
  ⟨rfl, rfl, rfl, by simp [Go.Sort.grow], fun b hb => by simp [Go.Sort.grow, Array.getElem?_append, hb]⟩
theorem itoa_fn (n : Int) (h0 : -9223372036854775808 ≤ n) (h1 : n ≤ 9223372036854775807) : Fn Tryd.prog Gp 85 [vint n] (str (Lib.itoa n)) :=
  Fn.of_calls fun E w cargs hG hst hv => by
    obtain ⟨c, hc, hr⟩ := VRs_one hv
    obtain rfl : cargs = #[c] := Array.ext' hc
    obtain rfl := VR_lit hr
    refine (Tryd.strconv_Itoa n h0 h1 w hG.2.tab).mono ?_
    rintro e w' ⟨rfl, k, os, rfl⟩
    have hb := grow_below w k os
    exact ⟨_, rfl, hb, E.M, fun _ _ _ x => x, fun _ _ _ => rfl, fun b o v hM => by rw [hb.cell (p := ⟨b, o, none⟩) (cell_lt (hst _ _ _ hM))]; exact hst _ _ _ hM, VR_mk rfl⟩

/-! ### Numerals -/
theorem itoa_nat (n : Nat) : Lib.itoa (n : Int) = Lib.decDigits n := by rw [Lib.itoa, if_neg (by omega)]; rfl
theorem dec_small {n : Nat} (h : n < 10) : Lib.decDigits n = [UInt8.ofNat (48 + n)] := by rw [Lib.decDigits, dif_pos h]
theorem dec_big {n : Nat} (h : ¬ n < 10) : Lib.decDigits n = Lib.decDigits (n / 10) ++ [UInt8.ofNat (48 + n % 10)] := by rw [Lib.decDigits, dif_neg h]
theorem bytes_append (a b : List UInt8) : (⟨a.toArray⟩ : ByteArray) ++ ⟨b.toArray⟩ = ⟨(a ++ b).toArray⟩ := by
  apply ByteArray.ext
  simp
theorem vadd {a b : List UInt8} (h : a.length + b.length ≤ 9223372036854775807) : vbinS .add ⟨a.toArray⟩ ⟨b.toArray⟩ = some (.string ⟨(a ++ b).toArray⟩) := by
  rw [vbinS, if_pos, bytes_append]
  show a.toArray.size + b.toArray.size ≤ _
  simpa using h
theorem dig_fin : ∀ d : Fin 10, (⟨#[48, 49, 50, 51, 52, 53, 54, 55, 56, 57]⟩ : ByteArray).extract d.val (d.val + 1) = ⟨[UInt8.ofNat (48 + d.val)].toArray⟩ := by decide +kernel
end Go.Proofs.YtbdhjpdjbogggaaDoor
namespace Go.Proofs.YtbdhjpdjbogggaaDoor
open Go.RowKit
attribute [local go_sem] vx_skip vx_ret vx_exit vx_seq vx_block vx_scope vx_cond vx_condT vx_condF gR_nil gR_cons VO.stops beq_self_eq_true Bool.false_beq Bool.true_beq Bool.not_true Bool.not_false Bool.false_eq_true if_false exo VI.on if_true exoOp pureSem List.map_cons List.map_nil St.ev initT Option.map_some putT_get putT_none put_obj put_next M0_next freeze_obj freeze_next List.getD_cons_zero List.getD_cons_succ List.getD_nil V.cells rdable Nat.add_assoc Nat.add_zero Nat.add_left_cancel_iff Nat.add_eq_left Nat.left_eq_add decide_true Bool.true_or ite_self onB vbinI vint vbool List.drop_zero List.take_succ_cons List.drop_succ_cons List.take_zero List.length_cons List.length_nil List.getElem?_cons_zero List.getElem?_cons_succ decide_eq_true_eq true_and and_true Nat.le_refl List.zip_cons_cons List.zip_nil_left V.pubs V.pub Option.bind_some List.all_cons List.all_nil V.one Bool.and_self List.cons_append List.nil_append then_nrm then_ret then_exit inB_nrm inB_ret inB_exit Int.toNat_natCast Int.natCast_nonneg eq_self Nat.zero_add Nat.mul_one
set_option linter.unusedSimpArgs false
set_option linter.unusedVariables false

theorem pure_str (l : List UInt8) : V.pure (str l) = true := by rw [str, V.pure]
theorem rem_nat (n : Nat) : ((n : Nat) : Int).tmod 10 = ((n % 10 : Nat) : Int) := rfl
theorem quo_nat (n : Nat) : ((n : Nat) : Int).tdiv 10 = ((n / 10 : Nat) : Int) := rfl
theorem digs_at {d : Nat} (h : d < 10) : (⟨#[48, 49, 50, 51, 52, 53, 54, 55, 56, 57]⟩ : ByteArray).extract d (d + 1) = ⟨[UInt8.ofNat (48 + d)].toArray⟩ := dig_fin ⟨d, h⟩
theorem dec_le : ∀ (k n : Nat), n < 10 ^ (k + 1) → (Lib.decDigits n).length ≤ k + 1
  | 0, n, h => by rw [dec_small (by simpa using h)]; exact Nat.le_refl _
  | k + 1, n, h => by
    by_cases h10 : n < 10
    · rw [dec_small h10]; simp
    · rw [dec_big h10, List.length_append]
      have := dec_le k (n / 10) (by rw [Nat.pow_succ] at h; omega)
      simp; omega
theorem dec_fn : ∀ n : Nat, n < 100000 → Fn Tryd.prog Gp 86 [vint n] (str (Lib.decDigits n)) := by
  intro n
  induction n using Nat.strongRecOn with
  | _ n ih =>
    intro hn
    refine Fn.of_vx0 k_theorboref01_Decimal (by simp) (pures1 (pure_vint _)) ?_
    unfold c_theorboref01_Decimal
    have d1 : decide ((n : Int) < 0) = false := by simp; try omega
    have hw1 : IntKind.i64.wrap (((n % 10 : Nat) : Int) + 1) = ((n % 10 + 1 : Nat) : Int) := by rw [IntWalk.i64_in _ (by omega)]; omega
    have hd := digs_at (d := n % 10) (by omega)
    have c1 : (((n % 10 : Nat) : Int) ≤ ((n % 10 + 1 : Nat) : Int) ∧ ((n % 10 + 1 : Nat) : Int) ≤ ((⟨#[48, 49, 50, 51, 52, 53, 54, 55, 56, 57]⟩ : ByteArray).size : Int)) := by
      have : ((⟨#[48, 49, 50, 51, 52, 53, 54, 55, 56, 57]⟩ : ByteArray).size : Int) = 10 := rfl
      rw [this]; omega
    have c2 : ((n % 10 + 1 : Nat) : Int) ≤ (((#[48, 49, 50, 51, 52, 53, 54, 55, 56, 57] : Array UInt8).size : Nat) : Int) := by
      have : (((#[48, 49, 50, 51, 52, 53, 54, 55, 56, 57] : Array UInt8).size : Nat) : Int) = 10 := rfl
      rw [this]; omega
    have n10 : ¬ ((10 : Int) = 0) := by decide
    by_cases h10 : n < 10
    · have d2 : decide ((n : Int) < 10) = true := by simp; omega
      rw [dec_small h10]
      rw [show n % 10 = n by omega] at hw1 hd c1 c2
      have hm : ((n : Nat) : Int).tmod 10 = (n : Int) := by rw [rem_nat]; omega
      repeat (first | with_reducible refine x_ops ?_ | (simp only [go_sem, Nat.reduceAdd, Nat.reduceEqDiff, Nat.reduceLT, Nat.reduceLeDiff, Nat.reduceMul, Nat.reduceSub, reduceIte, splice, vfill, d1, n10, hm, hw1, bnds, vslS, c1, c2, hd, d2]))
      exact finV_ret (r' := _) (by (simp only [go_sem, Nat.reduceAdd, Nat.reduceEqDiff, Nat.reduceLT, Nat.reduceLeDiff, Nat.reduceMul, Nat.reduceSub, reduceIte, resV, resAll, resOne, oneOr]); try rfl) (.lit _)
    · have d2 : decide ((n : Int) < 10) = false := by simp; omega
      have hwq : IntKind.i64.wrap ((n / 10 : Nat) : Int) = ((n / 10 : Nat) : Int) := IntWalk.i64_in _ (by omega)
      have I := ih (n / 10) (by omega) (by omega)
      have hl := dec_le 4 (n / 10) (by omega)
      rw [dec_big h10]
      repeat (first | with_reducible refine x_ops ?_ | (simp only [go_sem, Nat.reduceAdd, Nat.reduceEqDiff, Nat.reduceLT, Nat.reduceLeDiff, Nat.reduceMul, Nat.reduceSub, reduceIte, splice, vfill, d1, n10, rem_nat, hw1, bnds, vslS, c1, c2, hd, d2, quo_nat, hwq]))
      refine x_call none I (by (simp only [go_sem, reduceIte, Nat.reduceEqDiff, V.norms, V.norm]); try rfl) ?_
      have hva := vadd (a := Lib.decDigits (n / 10)) (b := [UInt8.ofNat (48 + n % 10)]) (by simp; omega)
      repeat (first | with_reducible refine x_ops ?_ | (simp only [go_sem, Nat.reduceAdd, Nat.reduceEqDiff, Nat.reduceLT, Nat.reduceLeDiff, Nat.reduceMul, Nat.reduceSub, reduceIte, splice, vfill, str, hva]))
      exact finV_ret (r' := _) (by (simp only [go_sem, Nat.reduceAdd, Nat.reduceEqDiff, Nat.reduceLT, Nat.reduceLeDiff, Nat.reduceMul, Nat.reduceSub, reduceIte, resV, resAll, resOne, oneOr]); try rfl) (.lit _)
theorem decNeg_fn (n : Nat) (h0 : 0 < n) (hn : n < 1000) : Fn Tryd.prog Gp 86 [vint (-(n : Int))] (str (45 :: Lib.decDigits n)) := by
  refine Fn.of_vx0 k_theorboref01_Decimal (by simp) (pures1 (pure_vint _)) ?_
  unfold c_theorboref01_Decimal
  have d1 : decide ((-(n : Int)) < 0) = true := by simp; omega
  have hw : IntKind.i64.wrap (0 - -(n : Int)) = (n : Int) := by rw [IntWalk.i64_in _ (by omega)]; omega
  have hl := dec_le 2 n (by omega)
  have hva := vadd (a := [45]) (b := Lib.decDigits n) (by simp; omega)
  repeat (first | with_reducible refine x_ops ?_ | (simp only [go_sem, Nat.reduceAdd, Nat.reduceEqDiff, Nat.reduceLT, Nat.reduceLeDiff, Nat.reduceMul, Nat.reduceSub, reduceIte, splice, vfill, d1, hw]))
  refine x_call none (dec_fn n (by omega)) (by (simp only [go_sem, reduceIte, Nat.reduceEqDiff, V.norms, V.norm]); try rfl) ?_
  repeat (first | with_reducible refine x_ops ?_ | (simp only [go_sem, Nat.reduceAdd, Nat.reduceEqDiff, Nat.reduceLT, Nat.reduceLeDiff, Nat.reduceMul, Nat.reduceSub, reduceIte, splice, vfill, str, hva]))
  exact finV_ret (r' := _) (by (simp only [go_sem, Nat.reduceAdd, Nat.reduceEqDiff, Nat.reduceLT, Nat.reduceLeDiff, Nat.reduceMul, Nat.reduceSub, reduceIte, resV, resAll, resOne, oneOr]); try rfl) (.lit _)
theorem decimal_fn (n : Int) (h0 : -1000 < n) (h1 : n < 1000) : Fn Tryd.prog Gp 86 [vint n] (str (Lib.itoa n)) := by
  rcases Int.lt_or_le n 0 with h | h
  · obtain ⟨k, rfl⟩ : ∃ k : Nat, n = -(k : Int) := ⟨n.natAbs, by omega⟩
    rw [Lib.itoa, if_pos h, show (-(k : Int)).natAbs = k by omega]
    exact decNeg_fn k (by omega) (by omega)
  · obtain ⟨k, rfl⟩ : ∃ k : Nat, n = k := ⟨n.toNat, by omega⟩
    rw [itoa_nat]
    exact dec_fn k (by omega)
theorem itoa_le {n : Int} (h0 : -1000 < n) (h1 : n < 1000) : (Lib.itoa n).length ≤ 4 := by
  rw [Lib.itoa]
  split
  · have := dec_le 2 n.natAbs (by omega)
    simp; omega
  · have := dec_le 2 n.toNat (by omega)
    omega

/-! ### Names -/
def tSp (l a o : Int) : V := .agg [vint l, vint a, vint o]
theorem pure_tSp (l a o : Int) : V.pure (tSp l a o) = true := by
  rw [tSp, V.pure, V.pures, V.pures, V.pures, V.pures, vint, vint, vint, V.pure, V.pure, V.pure]; rfl
theorem three_arg {E : Env} {l a o : Int} {cargs : Array Value} (h : VRs E [tSp l a o] cargs.toList) : cargs = #[.agg #[.int .i64 l, .int .i64 a, .int .i64 o]] := by
  obtain ⟨c, rfl, hr⟩ := one_arg h
  rw [tSp, VR] at hr
  obtain ⟨x, rfl, hr⟩ := hr
  obtain ⟨p, q, r, e, h1, h2, h3⟩ := VRs_three hr
  obtain rfl := VR_lit h1
  obtain rfl := VR_lit h2
  obtain rfl := VR_lit h3
  obtain rfl : x = #[Value.int .i64 l, Value.int .i64 a, Value.int .i64 o] := Array.ext' e
  rfl
theorem VR_pair {E : Env} (a b : Int) : VR E (.tup [vint a, vint b]) (.tuple #[.int .i64 a, .int .i64 b]) := by
  rw [VR]
  refine ⟨_, rfl, ?_⟩
  rw [VRs]
  refine ⟨_, _, rfl, VR_mk rfl, ?_⟩
  rw [VRs]
  refine ⟨_, _, rfl, VR_mk rfl, ?_⟩
  rw [VRs]
theorem sounding_fn (l a o : Int) : Fn Tryd.prog Gd 56 [tSp l a o] (.tup [vint (sndP l a o), vint (sndE l a o)]) :=
  fn_flat (fun _ => VR_pair _ _) fun E w cargs hG hst hv => by
    obtain rfl := three_arg hv
    exact sounding_any l a o w (gnd_w hG hst)
theorem rsounding_fn (l a o : Int) : Fn Tryd.prog Gd 57 [tSp l a o] (.tup [vint (sndP l a o), vint (sndE l a o)]) :=
  fn_flat (fun _ => VR_pair _ _) fun E w cargs hG hst hv => by
    obtain rfl := three_arg hv
    exact rsounding_any l a o w
theorem rright_fn (l a o : Int) : Fn Tryd.prog Gd 66 [tSp l a o] (vbool (right l a o)) :=
  fn_flat (fun _ => VR_mk rfl) fun E w cargs hG hst hv => by
    obtain rfl := three_arg hv
    exact rright_any l a o w
theorem own_fn (l a o : Int) : Fn Tryd.prog Gd 22 [tSp l a o] (tSp l a o) := by
  refine Fn.of_vx0 k_theorbolaw01_own (by simp) (pures1 (pure_tSp l a o)) ?_
  unfold c_theorbolaw01_own tSp
  repeat (first | with_reducible refine x_ops ?_ | (simp only [go_sem, Nat.reduceAdd, Nat.reduceEqDiff, Nat.reduceLT, Nat.reduceLeDiff, Nat.reduceMul, Nat.reduceSub, reduceIte, splice, vfill]))
  exact finV_ret (r' := _) (by (simp only [go_sem, Nat.reduceAdd, Nat.reduceEqDiff, Nat.reduceLT, Nat.reduceLeDiff, Nat.reduceMul, Nat.reduceSub, reduceIte, resV, resAll, resOne, oneOr]); try rfl) (.agg (.cons (.lit _) (.cons (.lit _) (.cons (.lit _) .nil))))
end Go.Proofs.YtbdhjpdjbogggaaDoor
namespace Go.Proofs.YtbdhjpdjbogggaaDoor
open Go.RowKit
attribute [local go_sem] vx_skip vx_ret vx_exit vx_seq vx_block vx_scope vx_cond vx_condT vx_condF gR_nil gR_cons VO.stops beq_self_eq_true Bool.false_beq Bool.true_beq Bool.not_true Bool.not_false Bool.false_eq_true if_false exo VI.on if_true exoOp pureSem List.map_cons List.map_nil St.ev initT Option.map_some putT_get putT_none put_obj put_next M0_next freeze_obj freeze_next List.getD_cons_zero List.getD_cons_succ List.getD_nil V.cells rdable Nat.add_assoc Nat.add_zero Nat.add_left_cancel_iff Nat.add_eq_left Nat.left_eq_add decide_true Bool.true_or ite_self onB vbinI vint vbool List.drop_zero List.take_succ_cons List.drop_succ_cons List.take_zero List.length_cons List.length_nil List.getElem?_cons_zero List.getElem?_cons_succ decide_eq_true_eq true_and and_true Nat.le_refl List.zip_cons_cons List.zip_nil_left V.pubs V.pub Option.bind_some List.all_cons List.all_nil V.one Bool.and_self List.cons_append List.nil_append then_nrm then_ret then_exit inB_nrm inB_ret inB_exit Int.toNat_natCast Int.natCast_nonneg eq_self Nat.zero_add Nat.mul_one
set_option linter.unusedSimpArgs false
set_option linter.unusedVariables false

def letL (k : Nat) : List UInt8 := [([67, 68, 69, 70, 71, 65, 66] : List UInt8).getD k 0]
theorem lets_fin : ∀ d : Fin 7, (⟨#[67, 68, 69, 70, 71, 65, 66]⟩ : ByteArray).extract d.val (d.val + 1) = ⟨(letL d.val).toArray⟩ := by decide +kernel
theorem lets_at {k : Nat} (h : k < 7) : (⟨#[67, 68, 69, 70, 71, 65, 66]⟩ : ByteArray).extract k (k + 1) = ⟨(letL k).toArray⟩ := lets_fin ⟨k, h⟩
def sgn (a : Int) : List UInt8 := if a = 1 then [35] else if a = -1 then [98] else []
def nmL (l a o : Int) : List UInt8 := letL l.toNat ++ sgn a ++ Lib.itoa o
def nameV (l a o : Int) : V := if right l a o = true then .tup [str (nmL l a o), vint 0] else .tup [str [], vint 10]
theorem vw_strp {m : Mm} {S : Nat → Bool} (s : List UInt8) (e : Int) : Vw m S (.tup [str s, vint e]) (.tup [str s, vint e]) := .tup (.cons (.lit _) (.cons (.lit _) .nil))
theorem right_in {l a o : Int} (h : right l a o = true) : 0 ≤ l ∧ l ≤ 6 ∧ -1 ≤ a ∧ a ≤ 1 ∧ -1 ≤ o ∧ o ≤ 9 := by
  simp [right, inb] at h
  omega
theorem name_fn (l a o : Int) : Fn Tryd.prog Gp 58 [tSp l a o] (nameV l a o) := by
  refine Fn.of_vx0 k_instrument_Name (by simp) (pures1 (pure_tSp l a o)) ?_
  unfold c_instrument_Name tSp
  have S := up (sounding_fn l a o)
  repeat (first | with_reducible refine x_ops ?_ | (simp only [go_sem, Nat.reduceAdd, Nat.reduceEqDiff, Nat.reduceLT, Nat.reduceLeDiff, Nat.reduceMul, Nat.reduceSub, reduceIte, splice, vfill]))
  refine x_call none S (by (simp only [go_sem, reduceIte, Nat.reduceEqDiff, V.norms, V.norm]); try rfl) ?_
  by_cases h : right l a o = true
  · rw [nameV, if_pos h, sndE, if_pos h]
    obtain ⟨l0, l6, a0, a1, o0, o1⟩ := right_in h
    have hw : IntKind.i64.wrap (l + 1) = l + 1 := IntWalk.i64_in _ (by omega)
    have hL := lets_at (k := l.toNat) (by omega)
    have e1 : (l + 1).toNat = l.toNat + 1 := by omega
    have c1 : 0 ≤ l ∧ l ≤ l + 1 ∧ l + 1 ≤ (((#[67, 68, 69, 70, 71, 65, 66] : Array UInt8).size : Nat) : Int) := by
      have : (((#[67, 68, 69, 70, 71, 65, 66] : Array UInt8).size : Nat) : Int) = 7 := rfl
      rw [this]; omega
    have z1 : (0 ≤ l) := l0
    have z2 : (l ≤ l + 1) := by omega
    have z3 := c1.2.2
    have hi := itoa_le (n := o) (by omega) (by omega)
    have I := itoa_fn o (by omega) (by omega)
    unfold nmL
    have ha : a = 1 ∨ a = -1 ∨ a = 0 := by omega
    rcases ha with rfl | rfl | rfl
    · have v1 := vadd (a := letL l.toNat) (b := [35]) (by simp [letL])
      have v2 := vadd (a := letL l.toNat ++ [35]) (b := Lib.itoa o) (by simp [letL]; omega)
      have b0 : ((1 : Int) == 1) = true := rfl
      repeat (first | with_reducible refine x_ops ?_ | (simp only [go_sem, Nat.reduceAdd, Nat.reduceEqDiff, Nat.reduceLT, Nat.reduceLeDiff, Nat.reduceMul, Nat.reduceSub, reduceIte, splice, vfill, bne_self_eq_false, b0]))
      repeat (first | with_reducible refine x_ops ?_ | (simp only [go_sem, Nat.reduceAdd, Nat.reduceEqDiff, Nat.reduceLT, Nat.reduceLeDiff, Nat.reduceMul, Nat.reduceSub, reduceIte, splice, vfill, bnds, vslS, hw, z1, z2, z3, e1, hL, v1]))
      refine x_call _ I (by (simp only [go_sem, reduceIte, Nat.reduceEqDiff, V.norms, V.norm]); try rfl) ?_
      repeat (first | with_reducible refine x_ops ?_ | (simp only [go_sem, Nat.reduceAdd, Nat.reduceEqDiff, Nat.reduceLT, Nat.reduceLeDiff, Nat.reduceMul, Nat.reduceSub, reduceIte, splice, vfill, str, v2]))
      exact finV_ret (r' := _) (by (simp only [go_sem, Nat.reduceAdd, Nat.reduceEqDiff, Nat.reduceLT, Nat.reduceLeDiff, Nat.reduceMul, Nat.reduceSub, reduceIte, resV, resAll, resOne, oneOr]); try rfl) (vw_strp _ _)
    · have v1 := vadd (a := letL l.toNat) (b := [98]) (by simp [letL])
      have v2 := vadd (a := letL l.toNat ++ [98]) (b := Lib.itoa o) (by simp [letL]; omega)
      have b0 : ((-1 : Int) == 1) = false := rfl
      have b1 : ((-1 : Int) == -1) = true := rfl
      repeat (first | with_reducible refine x_ops ?_ | (simp only [go_sem, Nat.reduceAdd, Nat.reduceEqDiff, Nat.reduceLT, Nat.reduceLeDiff, Nat.reduceMul, Nat.reduceSub, reduceIte, splice, vfill, bne_self_eq_false, b0, b1]))
      repeat (first | with_reducible refine x_ops ?_ | (simp only [go_sem, Nat.reduceAdd, Nat.reduceEqDiff, Nat.reduceLT, Nat.reduceLeDiff, Nat.reduceMul, Nat.reduceSub, reduceIte, splice, vfill, bnds, vslS, hw, z1, z2, z3, e1, hL, v1]))
      refine x_call _ I (by (simp only [go_sem, reduceIte, Nat.reduceEqDiff, V.norms, V.norm]); try rfl) ?_
      repeat (first | with_reducible refine x_ops ?_ | (simp only [go_sem, Nat.reduceAdd, Nat.reduceEqDiff, Nat.reduceLT, Nat.reduceLeDiff, Nat.reduceMul, Nat.reduceSub, reduceIte, splice, vfill, str, v2]))
      exact finV_ret (r' := _) (by (simp only [go_sem, Nat.reduceAdd, Nat.reduceEqDiff, Nat.reduceLT, Nat.reduceLeDiff, Nat.reduceMul, Nat.reduceSub, reduceIte, resV, resAll, resOne, oneOr]); try rfl) (vw_strp _ _)
    · have v1 := vadd (a := letL l.toNat) (b := []) (by simp [letL])
      have v2 := vadd (a := letL l.toNat ++ []) (b := Lib.itoa o) (by simp [letL]; omega)
      have b0 : ((0 : Int) == 1) = false := rfl
      have b1 : ((0 : Int) == -1) = false := rfl
      repeat (first | with_reducible refine x_ops ?_ | (simp only [go_sem, Nat.reduceAdd, Nat.reduceEqDiff, Nat.reduceLT, Nat.reduceLeDiff, Nat.reduceMul, Nat.reduceSub, reduceIte, splice, vfill, bne_self_eq_false, b0, b1]))
      repeat (first | with_reducible refine x_ops ?_ | (simp only [go_sem, Nat.reduceAdd, Nat.reduceEqDiff, Nat.reduceLT, Nat.reduceLeDiff, Nat.reduceMul, Nat.reduceSub, reduceIte, splice, vfill, bnds, vslS, hw, z1, z2, z3, e1, hL, v1]))
      refine x_call _ I (by (simp only [go_sem, reduceIte, Nat.reduceEqDiff, V.norms, V.norm]); try rfl) ?_
      repeat (first | with_reducible refine x_ops ?_ | (simp only [go_sem, Nat.reduceAdd, Nat.reduceEqDiff, Nat.reduceLT, Nat.reduceLeDiff, Nat.reduceMul, Nat.reduceSub, reduceIte, splice, vfill, str, v2]))
      exact finV_ret (r' := _) (by (simp only [go_sem, Nat.reduceAdd, Nat.reduceEqDiff, Nat.reduceLT, Nat.reduceLeDiff, Nat.reduceMul, Nat.reduceSub, reduceIte, resV, resAll, resOne, oneOr]); try rfl) (vw_strp _ _)
  · rw [nameV, if_neg h, sndE, if_neg h]
    have e : ((10 : Int) != 0) = true := rfl
    repeat (first | with_reducible refine x_ops ?_ | (simp only [go_sem, Nat.reduceAdd, Nat.reduceEqDiff, Nat.reduceLT, Nat.reduceLeDiff, Nat.reduceMul, Nat.reduceSub, reduceIte, splice, vfill, e]))
    exact finV_ret (r' := _) (by (simp only [go_sem, Nat.reduceAdd, Nat.reduceEqDiff, Nat.reduceLT, Nat.reduceLeDiff, Nat.reduceMul, Nat.reduceSub, reduceIte, resV, resAll, resOne, oneOr]); try rfl) (vw_strp _ _)
theorem rname_fn (l a o : Int) : Fn Tryd.prog Gp 59 [tSp l a o] (nameV l a o) := by
  refine Fn.of_vx0 k_theorboref01_Name (by simp) (pures1 (pure_tSp l a o)) ?_
  unfold c_theorboref01_Name tSp
  have S := up (rright_fn l a o)
  repeat (first | with_reducible refine x_ops ?_ | (simp only [go_sem, Nat.reduceAdd, Nat.reduceEqDiff, Nat.reduceLT, Nat.reduceLeDiff, Nat.reduceMul, Nat.reduceSub, reduceIte, splice, vfill]))
  refine x_call none S (by (simp only [go_sem, reduceIte, Nat.reduceEqDiff, V.norms, V.norm]); try rfl) ?_
  by_cases h : right l a o = true
  · rw [nameV, if_pos h, h]
    obtain ⟨l0, l6, a0, a1, o0, o1⟩ := right_in h
    have hw : IntKind.i64.wrap (l + 1) = l + 1 := IntWalk.i64_in _ (by omega)
    have hL := lets_at (k := l.toNat) (by omega)
    have e1 : (l + 1).toNat = l.toNat + 1 := by omega
    have z1 : (0 ≤ l) := l0
    have z2 : (l ≤ l + 1) := by omega
    have z3 : l + 1 ≤ (((#[67, 68, 69, 70, 71, 65, 66] : Array UInt8).size : Nat) : Int) := by
      have : (((#[67, 68, 69, 70, 71, 65, 66] : Array UInt8).size : Nat) : Int) = 7 := rfl
      rw [this]; omega
    have hi := itoa_le (n := o) (by omega) (by omega)
    have I := decimal_fn o (by omega) (by omega)
    unfold nmL
    have ha : a = 1 ∨ a = -1 ∨ a = 0 := by omega
    rcases ha with rfl | rfl | rfl
    · have v1 := vadd (a := letL l.toNat) (b := [35]) (by simp [letL])
      have v2 := vadd (a := letL l.toNat ++ [35]) (b := Lib.itoa o) (by simp [letL]; omega)
      have b0 : ((1 : Int) == 1) = true := rfl
      have b1 : ((1 : Int) == -1) = false := rfl
      repeat (first | with_reducible refine x_ops ?_ | (simp only [go_sem, Nat.reduceAdd, Nat.reduceEqDiff, Nat.reduceLT, Nat.reduceLeDiff, Nat.reduceMul, Nat.reduceSub, reduceIte, splice, vfill, bnds, vslS, hw, z1, z2, z3, e1, hL, v1, b0, b1]))
      refine x_call _ I (by (simp only [go_sem, reduceIte, Nat.reduceEqDiff, V.norms, V.norm]); try rfl) ?_
      repeat (first | with_reducible refine x_ops ?_ | (simp only [go_sem, Nat.reduceAdd, Nat.reduceEqDiff, Nat.reduceLT, Nat.reduceLeDiff, Nat.reduceMul, Nat.reduceSub, reduceIte, splice, vfill, str, v2]))
      exact finV_ret (r' := _) (by (simp only [go_sem, Nat.reduceAdd, Nat.reduceEqDiff, Nat.reduceLT, Nat.reduceLeDiff, Nat.reduceMul, Nat.reduceSub, reduceIte, resV, resAll, resOne, oneOr]); try rfl) (vw_strp _ _)
    · have v1 := vadd (a := letL l.toNat) (b := [98]) (by simp [letL])
      have v2 := vadd (a := letL l.toNat ++ [98]) (b := Lib.itoa o) (by simp [letL]; omega)
      have b0 : ((-1 : Int) == 1) = false := rfl
      have b1 : ((-1 : Int) == -1) = true := rfl
      repeat (first | with_reducible refine x_ops ?_ | (simp only [go_sem, Nat.reduceAdd, Nat.reduceEqDiff, Nat.reduceLT, Nat.reduceLeDiff, Nat.reduceMul, Nat.reduceSub, reduceIte, splice, vfill, bnds, vslS, hw, z1, z2, z3, e1, hL, v1, b0, b1]))
      refine x_call _ I (by (simp only [go_sem, reduceIte, Nat.reduceEqDiff, V.norms, V.norm]); try rfl) ?_
      repeat (first | with_reducible refine x_ops ?_ | (simp only [go_sem, Nat.reduceAdd, Nat.reduceEqDiff, Nat.reduceLT, Nat.reduceLeDiff, Nat.reduceMul, Nat.reduceSub, reduceIte, splice, vfill, str, v2]))
      exact finV_ret (r' := _) (by (simp only [go_sem, Nat.reduceAdd, Nat.reduceEqDiff, Nat.reduceLT, Nat.reduceLeDiff, Nat.reduceMul, Nat.reduceSub, reduceIte, resV, resAll, resOne, oneOr]); try rfl) (vw_strp _ _)
    · have v2 := vadd (a := letL l.toNat) (b := Lib.itoa o) (by simp [letL]; omega)
      have b0 : ((0 : Int) == 1) = false := rfl
      have b1 : ((0 : Int) == -1) = false := rfl
      repeat (first | with_reducible refine x_ops ?_ | (simp only [go_sem, Nat.reduceAdd, Nat.reduceEqDiff, Nat.reduceLT, Nat.reduceLeDiff, Nat.reduceMul, Nat.reduceSub, reduceIte, splice, vfill, bnds, vslS, hw, z1, z2, z3, e1, hL, b0, b1]))
      refine x_call _ I (by (simp only [go_sem, reduceIte, Nat.reduceEqDiff, V.norms, V.norm]); try rfl) ?_
      repeat (first | with_reducible refine x_ops ?_ | (simp only [go_sem, Nat.reduceAdd, Nat.reduceEqDiff, Nat.reduceLT, Nat.reduceLeDiff, Nat.reduceMul, Nat.reduceSub, reduceIte, splice, vfill, str, v2]))
      exact finV_ret (r' := _) (by (simp only [go_sem, Nat.reduceAdd, Nat.reduceEqDiff, Nat.reduceLT, Nat.reduceLeDiff, Nat.reduceMul, Nat.reduceSub, reduceIte, resV, resAll, resOne, oneOr]); try rfl) (vw_strp _ _)
  · have h' : right l a o = false := by simpa using h
    rw [nameV, if_neg h, h']
    repeat (first | with_reducible refine x_ops ?_ | (simp only [go_sem, Nat.reduceAdd, Nat.reduceEqDiff, Nat.reduceLT, Nat.reduceLeDiff, Nat.reduceMul, Nat.reduceSub, reduceIte, splice, vfill]))
    exact finV_ret (r' := _) (by (simp only [go_sem, Nat.reduceAdd, Nat.reduceEqDiff, Nat.reduceLT, Nat.reduceLeDiff, Nat.reduceMul, Nat.reduceSub, reduceIte, resV, resAll, resOne, oneOr]); try rfl) (vw_strp _ _)
theorem nameV_is (l a o : Int) : ∃ s e, nameV l a o = .tup [str s, vint e] := by
  unfold nameV
  split <;> exact ⟨_, _, rfl⟩
theorem sounds_fn (l a o : Int) : Fn Tryd.prog Gp 17 [tSp l a o] (vbool true) := by
  refine Fn.of_vx0 k_theorbolaw01_InstrumentSounds (by simp) (pures1 (pure_tSp l a o)) ?_
  unfold c_theorbolaw01_InstrumentSounds tSp
  have S1 := up (sounding_fn l a o)
  have S2 := up (rsounding_fn l a o)
  have O := up (own_fn l a o)
  have N1 := name_fn l a o
  have N2 := rname_fn l a o
  obtain ⟨s, e, hs⟩ := nameV_is l a o
  rw [hs] at N1 N2
  unfold tSp at O S1 S2 N1 N2
  repeat (first | with_reducible refine x_ops ?_ | (simp only [go_sem, Nat.reduceAdd, Nat.reduceEqDiff, Nat.reduceLT, Nat.reduceLeDiff, Nat.reduceMul, Nat.reduceSub, reduceIte, splice, vfill]))
  refine x_call none S1 (by (simp only [go_sem, reduceIte, Nat.reduceEqDiff, V.norms, V.norm]); try rfl) ?_
  repeat (first | with_reducible refine x_ops ?_ | (simp only [go_sem, Nat.reduceAdd, Nat.reduceEqDiff, Nat.reduceLT, Nat.reduceLeDiff, Nat.reduceMul, Nat.reduceSub, reduceIte, splice, vfill]))
  refine x_call none O (by (simp only [go_sem, reduceIte, Nat.reduceEqDiff, V.norms, V.norm]); try rfl) ?_
  repeat (first | with_reducible refine x_ops ?_ | (simp only [go_sem, Nat.reduceAdd, Nat.reduceEqDiff, Nat.reduceLT, Nat.reduceLeDiff, Nat.reduceMul, Nat.reduceSub, reduceIte, splice, vfill]))
  refine x_call none S2 (by (simp only [go_sem, reduceIte, Nat.reduceEqDiff, V.norms, V.norm]); try rfl) ?_
  repeat (first | with_reducible refine x_ops ?_ | (simp only [go_sem, Nat.reduceAdd, Nat.reduceEqDiff, Nat.reduceLT, Nat.reduceLeDiff, Nat.reduceMul, Nat.reduceSub, reduceIte, splice, vfill]))
  refine x_call none N1 (by (simp only [go_sem, reduceIte, Nat.reduceEqDiff, V.norms, V.norm]); try rfl) ?_
  repeat (first | with_reducible refine x_ops ?_ | (simp only [go_sem, Nat.reduceAdd, Nat.reduceEqDiff, Nat.reduceLT, Nat.reduceLeDiff, Nat.reduceMul, Nat.reduceSub, reduceIte, splice, vfill]))
  refine x_call none O (by (simp only [go_sem, reduceIte, Nat.reduceEqDiff, V.norms, V.norm]); try rfl) ?_
  repeat (first | with_reducible refine x_ops ?_ | (simp only [go_sem, Nat.reduceAdd, Nat.reduceEqDiff, Nat.reduceLT, Nat.reduceLeDiff, Nat.reduceMul, Nat.reduceSub, reduceIte, splice, vfill]))
  refine x_call none N2 (by (simp only [go_sem, reduceIte, Nat.reduceEqDiff, V.norms, V.norm]); try rfl) ?_
  repeat (first | with_reducible refine x_ops ?_ | (simp only [go_sem, Nat.reduceAdd, Nat.reduceEqDiff, Nat.reduceLT, Nat.reduceLeDiff, Nat.reduceMul, Nat.reduceSub, reduceIte, splice, vfill, str, vbinS]))
  refine x_on rfl ?_
  refine x_call none (up works_fn) (by (simp only [go_sem, reduceIte, Nat.reduceEqDiff, V.norms, V.norm]); try rfl) ?_
  repeat (first | with_reducible refine x_ops ?_ | (simp only [go_sem, Nat.reduceAdd, Nat.reduceEqDiff, Nat.reduceLT, Nat.reduceLeDiff, Nat.reduceMul, Nat.reduceSub, reduceIte, splice, vfill]))
  exact finV_ret (r' := _) (by (simp only [go_sem, Nat.reduceAdd, Nat.reduceEqDiff, Nat.reduceLT, Nat.reduceLeDiff, Nat.reduceMul, Nat.reduceSub, reduceIte, resV, resAll, resOne, oneOr]); try rfl) (.lit _)
end Go.Proofs.YtbdhjpdjbogggaaDoor
namespace Go.Proofs.YtbdhjpdjbogggaaDoor
open Go.RowKit
attribute [local go_sem] vx_skip vx_ret vx_exit vx_seq vx_block vx_scope vx_cond vx_condT vx_condF gR_nil gR_cons VO.stops beq_self_eq_true Bool.false_beq Bool.true_beq Bool.not_true Bool.not_false Bool.false_eq_true if_false exo VI.on if_true exoOp pureSem List.map_cons List.map_nil St.ev initT Option.map_some putT_get putT_none put_obj put_next M0_next freeze_obj freeze_next List.getD_cons_zero List.getD_cons_succ List.getD_nil V.cells rdable Nat.add_assoc Nat.add_zero Nat.add_left_cancel_iff Nat.add_eq_left Nat.left_eq_add decide_true Bool.true_or ite_self onB vbinI vint vbool List.drop_zero List.take_succ_cons List.drop_succ_cons List.take_zero List.length_cons List.length_nil List.getElem?_cons_zero List.getElem?_cons_succ decide_eq_true_eq true_and and_true Nat.le_refl List.zip_cons_cons List.zip_nil_left V.pubs V.pub Option.bind_some List.all_cons List.all_nil V.one Bool.and_self List.cons_append List.nil_append then_nrm then_ret then_exit inB_nrm inB_ret inB_exit Int.toNat_natCast Int.natCast_nonneg eq_self Nat.zero_add Nat.mul_one
set_option linter.unusedSimpArgs false
set_option linter.unusedVariables false

/-! ### What Spell finds -/
theorem spFrom_ok {p key : Int} : ∀ {n m : Nat} {l a : Int}, n + m ≤ 21 → spFrom p key n m = some (l, a) → spOk p key l a = true ∧ 0 ≤ l ∧ l ≤ 6
  | 0, _, _, _, _, h => by cases h
  | n + 1, m, l, a, hn, h => by
    rw [spFrom] at h
    split at h
    · rename_i hok
      simp only [Option.some.injEq, Prod.mk.injEq] at h
      obtain ⟨rfl, rfl⟩ := h
      exact ⟨hok, by omega, by omega⟩
    · exact spFrom_ok (by omega) h
def noSp (p : Nat) (key : Int) : Bool := (spFrom p key 21 0).isSome || (p == 0 && key == 4)
theorem ns_0 : upto (fun p => noSp p (-4)) 128 = true := by decide +kernel
theorem ns_1 : upto (fun p => noSp p (-3)) 128 = true := by decide +kernel
theorem ns_2 : upto (fun p => noSp p (-2)) 128 = true := by decide +kernel
theorem ns_3 : upto (fun p => noSp p (-1)) 128 = true := by decide +kernel
theorem ns_4 : upto (fun p => noSp p 0) 128 = true := by decide +kernel
theorem ns_5 : upto (fun p => noSp p 1) 128 = true := by decide +kernel
theorem ns_6 : upto (fun p => noSp p 2) 128 = true := by decide +kernel
theorem ns_7 : upto (fun p => noSp p 3) 128 = true := by decide +kernel
theorem ns_8 : upto (fun p => noSp p 4) 128 = true := by decide +kernel
theorem no_sp (p : Nat) (hp : p < 128) (key : Int) (h0 : -4 ≤ key) (h1 : key ≤ 4) : noSp p key = true := by
  have : key = -4 ∨ key = -3 ∨ key = -2 ∨ key = -1 ∨ key = 0 ∨ key = 1 ∨ key = 2 ∨ key = 3 ∨ key = 4 := by omega
  rcases this with rfl | rfl | rfl | rfl | rfl | rfl | rfl | rfl | rfl
  · exact upto_at ns_0 p hp
  · exact upto_at ns_1 p hp
  · exact upto_at ns_2 p hp
  · exact upto_at ns_3 p hp
  · exact upto_at ns_4 p hp
  · exact upto_at ns_5 p hp
  · exact upto_at ns_6 p hp
  · exact upto_at ns_7 p hp
  · exact upto_at ns_8 p hp
def spVV (p : Int) : Option (Int × Int) → V
  | none => .tup [tSp 0 0 0, vint 10]
  | some (l, a) => .tup [tSp l a (spO p l a), vint 0]
def spRV (p key : Int) : V := if p < 0 ∨ 127 < p then .tup [tSp 0 0 0, vint 10] else if key < -4 ∨ 4 < key then .tup [tSp 0 0 0, vint 1] else spVV p (spFrom p key 21 0)
theorem VR_spe {E : Env} (l a o e : Int) : VR E (.tup [tSp l a o, vint e]) (.tuple #[.agg #[.int .i64 l, .int .i64 a, .int .i64 o], .int .i64 e]) := by
  rw [VR]
  refine ⟨_, rfl, ?_⟩
  rw [VRs]
  refine ⟨_, _, rfl, ?_, ?_⟩
  · rw [tSp, VR]
    refine ⟨_, rfl, ?_⟩
    rw [VRs]
    refine ⟨_, _, rfl, VR_mk rfl, ?_⟩
    rw [VRs]
    refine ⟨_, _, rfl, VR_mk rfl, ?_⟩
    rw [VRs]
    refine ⟨_, _, rfl, VR_mk rfl, ?_⟩
    rw [VRs]
  · rw [VRs]
    refine ⟨_, _, rfl, VR_mk rfl, ?_⟩
    rw [VRs]
theorem VR_spR {E : Env} (p key : Int) : VR E (spRV p key) (spR p key) := by
  unfold spRV spR
  split
  · exact VR_spe _ _ _ _
  · split
    · exact VR_spe _ _ _ _
    · cases h : spFrom p key 21 0 with
      | none => exact VR_spe _ _ _ _
      | some x => obtain ⟨l, a⟩ := x; exact VR_spe _ _ _ _
theorem spell_fn (p key : Int) : Fn Tryd.prog Gd 20 [vint p, vint key] (spRV p key) :=
  fn_flat (fun _ => VR_spR p key) fun E w cargs hG hst hv => by
    obtain ⟨c, d, rfl, h1, h2⟩ := two_args hv
    obtain rfl := VR_lit h1
    obtain rfl := VR_lit h2
    exact spell_any p key w (gnd_w hG hst)
theorem parse_fn (s : List UInt8) : Fn Tryd.prog Gd 24 [str s] (.tup [tSp (pnV s).1 (pnV s).2.1 (pnV s).2.2, vint (pnE s)]) :=
  fn_flat (fun _ => VR_spe _ _ _ _) fun E w cargs hG hst hv => by
    obtain ⟨c, rfl, h1⟩ := one_arg hv
    obtain rfl := VR_lit h1
    exact parseName_any ⟨s.toArray⟩ w (gnd_w hG hst)

/-! ### A name is read as its note -/
def itoS (o : Int) : List UInt8 := if o = -1 then [45, 49] else [UInt8.ofNat (48 + o.toNat)]
theorem itoa_S {o : Int} (h0 : -1 ≤ o) (h1 : o ≤ 9) : Lib.itoa o = itoS o := by
  unfold itoS
  split
  · rename_i h; subst h
    rw [Lib.itoa, if_pos (by decide), show (-1 : Int).natAbs = 1 from rfl, dec_small (by decide)]; rfl
  · rw [Lib.itoa, if_neg (by omega), dec_small (by omega)]
theorem read_fin : ∀ l : Fin 7, ∀ a : Fin 3, ∀ o : Fin 11, pnO (letL l.val ++ sgn ((a.val : Int) - 1) ++ itoS ((o.val : Int) - 1)) = some ((l.val : Int), (a.val : Int) - 1, (o.val : Int) - 1) := by decide +kernel
theorem read_name {l a o : Int} (h : right l a o = true) : pnO (nmL l a o) = some (l, a, o) := by
  obtain ⟨l0, l6, a0, a1, o0, o1⟩ := right_in h
  have := read_fin ⟨l.toNat, by omega⟩ ⟨(a + 1).toNat, by omega⟩ ⟨(o + 1).toNat, by omega⟩
  simp only [show (((a + 1).toNat : Nat) : Int) - 1 = a by omega, show (((o + 1).toNat : Nat) : Int) - 1 = o by omega, show ((l.toNat : Nat) : Int) = l by omega] at this
  rw [nmL, itoa_S o0 o1]
  exact this
theorem fif_lit {l : Int} (l0 : 0 ≤ l) (l6 : l ≤ 6) : ([V.lit (.int .i64 0), .lit (.int .i64 2), .lit (.int .i64 4), .lit (.int .i64 (-1)), .lit (.int .i64 1), .lit (.int .i64 3), .lit (.int .i64 5)] : List V)[l.toNat]? = some (.lit (.int .i64 (fif l))) := by
  have : l = 0 ∨ l = 1 ∨ l = 2 ∨ l = 3 ∨ l = 4 ∨ l = 5 ∨ l = 6 := by omega
  rcases this with rfl | rfl | rfl | rfl | rfl | rfl | rfl <;> rfl
theorem fif_bd2 {l : Int} (l0 : 0 ≤ l) (l6 : l ≤ 6) : -1 ≤ fif l ∧ fif l ≤ 5 := by
  have : l = 0 ∨ l = 1 ∨ l = 2 ∨ l = 3 ∨ l = 4 ∨ l = 5 ∨ l = 6 := by omega
  rcases this with rfl | rfl | rfl | rfl | rfl | rfl | rfl <;> decide
set_option maxHeartbeats 2000000 in
theorem spelledback_fn (p key : Int) : Fn Tryd.prog Gp 18 [vint p, vint key] (vbool true) := by
  refine Fn.of_vx0 k_theorbolaw01_InstrumentSpelledBack (by simp) (pures_cons (pure_vint p) (pures1 (pure_vint key))) ?_
  unfold c_theorbolaw01_InstrumentSpelledBack
  have S := up (spell_fn p key)
  have e10 : ((10 : Int) != 0) = true := rfl
  have e1 : ((1 : Int) != 0) = true := rfl
  repeat (first | with_reducible refine x_ops ?_ | (simp only [go_sem, Nat.reduceAdd, Nat.reduceEqDiff, Nat.reduceLT, Nat.reduceLeDiff, Nat.reduceMul, Nat.reduceSub, reduceIte, splice, vfill]))
  refine x_call none S (by (simp only [go_sem, reduceIte, Nat.reduceEqDiff, V.norms, V.norm]); try rfl) ?_
  by_cases hp0 : p < 0
  · have d0 : decide (p < 0) = true := by simpa using hp0
    rw [spRV, if_pos (.inl hp0)]
    repeat (first | with_reducible refine x_ops ?_ | (simp only [go_sem, Nat.reduceAdd, Nat.reduceEqDiff, Nat.reduceLT, Nat.reduceLeDiff, Nat.reduceMul, Nat.reduceSub, reduceIte, splice, vfill, tSp, vund, e10, d0]))
    refine x_on rfl ?_
    refine x_call none (up works_fn) (by (simp only [go_sem, reduceIte, Nat.reduceEqDiff, V.norms, V.norm]); try rfl) ?_
    repeat (first | with_reducible refine x_ops ?_ | (simp only [go_sem, Nat.reduceAdd, Nat.reduceEqDiff, Nat.reduceLT, Nat.reduceLeDiff, Nat.reduceMul, Nat.reduceSub, reduceIte, splice, vfill]))
    exact finV_ret (r' := _) (by (simp only [go_sem, Nat.reduceAdd, Nat.reduceEqDiff, Nat.reduceLT, Nat.reduceLeDiff, Nat.reduceMul, Nat.reduceSub, reduceIte, resV, resAll, resOne, oneOr]); try rfl) (.lit _)
  have d0 : decide (p < 0) = false := by simpa using hp0
  by_cases hp1 : p > 127
  · have d1 : decide (p > 127) = true := by simpa using hp1
    rw [spRV, if_pos (.inr hp1)]
    repeat (first | with_reducible refine x_ops ?_ | (simp only [go_sem, Nat.reduceAdd, Nat.reduceEqDiff, Nat.reduceLT, Nat.reduceLeDiff, Nat.reduceMul, Nat.reduceSub, reduceIte, splice, vfill, tSp, vund, e10, d0, d1]))
    refine x_on rfl ?_
    refine x_call none (up works_fn) (by (simp only [go_sem, reduceIte, Nat.reduceEqDiff, V.norms, V.norm]); try rfl) ?_
    repeat (first | with_reducible refine x_ops ?_ | (simp only [go_sem, Nat.reduceAdd, Nat.reduceEqDiff, Nat.reduceLT, Nat.reduceLeDiff, Nat.reduceMul, Nat.reduceSub, reduceIte, splice, vfill]))
    exact finV_ret (r' := _) (by (simp only [go_sem, Nat.reduceAdd, Nat.reduceEqDiff, Nat.reduceLT, Nat.reduceLeDiff, Nat.reduceMul, Nat.reduceSub, reduceIte, resV, resAll, resOne, oneOr]); try rfl) (.lit _)
  have d1 : decide (p > 127) = false := by simpa using hp1
  rw [spRV, if_neg (by omega)]
  by_cases hk0 : key < -4
  · have d2 : decide (key < -4) = true := by simpa using hk0
    rw [if_pos (.inl hk0)]
    repeat (first | with_reducible refine x_ops ?_ | (simp only [go_sem, Nat.reduceAdd, Nat.reduceEqDiff, Nat.reduceLT, Nat.reduceLeDiff, Nat.reduceMul, Nat.reduceSub, reduceIte, splice, vfill, tSp, vund, e1, d0, d1, d2]))
    refine x_on rfl ?_
    refine x_call none (up works_fn) (by (simp only [go_sem, reduceIte, Nat.reduceEqDiff, V.norms, V.norm]); try rfl) ?_
    repeat (first | with_reducible refine x_ops ?_ | (simp only [go_sem, Nat.reduceAdd, Nat.reduceEqDiff, Nat.reduceLT, Nat.reduceLeDiff, Nat.reduceMul, Nat.reduceSub, reduceIte, splice, vfill]))
    exact finV_ret (r' := _) (by (simp only [go_sem, Nat.reduceAdd, Nat.reduceEqDiff, Nat.reduceLT, Nat.reduceLeDiff, Nat.reduceMul, Nat.reduceSub, reduceIte, resV, resAll, resOne, oneOr]); try rfl) (.lit _)
  have d2 : decide (key < -4) = false := by simpa using hk0
  by_cases hk1 : key > 4
  · have d3 : decide (key > 4) = true := by simpa using hk1
    rw [if_pos (.inr hk1)]
    repeat (first | with_reducible refine x_ops ?_ | (simp only [go_sem, Nat.reduceAdd, Nat.reduceEqDiff, Nat.reduceLT, Nat.reduceLeDiff, Nat.reduceMul, Nat.reduceSub, reduceIte, splice, vfill, tSp, vund, e1, d0, d1, d2, d3]))
    refine x_on rfl ?_
    refine x_call none (up works_fn) (by (simp only [go_sem, reduceIte, Nat.reduceEqDiff, V.norms, V.norm]); try rfl) ?_
    repeat (first | with_reducible refine x_ops ?_ | (simp only [go_sem, Nat.reduceAdd, Nat.reduceEqDiff, Nat.reduceLT, Nat.reduceLeDiff, Nat.reduceMul, Nat.reduceSub, reduceIte, splice, vfill]))
    exact finV_ret (r' := _) (by (simp only [go_sem, Nat.reduceAdd, Nat.reduceEqDiff, Nat.reduceLT, Nat.reduceLeDiff, Nat.reduceMul, Nat.reduceSub, reduceIte, resV, resAll, resOne, oneOr]); try rfl) (.lit _)
  have d3 : decide (key > 4) = false := by simpa using hk1
  rw [if_neg (by omega)]
  cases hr : spFrom p key 21 0 with
  | none =>
    have hn := no_sp p.toNat (by omega) key (by omega) (by omega)
    rw [noSp, show ((p.toNat : Nat) : Int) = p by omega, hr] at hn
    have hpk : p = 0 ∧ key = 4 := by simp at hn; omega
    obtain ⟨rfl, rfl⟩ := hpk
    have d4 : ((0 : Int) == 0) = true := rfl
    have d5 : ((4 : Int) == 4) = true := rfl
    rw [spVV]
    repeat (first | with_reducible refine x_ops ?_ | (simp only [go_sem, Nat.reduceAdd, Nat.reduceEqDiff, Nat.reduceLT, Nat.reduceLeDiff, Nat.reduceMul, Nat.reduceSub, reduceIte, splice, vfill, tSp, vund, e10, d0, d1, d2, d3, d4, d5]))
    refine x_on rfl ?_
    refine x_call none (up works_fn) (by (simp only [go_sem, reduceIte, Nat.reduceEqDiff, V.norms, V.norm]); try rfl) ?_
    repeat (first | with_reducible refine x_ops ?_ | (simp only [go_sem, Nat.reduceAdd, Nat.reduceEqDiff, Nat.reduceLT, Nat.reduceLeDiff, Nat.reduceMul, Nat.reduceSub, reduceIte, splice, vfill]))
    exact finV_ret (r' := _) (by (simp only [go_sem, Nat.reduceAdd, Nat.reduceEqDiff, Nat.reduceLT, Nat.reduceLeDiff, Nat.reduceMul, Nat.reduceSub, reduceIte, resV, resAll, resOne, oneOr]); try rfl) (.lit _)
  | some x =>
    obtain ⟨l, a⟩ := x
    obtain ⟨hok, l0, l6⟩ := spFrom_ok (by omega) hr
    rw [spVV]
    rw [spOk] at hok
    simp only [Bool.and_eq_true, decide_eq_true_eq] at hok
    obtain ⟨⟨hin, hE⟩, hP⟩ := hok
    generalize spO p l a = o at *
    rw [spIn] at hin
    simp only [Bool.and_eq_true, decide_eq_true_eq] at hin
    have hR : right l a o = true := by
      by_cases h : right l a o = true
      · exact h
      · rw [sndE, if_neg h] at hE; cases hE
    obtain ⟨_, _, a0, a1, o0, o1⟩ := right_in hR
    have S2 := up (sounding_fn l a o)
    rw [hP, hE] at S2
    have N := name_fn l a o
    rw [nameV, if_pos hR] at N
    have R := up (parse_fn (nmL l a o))
    simp only [pnV, pnE, read_name hR, hR, if_true] at R
    unfold tSp at S2 N R
    have hfb := fif_bd2 l0 l6
    have hfl := fif_lit l0 l6
    have z6 : l < ((7 : Nat) : Int) := by omega
    have w7 : IntKind.i64.wrap (7 * a) = 7 * a := IntWalk.i64_in _ (by omega)
    have wf : IntKind.i64.wrap (fif l + 7 * a) = fif l + 7 * a := IntWalk.i64_in _ (by omega)
    have w3 : IntKind.i64.wrap (key - 3) = key - 3 := IntWalk.i64_in _ (by omega)
    have w8 : IntKind.i64.wrap (key + 8) = key + 8 := IntWalk.i64_in _ (by omega)
    have g1 : decide (fif l + 7 * a ≥ key - 3) = true := by simpa using hin.1
    have g2 : decide (fif l + 7 * a ≤ key + 8) = true := by simpa using hin.2
    have g3 : decide (l < 0) = false := by simp; omega
    have g4 : decide (l > 6) = false := by simp; omega
    repeat (first | with_reducible refine x_ops ?_ | (simp only [go_sem, Nat.reduceAdd, Nat.reduceEqDiff, Nat.reduceLT, Nat.reduceLeDiff, Nat.reduceMul, Nat.reduceSub, reduceIte, splice, vfill, tSp, bne_self_eq_false]))
    refine x_call _ S2 (by (simp only [go_sem, reduceIte, Nat.reduceEqDiff, V.norms, V.norm]); try rfl) ?_
    repeat (first | with_reducible refine x_ops ?_ | (simp only [go_sem, Nat.reduceAdd, Nat.reduceEqDiff, Nat.reduceLT, Nat.reduceLeDiff, Nat.reduceMul, Nat.reduceSub, reduceIte, splice, vfill]))
    refine x_call _ N (by (simp only [go_sem, reduceIte, Nat.reduceEqDiff, V.norms, V.norm]); try rfl) ?_
    repeat (first | with_reducible refine x_ops ?_ | (simp only [go_sem, Nat.reduceAdd, Nat.reduceEqDiff, Nat.reduceLT, Nat.reduceLeDiff, Nat.reduceMul, Nat.reduceSub, reduceIte, splice, vfill]))
    refine x_call _ R (by (simp only [go_sem, reduceIte, Nat.reduceEqDiff, V.norms, V.norm]); try rfl) ?_
    repeat (first | with_reducible refine x_ops ?_ | (simp only [go_sem, Nat.reduceAdd, Nat.reduceEqDiff, Nat.reduceLT, Nat.reduceLeDiff, Nat.reduceMul, Nat.reduceSub, reduceIte, splice, vfill, bne_self_eq_false, eqOffs, eqSc, g3, g4, l0, z6, hfl, w7, wf, w3, w8, g1, g2]))
    refine x_on rfl ?_
    refine x_call none (up works_fn) (by (simp only [go_sem, reduceIte, Nat.reduceEqDiff, V.norms, V.norm]); try rfl) ?_
    repeat (first | with_reducible refine x_ops ?_ | (simp only [go_sem, Nat.reduceAdd, Nat.reduceEqDiff, Nat.reduceLT, Nat.reduceLeDiff, Nat.reduceMul, Nat.reduceSub, reduceIte, splice, vfill]))
    exact finV_ret (r' := _) (by (simp only [go_sem, Nat.reduceAdd, Nat.reduceEqDiff, Nat.reduceLT, Nat.reduceLeDiff, Nat.reduceMul, Nat.reduceSub, reduceIte, resV, resAll, resOne, oneOr]); try rfl) (.lit _)
end Go.Proofs.YtbdhjpdjbogggaaDoor
