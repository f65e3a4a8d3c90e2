/- From contracts on values to calls of the machine: the arguments as they come. -/
import Derived.Test.YtbdhjpdjbogggaaDoorX2
import Derived.Test.YtbdhjpdjbogggaaDoorC1
namespace Go.Proofs.YtbdhjpdjbogggaaDoor
open Go.RowKit
attribute [local go_sem] vx_skip vx_ret vx_exit vx_seq vx_block vx_scope vx_cond vx_condT vx_condF gR_nil gR_cons VO.stops beq_self_eq_true Bool.false_beq Bool.true_beq Bool.not_true Bool.not_false Bool.false_eq_true if_false exo VI.on if_true exoOp pureSem List.map_cons List.map_nil St.ev initT Option.map_some putT_get putT_none put_obj put_next M0_next freeze_obj freeze_next List.getD_cons_zero List.getD_cons_succ List.getD_nil V.cells rdable Nat.add_assoc Nat.add_zero Nat.add_left_cancel_iff Nat.add_eq_left Nat.left_eq_add decide_true Bool.true_or ite_self onB vbinI vint vbool List.drop_zero List.take_succ_cons List.drop_succ_cons List.take_zero List.length_cons List.length_nil List.getElem?_cons_zero List.getElem?_cons_succ decide_eq_true_eq true_and and_true Nat.le_refl List.zip_cons_cons List.zip_nil_left V.pubs V.pub Option.bind_some List.all_cons List.all_nil V.one Bool.and_self List.cons_append List.nil_append then_nrm then_ret then_exit inB_nrm inB_ret inB_exit Int.toNat_natCast Int.natCast_nonneg eq_self Nat.zero_add Nat.mul_one
set_option linter.unusedSimpArgs false
set_option linter.unusedVariables false

theorem szW {W : World} (hsh : W.ShapedOpen Tryd.prog) : ∃ b o v, 7 ≤ b ∧ W.cell? ⟨b, o, none⟩ = some v := by
  have h0 : (((begin Tryd.prog (fun _ _ => 0) default).world.heap[7]?).bind Obj.row?).any (fun x => decide (0 < x.1.size)) = true := by kernel_rfl
  cases h : ((begin Tryd.prog (fun _ _ => 0) default).world.heap[7]?).bind Obj.row? with
  | none => rw [h] at h0; cases h0
  | some x =>
    obtain ⟨zero, t⟩ := x
    rw [h] at h0
    obtain ⟨cs, hc, hz, _⟩ := hsh.1 7 zero t (of_decide_eq_true (by kernel_rfl)) h
    have h1 : 0 < zero.size := by simpa using h0
    refine ⟨7, 0, cs[0]'(by omega), Nat.le_refl _, ?_⟩
    rw [cell_of_row W 7 0 cs t (0, 0) hc]
    exact Array.getElem?_eq_getElem _
theorem gok_of {W : World} (hg : Gnd W) (hsh : W.ShapedOpen Tryd.prog) : GOk fun b o => W.cell? ⟨b, o, none⟩ := by
  refine ⟨fun i hi => ?_, fun i hi => ?_, hg.ml, szW hsh⟩
  · have : i = 0 ∨ i = 1 ∨ i = 2 ∨ i = 3 ∨ i = 4 ∨ i = 5 ∨ i = 6 := by omega
    rcases this with rfl | rfl | rfl | rfl | rfl | rfl | rfl <;> first | exact hg.f0 | exact hg.f1 | exact hg.f2 | exact hg.f3 | exact hg.f4 | exact hg.f5 | exact hg.f6
  · have : i = 0 ∨ i = 1 ∨ i = 2 ∨ i = 3 ∨ i = 4 ∨ i = 5 ∨ i = 6 := by omega
    rcases this with rfl | rfl | rfl | rfl | rfl | rfl | rfl <;> first | exact hg.b0 | exact hg.b1 | exact hg.b2 | exact hg.b3 | exact hg.b4 | exact hg.b5 | exact hg.b6
/-- What stands in a world, and nothing else. -/
def EW (W : World) : Env := ⟨fun b o => W.cell? ⟨b, o, none⟩, fun _ => none, fun _ _ => none⟩
theorem vr_arr {W : World} {size n c : Nat} {A : Option Addr} {xs : List Value} (h : Arr W W.heap.size size A n xs) (hc : n ≤ c) (hcl : V.clean (lits xs) = true) (hf : ∀ u ∈ xs, flat u = true) : VR (EW W) (.sl n (lits xs) .no) (.slice A n c) := by
  rw [VR]
  refine ⟨A, c, rfl, hc, trivial, hcl, ?_⟩
  rcases Nat.eq_zero_or_pos n with h0 | h0
  · left
    have := h.1
    rw [h0, Nat.zero_mul] at this
    rw [List.eq_nil_of_length_eq_zero this]; rfl
  · right
    obtain ⟨b, o, rfl, _, hx⟩ := h.2 h0
    refine ⟨b, o, rfl, At.of_get fun i v hv => ?_⟩
    rw [lits_get, Option.map_eq_some_iff] at hv
    obtain ⟨u, hu, rfl⟩ := hv
    exact ⟨u, hx i u hu, VR_mk (hf u (List.mem_of_getElem? hu))⟩
theorem flat_crs (cs : List Crs) : ∀ u ∈ cells3 cs, flat u = true := fun v hv => by
  simp only [cells3, List.mem_flatMap] at hv
  obtain ⟨c, _, hv⟩ := hv
  simp [Crs.cells] at hv
  rcases hv with rfl | rfl | rfl <;> rfl
theorem flat_ints (ss : List Int) : ∀ u ∈ ss.map (Value.int .i64), flat u = true := fun v hv => by
  simp only [List.mem_map] at hv
  obtain ⟨c, _, rfl⟩ := hv
  rfl
theorem vr_ins {W : World} {A C : Option Addr} {nc cc ns kc : Nat} {cs : List Crs} {ss : List Int} (hA : Arr W W.heap.size 3 A nc (cells3 cs)) (hC : Arr W W.heap.size 1 C ns (ss.map (Value.int .i64))) (h1 : nc ≤ cc) (h2 : ns ≤ kc) :
    VR (EW W) (tIns cs ss) (.agg #[.slice A nc cc, .slice C ns kc]) := by
  have e1 : nc = cs.length := by have := hA.1; rw [cells3_length] at this; omega
  have e2 : ns = ss.length := by have := hC.1; rw [List.length_map] at this; omega
  subst e1
  subst e2
  rw [tIns, VR]
  refine ⟨_, rfl, ?_⟩
  rw [VRs]
  refine ⟨_, _, rfl, vr_arr hA h1 (clean_crs cs) (flat_crs cs), ?_⟩
  rw [VRs]
  refine ⟨_, _, rfl, vr_arr hC h2 (clean_ints ss) (flat_ints ss), ?_⟩
  rw [VRs]
/-- A law on values is a law of the machine. -/
theorem law_call {f : FuncId} {args : List V} (h : Fn Tryd.prog Gd f args (vbool true)) {W : World} (hg : Gnd W) (hsh : W.ShapedOpen Tryd.prog) {cargs : Array Value} (hv : VRs (EW W) args cargs.toList) :
    Calls Tryd.prog f cargs W fun e w' => e = .returned (.bool true) ∧ Below W.heap.size W w' := by
  refine (h.calls (gok_of hg hsh) (fun _ _ _ x => x) hv).mono ?_
  rintro e w' ⟨v, E', rfl, hb, hr, _⟩
  have := VR_lit hr
  subst this
  exact ⟨rfl, hb⟩
theorem VRs.cons1 {E : Env} {v : V} {c : Value} {vs : List V} {cs : List Value} (h : VR E v c) (h' : VRs E vs cs) : VRs E (v :: vs) (c :: cs) := by rw [VRs]; exact ⟨c, cs, rfl, h, h'⟩
theorem VRs.nil1 {E : Env} : VRs E [] [] := by rw [VRs]
end Go.Proofs.YtbdhjpdjbogggaaDoor
