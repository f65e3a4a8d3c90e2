/- LeafBoth: for every input the law returns true, and each argument reads behind the call as it read before. No conditions. -/
import Derived.Test.YtdefefeifcdogaaGreatG0
import Derived.Test.YtdefefeifcdogaaGreatWk
import Derived.Test.YtdefefeifcdogaaGreatR03
import Derived.Test.YtdefefeifcdogaaGreatR04
import Derived.Test.YtdefefeifcdogaaGreatR05
import Derived.Test.YtdefefeifcdogaaGreatR06
import Derived.Test.YtdefefeifcdogaaGreatPk
namespace Go.Proofs.YtdefefeifcdogaaGreat.Both
open Go.ChangeShapes Go.WideShapes Go.ChangeAt Go.RowKit

set_option maxRecDepth 100000 in
theorem lifted (os : Os) (started : os.Started) (H : Type) (enc : TypeId × Value → H) :
    ReturnsInHanded {} Tryz.checked os 15 .any (Rows.leafBothSpec.pre6 enc Tryz.prog Tryz.f15 Rows.leafBothRow.domain false) (Rows.leafBothSpec.post enc Tryz.prog Tryz.f15 false true false false) := by
  refine returnsInHanded_of_change_sized (C := Tryz.checked) ownK started (by kernel_rfl) Tryz.func15
    (ChangeSpec.witness6 (enc := enc) (C := Tryz.checked) false ⟨#[], #[.agg #[.slice none 0 0, .slice none 0 0, .slice none 0 0], .agg #[.slice none 0 0, .slice none 0 0, .slice none 0 0], .agg #[.slice none 0 0, .slice none 0 0, .slice none 0 0]], []⟩ 8 (by kernel_rfl) (by kernel_rfl) (by kernel_rfl) (by kernel_rfl)) ?_
  intro W base args ds gs before hval0 hW hcnd hsz0 _
  have hval : ∀ (j : Nat) t v, Tryz.f15.params[j]? = some t → args[j]? = some v → Value.okWide Tryz.prog W .any base t v := hval0
  have hW' := hW
  obtain ⟨p, q, hAA0, hV, rfl, hfz, hnd⟩ := hW
  have hAA : DataW.TrodAll enc Tryz.prog W 0 (fun _ => true) true Tryz.f15.params.toList args.toList ds p := hAA0
  have hsz : (DataW.weightsEach Tryz.prog (Tryz.f15.params.toList ++ Rows.leafBothSpec.plain.varTypes Tryz.prog) (ds ++ gs)).all (· ≤ reachBytes) = true := hsz0
  rw [Tryz.params15] at hAA hval hsz
  obtain ⟨v0, vs0, d0, ds0, p0, q0, hargs, rfl, rfl, h0, r0⟩ := trodAll_cons hAA
  obtain ⟨v1, vs1, d1, ds1, p1, q1, rfl, rfl, rfl, h1, r1⟩ := trodAll_cons r0
  obtain ⟨v2, vs2, d2, ds2, p2, q2, rfl, rfl, rfl, h2, r2⟩ := trodAll_cons r1
  obtain ⟨rfl, rfl, rfl⟩ := trodAll_nil r2
  obtain rfl : args = #[v0, v1, v2] := by cases args; simp_all
  obtain ⟨rfl, rfl⟩ := trodVars_none hV
  obtain ⟨x0, hx0, hr0, _⟩ := open_dt ty_lf (hval 0 28 v0 rfl rfl) h0 (fun n hn => of_decide_eq_true (List.all_eq_true.1 hsz n (DataW.weights_mem_each (j := 0) rfl rfl n hn)))
  obtain ⟨a0, ha0, hf0⟩ := dt_lfV hx0
  rw [ha0] at hr0
  obtain ⟨x1, hx1, hr1, _⟩ := open_dt ty_lf (hval 1 28 v1 rfl rfl) h1 (fun n hn => of_decide_eq_true (List.all_eq_true.1 hsz n (DataW.weights_mem_each (j := 1) rfl rfl n hn)))
  obtain ⟨a1, ha1, hf1⟩ := dt_lfV hx1
  rw [ha1] at hr1
  obtain ⟨x2, hx2, hr2, _⟩ := open_dt ty_pce (hval 2 49 v2 rfl rfl) h2 (fun n hn => of_decide_eq_true (List.all_eq_true.1 hsz n (DataW.weights_mem_each (j := 2) rfl rfl n hn)))
  obtain ⟨a2, ha2, hf2⟩ := dt_pceV hx2
  rw [ha2] at hr2
  refine (law_call (leafboth_all a0 a1 a2 hf0.lf hf1.lf hf2.pc) (VRs.cons1 hr0 (VRs.cons1 hr1 (VRs.cons1 hr2 VRs.nil1)))).mono fun e W' ⟨he, hb⟩ => ?_
  subst he
  exact ⟨_, rfl, law_post (by kernel_rfl) (by kernel_rfl) rfl rfl hW' hb⟩
theorem c_func : Tryz.prog.funcNamed Rows.leafBothRow.func = some 15 := by kernel_rfl
set_option maxHeartbeats 8000000 in
theorem c_closed : joinedFacts Tryz.prog 15 Tryz.f15 Rows.leafBothSpec Rows.leafBothRow = true := by
  unfold joinedFacts
  repeat' (with_reducible refine andT ?_ ?_)
  all_goals first | (with_reducible exact k_laidOut) | (with_reducible exact k_mapsRowed) | (with_reducible exact k_stopsHeard) | (with_reducible exact k_mayEnter) | (rw [k_plainKeys]; kernel_rfl) | (rw [k_lifts]; kernel_rfl) | (rw [k_make]; kernel_rfl) | (as_aux_lemma => kernel_rfl)
theorem c_inst : Tryz.f15.isInstance Tryz.prog Rows.leafBothRow.origin Rows.leafBothRow.targs := of_decide_eq_true (by kernel_rfl)
theorem c_wrap : Tryz.f15.isWrapper Tryz.prog Rows.leafBothRow.wrapper Rows.leafBothRow.mainSum := by
  unfold Func.isWrapper; first | (rw [if_pos (by decide +kernel)]; kernel_rfl) | (rw [if_neg (by decide +kernel)]; exact ⟨rfl, rfl⟩)
set_option maxRecDepth 100000 in
theorem row : Rows.LeafBothSaid :=
  OpenClaim.holds_of_wide (p := Tryz.pinned) 15 Tryz.f15 rfl rfl rfl rfl rfl rfl rfl ⟨rfl, rfl, rfl, rfl, rfl⟩ rfl rfl rfl rfl rfl c_func Tryz.func15 c_closed c_inst c_wrap
    (fun os started H enc _ => lifted os started H enc)
end Go.Proofs.YtdefefeifcdogaaGreat.Both
