/- LeafMeets: for every input the law returns true, and each argument reads behind the call as it read before. No conditions. -/
import Derived.Test.YtdefefeifcdogaaGreatQ02
import Derived.Test.YtdefefeifcdogaaGreatQ03
import Derived.Test.YtdefefeifcdogaaGreatQ04
import Derived.Test.YtdefefeifcdogaaGreatQ05
import Derived.Test.YtdefefeifcdogaaGreatQ06
import Derived.Test.YtdefefeifcdogaaGreatQ07
import Derived.Test.YtdefefeifcdogaaGreatPk
namespace Go.Proofs.YtdefefeifcdogaaGreat.Meets
open Go.ChangeShapes Go.WideShapes Go.ChangeAt Go.RowKit

set_option maxRecDepth 100000 in
theorem lifted (os : Os) (started : os.Started) (H : Type) (enc : TypeId × Value → H) :
    ReturnsInHanded {} Tryz.checked os 12 .any (Rows.leafMeetsSpec.pre6 enc Tryz.prog Tryz.f12 Rows.leafMeetsRow.domain false) (Rows.leafMeetsSpec.post enc Tryz.prog Tryz.f12 false true false false) := by
  refine returnsInHanded_of_change_sized (C := Tryz.checked) ownK started (by kernel_rfl) Tryz.func12
    (ChangeSpec.witness6 (enc := enc) (C := Tryz.checked) false ⟨#[], #[.agg #[.slice none 0 0, .slice none 0 0, .slice none 0 0], .agg #[.slice none 0 0, .slice none 0 0, .slice none 0 0]], []⟩ 8 (by kernel_rfl) (by kernel_rfl) (by kernel_rfl) (by kernel_rfl)) ?_
  intro W base args ds gs before hval0 hW hcnd hsz0 _
  have hval : ∀ (j : Nat) t v, Tryz.f12.params[j]? = some t → args[j]? = some v → Value.okWide Tryz.prog W .any base t v := hval0
  have hW' := hW
  obtain ⟨p, q, hAA0, hV, rfl, hfz, hnd⟩ := hW
  have hAA : DataW.TrodAll enc Tryz.prog W 0 (fun _ => true) true Tryz.f12.params.toList args.toList ds p := hAA0
  have hsz : (DataW.weightsEach Tryz.prog (Tryz.f12.params.toList ++ Rows.leafMeetsSpec.plain.varTypes Tryz.prog) (ds ++ gs)).all (· ≤ reachBytes) = true := hsz0
  rw [Tryz.params12] at hAA hval hsz
  obtain ⟨v0, vs0, d0, ds0, p0, q0, hargs, rfl, rfl, h0, r0⟩ := trodAll_cons hAA
  obtain ⟨v1, vs1, d1, ds1, p1, q1, rfl, rfl, rfl, h1, r1⟩ := trodAll_cons r0
  obtain ⟨rfl, rfl, rfl⟩ := trodAll_nil r1
  obtain rfl : args = #[v0, v1] := by cases args; simp_all
  obtain ⟨rfl, rfl⟩ := trodVars_none hV
  obtain ⟨x0, hx0, hr0, _⟩ := open_dt ty_lf (hval 0 28 v0 rfl rfl) h0 (fun n hn => of_decide_eq_true (List.all_eq_true.1 hsz n (DataW.weights_mem_each (j := 0) rfl rfl n hn)))
  obtain ⟨a0, ha0, hf0⟩ := dt_lfV hx0
  rw [ha0] at hr0
  obtain ⟨x1, hx1, hr1, _⟩ := open_dt ty_lf (hval 1 28 v1 rfl rfl) h1 (fun n hn => of_decide_eq_true (List.all_eq_true.1 hsz n (DataW.weights_mem_each (j := 1) rfl rfl n hn)))
  obtain ⟨a1, ha1, hf1⟩ := dt_lfV hx1
  rw [ha1] at hr1
  refine (law_call (leafmeets_all a0 a1 hf0.lf hf1.lf) (VRs.cons1 hr0 (VRs.cons1 hr1 VRs.nil1))).mono fun e W' ⟨he, hb⟩ => ?_
  subst he
  exact ⟨_, rfl, law_post (by kernel_rfl) (by kernel_rfl) rfl rfl hW' hb⟩
theorem c_func : Tryz.prog.funcNamed Rows.leafMeetsRow.func = some 12 := by kernel_rfl
set_option maxHeartbeats 8000000 in
theorem c_closed : joinedFacts Tryz.prog 12 Tryz.f12 Rows.leafMeetsSpec Rows.leafMeetsRow = true := by
  unfold joinedFacts
  repeat' (with_reducible refine andT ?_ ?_)
  all_goals first | (with_reducible exact k_laidOut) | (with_reducible exact k_mapsRowed) | (with_reducible exact k_stopsHeard) | (with_reducible exact k_mayEnter) | (rw [k_plainKeys]; kernel_rfl) | (rw [k_lifts]; kernel_rfl) | (rw [k_make]; kernel_rfl) | (as_aux_lemma => kernel_rfl)
theorem c_inst : Tryz.f12.isInstance Tryz.prog Rows.leafMeetsRow.origin Rows.leafMeetsRow.targs := of_decide_eq_true (by kernel_rfl)
theorem c_wrap : Tryz.f12.isWrapper Tryz.prog Rows.leafMeetsRow.wrapper Rows.leafMeetsRow.mainSum := by
  unfold Func.isWrapper; first | (rw [if_pos (by decide +kernel)]; kernel_rfl) | (rw [if_neg (by decide +kernel)]; exact ⟨rfl, rfl⟩)
set_option maxRecDepth 100000 in
theorem row : Rows.LeafMeetsSaid :=
  OpenClaim.holds_of_wide (p := Tryz.pinned) 12 Tryz.f12 rfl rfl rfl rfl rfl rfl rfl ⟨rfl, rfl, rfl, rfl, rfl⟩ rfl rfl rfl rfl rfl c_func Tryz.func12 c_closed c_inst c_wrap
    (fun os started H enc _ => lifted os started H enc)
end Go.Proofs.YtdefefeifcdogaaGreat.Meets
