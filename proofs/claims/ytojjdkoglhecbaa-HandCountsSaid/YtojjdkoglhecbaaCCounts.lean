/- HandCounts: for every input the law returns true, and each argument reads behind the call as it read before. No conditions. -/
import Derived.Test.YtojjdkoglhecbaaG0
import Derived.Test.YtojjdkoglhecbaaWk
import Derived.Test.YtojjdkoglhecbaaWB03
import Derived.Test.YtojjdkoglhecbaaWB04
import Derived.Test.YtojjdkoglhecbaaXw
import Derived.Test.YtojjdkoglhecbaaWB06
import Derived.Test.YtojjdkoglhecbaaWB07
import Derived.Test.YtojjdkoglhecbaaWB08
import Derived.Test.YtojjdkoglhecbaaWB09
import Derived.Test.YtojjdkoglhecbaaPk
namespace Go.Proofs.Ytojjdkoglhecbaa.Counts
open Go.ChangeShapes Go.WideShapes Go.ChangeAt Go.RowKit

set_option maxRecDepth 100000 in
theorem lifted (os : Os) (started : os.Started) (H : Type) (enc : TypeId × Value → H) :
    ReturnsInHanded {} Try.checked os 14 .any (Rows.handCountsSpec.pre6 enc Try.prog Try.f14 Rows.handCountsRow.domain false) (Rows.handCountsSpec.post enc Try.prog Try.f14 false true false false) := by
  refine returnsInHanded_of_change_sized (C := Try.checked) ownK started (by kernel_rfl) Try.func14
    (ChangeSpec.witness6 (enc := enc) (C := Try.checked) false ⟨#[], #[.agg #[.slice none 0 0, .slice none 0 0, .slice none 0 0, .int .i64 0, .int .i64 0, .int .i64 0, .int .i64 0, .int .i64 0, .int .i64 0, .int .i64 0, .slice none 0 0]], []⟩ 8 (by kernel_rfl) (by kernel_rfl) (by kernel_rfl) (by kernel_rfl)) ?_
  intro W base args ds gs before hval0 hW hcnd hsz0 _
  have hval : ∀ (j : Nat) t v, Try.f14.params[j]? = some t → args[j]? = some v → Value.okWide Try.prog W .any base t v := hval0
  have hW' := hW
  obtain ⟨p, q, hAA0, hV, rfl, hfz, hnd⟩ := hW
  have hAA : DataW.TrodAll enc Try.prog W 0 (fun _ => true) true Try.f14.params.toList args.toList ds p := hAA0
  have hsz : (DataW.weightsEach Try.prog (Try.f14.params.toList ++ Rows.handCountsSpec.plain.varTypes Try.prog) (ds ++ gs)).all (· ≤ reachBytes) = true := hsz0
  rw [Try.params14] at hAA hval hsz
  obtain ⟨v0, vs0, d0, ds0, p0, q0, hargs, rfl, rfl, h0, r0⟩ := trodAll_cons hAA
  obtain ⟨rfl, rfl, rfl⟩ := trodAll_nil r0
  obtain rfl : args = #[v0] := by cases args; simp_all
  obtain ⟨rfl, rfl⟩ := trodVars_none hV
  obtain ⟨x0, hx0, hr0, _⟩ := open_dt ty_search (hval 0 35 v0 rfl rfl) h0 (fun n hn => of_decide_eq_true (List.all_eq_true.1 hsz n (DataW.weights_mem_each (j := 0) rfl rfl n hn)))
  obtain ⟨a0, ha0, hf0⟩ := dt_searchV hx0
  rw [ha0] at hr0
  refine (law_call (handcounts_fn a0.1 a0.2 hf0) (VRs.cons1 hr0 VRs.nil1)).mono fun e W' ⟨he, hb⟩ => ?_
  subst he
  exact ⟨_, rfl, law_post (by kernel_rfl) (by kernel_rfl) rfl rfl hW' hb⟩
theorem c_func : Try.prog.funcNamed Rows.handCountsRow.func = some 14 := by kernel_rfl
set_option maxHeartbeats 8000000 in
theorem c_closed : joinedFacts Try.prog 14 Try.f14 Rows.handCountsSpec Rows.handCountsRow = true := by
  unfold joinedFacts
  repeat' (with_reducible refine andT ?_ ?_)
  all_goals first | (with_reducible exact k_laidOut) | (with_reducible exact k_mapsRowed) | (with_reducible exact k_stopsHeard) | (with_reducible exact k_mayEnter) | (rw [k_plainKeys]; kernel_rfl) | (rw [k_lifts]; kernel_rfl) | (rw [k_make]; kernel_rfl) | (as_aux_lemma => kernel_rfl)
theorem c_inst : Try.f14.isInstance Try.prog Rows.handCountsRow.origin Rows.handCountsRow.targs := of_decide_eq_true (by kernel_rfl)
theorem c_wrap : Try.f14.isWrapper Try.prog Rows.handCountsRow.wrapper Rows.handCountsRow.mainSum := by
  unfold Func.isWrapper; first | (rw [if_pos (by decide +kernel)]; kernel_rfl) | (rw [if_neg (by decide +kernel)]; exact ⟨rfl, rfl⟩)
set_option maxRecDepth 100000 in
theorem row : Rows.HandCountsSaid :=
  OpenClaim.holds_of_wide (p := Try.pinned) 14 Try.f14 rfl rfl rfl rfl rfl rfl rfl ⟨rfl, rfl, rfl, rfl, rfl⟩ rfl rfl rfl rfl rfl c_func Try.func14 c_closed c_inst c_wrap
    (fun os started H enc _ => lifted os started H enc)
end Go.Proofs.Ytojjdkoglhecbaa.Counts
