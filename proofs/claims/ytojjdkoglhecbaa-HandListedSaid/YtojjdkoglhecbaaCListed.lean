/- HandListed: for every input the law returns true, and each argument reads behind the call as it read before. No conditions. -/
import Derived.Test.YtojjdkoglhecbaaG0
import Derived.Test.YtojjdkoglhecbaaWk
import Derived.Test.YtojjdkoglhecbaaVB03
import Derived.Test.YtojjdkoglhecbaaVB04
import Derived.Test.YtojjdkoglhecbaaXw
import Derived.Test.YtojjdkoglhecbaaVB06
import Derived.Test.YtojjdkoglhecbaaVB07
import Derived.Test.YtojjdkoglhecbaaVB08
import Derived.Test.YtojjdkoglhecbaaVB09
import Derived.Test.YtojjdkoglhecbaaPk
namespace Go.Proofs.Ytojjdkoglhecbaa.Listed
open Go.ChangeShapes Go.WideShapes Go.ChangeAt Go.RowKit

set_option maxRecDepth 100000 in
theorem lifted (os : Os) (started : os.Started) (H : Type) (enc : TypeId × Value → H) :
    ReturnsInHanded {} Try.checked os 20 .any (Rows.handListedSpec.pre6 enc Try.prog Try.f20 Rows.handListedRow.domain false) (Rows.handListedSpec.post enc Try.prog Try.f20 false true false false) := by
  refine returnsInHanded_of_change_sized (C := Try.checked) ownK started (by kernel_rfl) Try.func20
    (ChangeSpec.witness6 (enc := enc) (C := Try.checked) false ⟨#[], #[.agg #[.slice none 0 0, .slice none 0 0, .slice none 0 0, .int .i64 0, .int .i64 0, .int .i64 0, .int .i64 0, .int .i64 0, .int .i64 0, .int .i64 0, .slice none 0 0], .int .i64 0, .slice none 0 0], []⟩ 8 (by kernel_rfl) (by kernel_rfl) (by kernel_rfl) (by kernel_rfl)) ?_
  intro W base args ds gs before hval0 hW hcnd hsz0 _
  have hval : ∀ (j : Nat) t v, Try.f20.params[j]? = some t → args[j]? = some v → Value.okWide Try.prog W .any base t v := hval0
  have hW' := hW
  obtain ⟨p, q, hAA0, hV, rfl, hfz, hnd⟩ := hW
  have hAA : DataW.TrodAll enc Try.prog W 0 (fun _ => true) true Try.f20.params.toList args.toList ds p := hAA0
  have hsz : (DataW.weightsEach Try.prog (Try.f20.params.toList ++ Rows.handListedSpec.plain.varTypes Try.prog) (ds ++ gs)).all (· ≤ reachBytes) = true := hsz0
  rw [Try.params20] at hAA hval hsz
  obtain ⟨v0, vs0, d0, ds0, p0, q0, hargs, rfl, rfl, h0, r0⟩ := trodAll_cons hAA
  obtain ⟨v1, vs1, d1, ds1, p1, q1, rfl, rfl, rfl, h1, r1⟩ := trodAll_cons r0
  obtain ⟨v2, vs2, d2, ds2, p2, q2, rfl, rfl, rfl, h2, r2⟩ := trodAll_cons r1
  obtain ⟨rfl, rfl, rfl⟩ := trodAll_nil r2
  obtain rfl : args = #[v0, v1, v2] := by cases args; simp_all
  obtain ⟨rfl, rfl⟩ := trodVars_none hV
  obtain ⟨x0, hx0, hr0, _⟩ := open_dt ty_search (hval 0 35 v0 rfl rfl) h0 (fun n hn => of_decide_eq_true (List.all_eq_true.1 hsz n (DataW.weights_mem_each (j := 0) rfl rfl n hn)))
  obtain ⟨a0, ha0, hf0⟩ := dt_searchV hx0
  rw [ha0] at hr0
  obtain ⟨x1, hx1, hr1, _⟩ := open_dt ty_int (hval 1 3 v1 rfl rfl) h1 (fun n hn => of_decide_eq_true (List.all_eq_true.1 hsz n (DataW.weights_mem_each (j := 1) rfl rfl n hn)))
  obtain ⟨a1, ha1, hf1⟩ := dt_intV hx1
  rw [ha1] at hr1
  obtain ⟨x2, hx2, hr2, _⟩ := open_dt ty_ints (hval 2 22 v2 rfl rfl) h2 (fun n hn => of_decide_eq_true (List.all_eq_true.1 hsz n (DataW.weights_mem_each (j := 2) rfl rfl n hn)))
  obtain ⟨a2, ha2, hf2⟩ := dt_intsV hx2
  rw [ha2] at hr2
  refine (law_call (handlisted_fn a0.1 a0.2 hf0 a1 a2 hf2.1) (VRs.cons1 hr0 (VRs.cons1 hr1 (VRs.cons1 hr2 VRs.nil1)))).mono fun e W' ⟨he, hb⟩ => ?_
  subst he
  exact ⟨_, rfl, law_post (by kernel_rfl) (by kernel_rfl) rfl rfl hW' hb⟩
theorem c_func : Try.prog.funcNamed Rows.handListedRow.func = some 20 := by kernel_rfl
set_option maxHeartbeats 8000000 in
theorem c_closed : joinedFacts Try.prog 20 Try.f20 Rows.handListedSpec Rows.handListedRow = true := by
  unfold joinedFacts
  repeat' (with_reducible refine andT ?_ ?_)
  all_goals first | (with_reducible exact k_laidOut) | (with_reducible exact k_mapsRowed) | (with_reducible exact k_stopsHeard) | (with_reducible exact k_mayEnter) | (rw [k_plainKeys]; kernel_rfl) | (rw [k_lifts]; kernel_rfl) | (rw [k_make]; kernel_rfl) | (as_aux_lemma => kernel_rfl)
theorem c_inst : Try.f20.isInstance Try.prog Rows.handListedRow.origin Rows.handListedRow.targs := of_decide_eq_true (by kernel_rfl)
theorem c_wrap : Try.f20.isWrapper Try.prog Rows.handListedRow.wrapper Rows.handListedRow.mainSum := by
  unfold Func.isWrapper; first | (rw [if_pos (by decide +kernel)]; kernel_rfl) | (rw [if_neg (by decide +kernel)]; exact ⟨rfl, rfl⟩)
set_option maxRecDepth 100000 in
theorem row : Rows.HandListedSaid :=
  OpenClaim.holds_of_wide (p := Try.pinned) 20 Try.f20 rfl rfl rfl rfl rfl rfl rfl ⟨rfl, rfl, rfl, rfl, rfl⟩ rfl rfl rfl rfl rfl c_func Try.func20 c_closed c_inst c_wrap
    (fun os started H enc _ => lifted os started H enc)
end Go.Proofs.Ytojjdkoglhecbaa.Listed
