/- HandTexts: the card. -/
import Derived.Test.YtgabmmdllcbkoaaGreatDoorC0
import Derived.Test.YtgabmmdllcbkoaaGreatDoorWL
import Derived.Test.YtgabmmdllcbkoaaGreatDoorPk
namespace Go.Proofs.YtgabmmdllcbkoaaGreatDoor.Texts
open Go.ChangeShapes Go.WideShapes Go.ChangeAt Go.RowKit

set_option maxRecDepth 100000 in
theorem contract (H : Type) (enc : TypeId × Value → H) (W : World) (base : Nat) (args : Array Value) (ds gs : List (DataW H)) (before : List MemPlace)
    (hval0 : ∀ (j : Nat) t v, Tryz.f3.params[j]? = some t → args[j]? = some v → Value.okWide Tryz.prog W .any base t v)
    (hW : DataW.Whole enc Tryz.prog Tryz.f3.params.toList Rows.handTextsSpec.vars false W args.toList ds gs before)
    (hsz0 : (DataW.weightsEach Tryz.prog (Tryz.f3.params.toList ++ Rows.handTextsSpec.plain.varTypes Tryz.prog) (ds ++ gs)).all (· ≤ reachBytes) = true)
    (hL : laidMetH Tryz.prog Rows.handTextsRow.laid W) (hsh : W.ShapedOpen Tryz.prog) :
    Calls Tryz.prog 3 args W fun e W' => ∃ v, e = .returned v ∧ Rows.handTextsSpec.post enc Tryz.prog Tryz.f3 false true false false W args v W' := by
  have hg := gok_of hL hsh ⟨_, _, rfl, rfl⟩ ⟨_, _, rfl, rfl⟩
  have hW' := hW
  obtain ⟨p, q, hAA0, hV, rfl, hfz, hnd⟩ := hW
  have hval : ∀ (j : Nat) t v, Tryz.f3.params[j]? = some t → args[j]? = some v → Value.okWide Tryz.prog W .any base t v := hval0
  have hAA : DataW.TrodAll enc Tryz.prog W 0 (fun _ => true) true Tryz.f3.params.toList args.toList ds p := hAA0
  have hsz := hsz0
  rw [Tryz.params3] at hAA hval hsz
  obtain ⟨v0, vs0, d0, ds0, p0, q0, hargs, rfl, rfl, h0, r0⟩ := trodAll_cons hAA
  obtain ⟨v1, vs1, d1, ds1, p1, q1, rfl, rfl, rfl, h1, r1⟩ := trodAll_cons r0
  obtain ⟨rfl, rfl, rfl⟩ := trodAll_nil r1
  obtain rfl : args = #[v0, v1] := by cases args; simp_all
  obtain ⟨rfl, rfl⟩ := trodVars_none hV
  obtain ⟨x0, hx0, hr0, _⟩ := open_dt ty_grips (hval 0 22 v0 rfl rfl) h0 (fun n hn => of_decide_eq_true (List.all_eq_true.1 hsz n (DataW.weights_mem_each (j := 0) rfl rfl n hn)))
  obtain ⟨a0, ha0, hf0⟩ := dt_gripsV hx0
  rw [ha0] at hr0
  obtain ⟨x1, hx1, hr1, _⟩ := open_dt ty_str (hval 1 9 v1 rfl rfl) h1 (fun n hn => of_decide_eq_true (List.all_eq_true.1 hsz n (DataW.weights_mem_each (j := 1) rfl rfl n hn)))
  obtain ⟨a1, ha1, _⟩ := dt_str hx1
  rw [ha1] at hr1
  refine (law_call (texts_fn a0 hf0 a1) hg (VRs.cons1 hr0 (VRs.cons1 hr1 VRs.nil1))).mono fun e W' ⟨he, hb⟩ => ?_
  subst he
  exact ⟨_, rfl, law_post (by kernel_rfl) (by kernel_rfl) rfl rfl hW' hb⟩
theorem laid_met (os : Os) : laidMet Tryz.prog Rows.handTextsRow.laid ((laidWorld os).forCall (fun _ _ => 0) ⟨#[], #[.slice none 0 0, .string ⟨#[]⟩], []⟩).memory :=
  laidMet_of_run' 8 (by kernel_rfl) (by kernel_rfl)
theorem reads (os : Os) {H : Type} (enc : TypeId × Value → H) : ∃ places, DataW.whole enc Tryz.prog ((laidWorld os).forCall (fun _ _ => 0) ⟨#[], #[.slice none 0 0, .string ⟨#[]⟩], []⟩).memory Tryz.f3.params.toList Rows.handTextsSpec.vars false (#[.slice none 0 0, .string ⟨#[]⟩] : Array Value).toList 8 = some ([.nil, .lit (.string [])], [], places) :=
  ⟨[], by kernel_rfl⟩
set_option maxRecDepth 100000 in
theorem lifted (os : Os) (started : os.Started) (H : Type) (enc : TypeId × Value → H) (F : Stop.Interp) :
    ReturnsInHanded {} Tryz.checked os 3 .any ((OpenSpec.ofChange Rows.handTextsSpec).preRow enc Tryz.prog Tryz.f3 Rows.handTextsRow.domain false Rows.handTextsRow.laid) (((OpenSpec.ofChange Rows.handTextsSpec).at F).post enc Tryz.prog Tryz.f3 false true false false) := by
  obtain ⟨places, hx⟩ := reads os enc
  refine returnsInHanded_of_row (C := Tryz.checked) (s := OpenSpec.ofChange Rows.handTextsSpec) ownK started (by kernel_rfl) Tryz.func3
    (witness_row_at (enc := enc) (C := Tryz.checked) false (laidWorld os) #[.slice none 0 0, .string ⟨#[]⟩] rfl (by kernel_rfl) (by kernel_rfl) (by kernel_rfl)
      (OpenSpec.preRow_of_cond 8 hx (by kernel_rfl) (fun k hk => by cases hk) (by kernel_rfl) (laid_met os))) ?_
  intro W base args ds gs before hval hW _ _ hsz hL hsh _
  exact contract H enc W base args ds gs before hval hW hsz hL hsh

theorem c_func : Tryz.prog.funcNamed Rows.handTextsRow.func = some 3 := by kernel_rfl
set_option maxHeartbeats 8000000 in
theorem c_closed : joinedFacts Tryz.prog 3 Tryz.f3 (OpenSpec.ofChange Rows.handTextsSpec).bare Rows.handTextsRow = true := by
  unfold joinedFacts
  repeat' (with_reducible refine andT ?_ ?_)
  all_goals first | (with_reducible exact k_laidOut) | (with_reducible exact k_mapsRowed) | (with_reducible exact k_stopsHeard) | (with_reducible exact k_mayEnter) | (rw [k_plainKeys]; kernel_rfl) | (rw [k_lifts]; kernel_rfl) | (rw [k_make]; kernel_rfl) | (as_aux_lemma => kernel_rfl)
theorem c_text : Rows.handTextsRow.wfByText (OpenSpec.ofChange Rows.handTextsSpec) = true := by kernel_rfl
theorem c_goes : false = Rows.handTextsRow.goesBy Tryz.prog := by kernel_rfl
theorem c_inst : Tryz.f3.isInstance Tryz.prog Rows.handTextsRow.origin Rows.handTextsRow.targs := of_decide_eq_true (by kernel_rfl)
theorem c_wrap : Tryz.f3.isWrapper Tryz.prog Rows.handTextsRow.wrapper Rows.handTextsRow.mainSum := by
  unfold Func.isWrapper; first | (rw [if_pos (by decide +kernel)]; kernel_rfl) | (rw [if_neg (by decide +kernel)]; exact ⟨rfl, rfl⟩)
theorem said : Rows.HandTextsSaid :=
  OpenClaim.holds_of_cond (p := Tryz.pinned) 3 Tryz.f3 rfl rfl rfl rfl rfl rfl rfl ⟨rfl, rfl, rfl, rfl, rfl⟩ rfl rfl rfl rfl rfl c_func Tryz.func3 c_closed c_inst c_wrap
    (fun os started H enc _ F => by rw [OpenClaim.pre_eq_preRow]; exact lifted os started H enc F)

theorem plain (f : FuncId) (fn : Func) (hf : Tryz.pinned.checked.prog.funcNamed "theorbo/theorbolaw06.HandTexts" = some f) (hfn : Tryz.pinned.checked.prog.funcs[f]? = some fn) :
    true = Tryz.pinned.checked.prog.looks [] ∧ ∀ (j : Nat) t, fn.params[j]? = some t → Tryz.pinned.checked.prog.wantsStandIn t = false := by
  obtain rfl : f = 3 := Option.some.inj ((show Tryz.prog.funcNamed "theorbo/theorbolaw06.HandTexts" = some 3 by kernel_rfl).symm.trans hf) |>.symm
  obtain rfl : fn = Tryz.f3 := (Option.some.inj (Tryz.func3.symm.trans hfn)).symm
  refine ⟨k_looks, fun j t ht => ?_⟩
  have h : (Tryz.f3.params.toList.all fun t => !(Tryz.prog.wantsStandIn t)) = true := by kernel_rfl
  have h2 : (!(Tryz.prog.wantsStandIn t)) = true := List.all_eq_true.1 h t (by simpa using Array.mem_of_getElem? ht)
  exact (Bool.not_eq_true' _).mp h2

/-- The card. -/
theorem card : Rows.HandTextsCardSaid :=
  Claim7.holds_tied_plain_at .later (p := Tryz.pinned) [] _ _ _ _ said (fun _ h => by cases h) c_text (fun _ h => by cases h) handTexts_row_tie rfl ⟨rfl, rfl⟩ k_main rfl plain c_goes

end Go.Proofs.YtgabmmdllcbkoaaGreatDoor.Texts
