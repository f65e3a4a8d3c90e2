/- InstrumentFormats: the card. -/
import Derived.Test.YtbdhjpdjbogggaaDoorC1
import Derived.Test.YtbdhjpdjbogggaaDoorM1
import Derived.Test.YtbdhjpdjbogggaaDoorC2
import Derived.Test.YtbdhjpdjbogggaaDoorPk
namespace Go.Proofs.YtbdhjpdjbogggaaDoor.Formats
open Go.ChangeShapes Go.WideShapes Go.ChangeAt Go.RowKit

set_option maxRecDepth 100000 in
theorem contract (H : Type) (enc : TypeId × Value → H) (W : World) (base : Nat) (args : Array Value) (ds gs : List (DataW H)) (before : List MemPlace)
    (hval : ∀ (j : Nat) t v, Tryd.f19.params[j]? = some t → args[j]? = some v → Value.okWide Tryd.prog W .any base t v)
    (hW : DataW.Whole enc Tryd.prog Tryd.f19.params.toList Rows.instrumentFormatsSpec.vars false W args.toList ds gs before)
    (hL : laidMetH Tryd.prog Rows.instrumentFormatsRow.laid W) (hsh : W.ShapedOpen Tryd.prog) :
    Calls Tryd.prog 19 args W fun e W' => ∃ v, e = .returned v ∧ Rows.instrumentFormatsSpec.post enc Tryd.prog Tryd.f19 false true false false W args v W' := by
  have hg : Gnd W := gnd_of hL hsh (by rfl) (by rfl)
  have hW' := hW
  obtain ⟨p, q, hAA0, hV, rfl, hfz, hnd⟩ := hW
  have hAA : DataW.TrodAll enc Tryd.prog W 0 (fun _ => true) true Tryd.f19.params.toList args.toList ds p := hAA0
  rw [Tryd.params19] at hAA hval
  obtain ⟨v0, vs0, d0, ds0, p0, q0, hargs, rfl, rfl, h0, r0⟩ := trodAll_cons hAA
  obtain ⟨rfl, rfl, rfl⟩ := trodAll_nil r0
  obtain rfl : args = #[v0] := by cases args; simp_all
  obtain ⟨rfl, rfl⟩ := trodVars_none hV
  obtain ⟨A0, C0, nc0, cc0, ns0, kc0, cs0, ss0, rfl, hA0, hC0, hk0, hl0⟩ := open_insV (hval 0 39 v0 rfl rfl) h0
  refine (law_callP (formats_fn cs0 ss0) hg (laid_pow hL (by rfl)) hsh (VRs.cons1 (vr_ins hA0 hC0 hk0 hl0) VRs.nil1)).mono fun e W' ⟨he, hb⟩ => ?_
  subst he
  exact ⟨_, rfl, law_post (by kernel_rfl) (by kernel_rfl) rfl rfl hW' hb⟩
theorem laid_met (os : Os) : laidMet Tryd.prog Rows.instrumentFormatsRow.laid ((laidWorld os).forCall (fun _ _ => 0) ⟨#[], #[.agg #[.slice none 0 0, .slice none 0 0]], []⟩).memory :=
  laidMet_of_run' 8 (by kernel_rfl) (by kernel_rfl)
theorem reads (os : Os) {H : Type} (enc : TypeId × Value → H) : ∃ places, DataW.whole enc Tryd.prog ((laidWorld os).forCall (fun _ _ => 0) ⟨#[], #[.agg #[.slice none 0 0, .slice none 0 0]], []⟩).memory Tryd.f19.params.toList Rows.instrumentFormatsSpec.vars false (#[.agg #[.slice none 0 0, .slice none 0 0]] : Array Value).toList 8 = some ([.agg [.nil, .nil]], [], places) :=
  ⟨[], by kernel_rfl⟩
set_option maxRecDepth 100000 in
theorem lifted (os : Os) (started : os.Started) (H : Type) (enc : TypeId × Value → H) (F : Stop.Interp) :
    ReturnsInHanded {} Tryd.checked os 19 .any ((OpenSpec.ofChange Rows.instrumentFormatsSpec).preRow enc Tryd.prog Tryd.f19 Rows.instrumentFormatsRow.domain false Rows.instrumentFormatsRow.laid) (((OpenSpec.ofChange Rows.instrumentFormatsSpec).at F).post enc Tryd.prog Tryd.f19 false true false false) := by
  obtain ⟨places, hx⟩ := reads os enc
  refine returnsInHanded_of_row (C := Tryd.checked) (s := OpenSpec.ofChange Rows.instrumentFormatsSpec) ownK started (by kernel_rfl) Tryd.func19
    (witness_row_at (enc := enc) (C := Tryd.checked) false (laidWorld os) #[.agg #[.slice none 0 0, .slice none 0 0]] rfl (by kernel_rfl) (by kernel_rfl) (by kernel_rfl)
      (OpenSpec.preRow_of_cond 8 hx (by kernel_rfl) (fun k hk => by cases hk) (by kernel_rfl) (laid_met os))) ?_
  intro W base args ds gs before hval hW _ _ hsz hL hsh _
  exact contract H enc W base args ds gs before hval hW hL hsh

theorem c_func : Tryd.prog.funcNamed Rows.instrumentFormatsRow.func = some 19 := by kernel_rfl
set_option maxHeartbeats 8000000 in
theorem c_closed : joinedFacts Tryd.prog 19 Tryd.f19 (OpenSpec.ofChange Rows.instrumentFormatsSpec).bare Rows.instrumentFormatsRow = true := by
  unfold joinedFacts
  repeat' (with_reducible refine andT ?_ ?_)
  all_goals first | (with_reducible exact k_laidOut) | (with_reducible exact k_mapsRowed) | (with_reducible exact k_stopsHeard) | (with_reducible exact k_mayEnter) | (rw [k_plainKeys]; kernel_rfl) | (rw [k_lifts]; kernel_rfl) | (rw [k_make]; kernel_rfl) | (as_aux_lemma => kernel_rfl)
theorem c_text : Rows.instrumentFormatsRow.wfByText (OpenSpec.ofChange Rows.instrumentFormatsSpec) = true := by kernel_rfl
theorem c_goes : false = Rows.instrumentFormatsRow.goesBy Tryd.prog := by kernel_rfl
theorem c_inst : Tryd.f19.isInstance Tryd.prog Rows.instrumentFormatsRow.origin Rows.instrumentFormatsRow.targs := of_decide_eq_true (by kernel_rfl)
theorem c_wrap : Tryd.f19.isWrapper Tryd.prog Rows.instrumentFormatsRow.wrapper Rows.instrumentFormatsRow.mainSum := by
  unfold Func.isWrapper; first | (rw [if_pos (by decide +kernel)]; kernel_rfl) | (rw [if_neg (by decide +kernel)]; exact ⟨rfl, rfl⟩)
theorem said : Rows.InstrumentFormatsSaid :=
  OpenClaim.holds_of_cond (p := Tryd.pinned) 19 Tryd.f19 rfl rfl rfl rfl rfl rfl rfl ⟨rfl, rfl, rfl, rfl, rfl⟩ rfl rfl rfl rfl rfl c_func Tryd.func19 c_closed c_inst c_wrap
    (fun os started H enc _ F => by rw [OpenClaim.pre_eq_preRow]; exact lifted os started H enc F)

theorem plain (f : FuncId) (fn : Func) (hf : Tryd.pinned.checked.prog.funcNamed "theorbo/theorbolaw01.InstrumentFormats" = some f) (hfn : Tryd.pinned.checked.prog.funcs[f]? = some fn) :
    false = Tryd.pinned.checked.prog.looks [] ∧ ∀ (j : Nat) t, fn.params[j]? = some t → Tryd.pinned.checked.prog.wantsStandIn t = false := by
  obtain rfl : f = 19 := Option.some.inj ((show Tryd.prog.funcNamed "theorbo/theorbolaw01.InstrumentFormats" = some 19 by kernel_rfl).symm.trans hf) |>.symm
  obtain rfl : fn = Tryd.f19 := (Option.some.inj (Tryd.func19.symm.trans hfn)).symm
  refine ⟨k_looks, fun j t ht => ?_⟩
  have h : (Tryd.f19.params.toList.all fun t => !(Tryd.prog.wantsStandIn t)) = true := by kernel_rfl
  have h2 : (!(Tryd.prog.wantsStandIn t)) = true := List.all_eq_true.1 h t (by simpa using Array.mem_of_getElem? ht)
  exact (Bool.not_eq_true' _).mp h2

/-- The card. -/
theorem card : Rows.InstrumentFormatsCardSaid :=
  Claim7.holds_tied_plain_at .later (p := Tryd.pinned) [] _ _ _ _ said (fun _ h => by cases h) c_text (fun _ h => by cases h) instrumentFormats_row_tie rfl ⟨rfl, rfl⟩ k_main rfl plain c_goes
end Go.Proofs.YtbdhjpdjbogggaaDoor.Formats
