/- InstrumentSpelledBack: the card. -/
import Derived.Test.YtbdhjpdjbogggaaDoorC1
import Derived.Test.YtbdhjpdjbogggaaDoorX26
import Derived.Test.YtbdhjpdjbogggaaDoorC2
import Derived.Test.YtbdhjpdjbogggaaDoorPk
namespace Go.Proofs.YtbdhjpdjbogggaaDoor.SpelledBack
open Go.ChangeShapes Go.WideShapes Go.ChangeAt Go.RowKit

set_option maxRecDepth 100000 in
theorem contract (H : Type) (enc : TypeId × Value → H) (W : World) (base : Nat) (args : Array Value) (ds gs : List (DataW H)) (before : List MemPlace)
    (hval : ∀ (j : Nat) t v, Tryd.f18.params[j]? = some t → args[j]? = some v → Value.okWide Tryd.prog W .any base t v)
    (hW : DataW.Whole enc Tryd.prog Tryd.f18.params.toList Rows.instrumentSpelledBackSpec.vars false W args.toList ds gs before)
    (hL : laidMetH Tryd.prog Rows.instrumentSpelledBackRow.laid W) (hsh : W.ShapedOpen Tryd.prog) :
    Calls Tryd.prog 18 args W fun e W' => ∃ v, e = .returned v ∧ Rows.instrumentSpelledBackSpec.post enc Tryd.prog Tryd.f18 false true false false W args v W' := by
  have hg : Gnd W := gnd_of hL hsh (by rfl) (by rfl)
  have hW' := hW
  obtain ⟨p, q, hAA0, hV, rfl, hfz, hnd⟩ := hW
  have hAA : DataW.TrodAll enc Tryd.prog W 0 (fun _ => true) true Tryd.f18.params.toList args.toList ds p := hAA0
  rw [Tryd.params18] at hAA hval
  obtain ⟨v0, vs0, d0, ds0, p0, q0, hargs, rfl, rfl, h0, r0⟩ := trodAll_cons hAA
  obtain ⟨v1, vs1, d1, ds1, p1, q1, rfl, rfl, rfl, h1, r1⟩ := trodAll_cons r0
  obtain ⟨rfl, rfl, rfl⟩ := trodAll_nil r1
  obtain rfl : args = #[v0, v1] := by cases args; simp_all
  obtain ⟨rfl, rfl⟩ := trodVars_none hV
  obtain ⟨n0, rfl, rfl, rfl, hn0⟩ := open_int Tryd.underlying3 (hval 0 3 v0 rfl rfl) h0
  obtain ⟨n1, rfl, rfl, rfl, hn1⟩ := open_int Tryd.underlying3 (hval 1 3 v1 rfl rfl) h1
  refine (law_callP (spelledback_fn n0 n1) hg (laid_pow hL (by rfl)) hsh (VRs.cons1 (VR_mk rfl) (VRs.cons1 (VR_mk rfl) VRs.nil1))).mono fun e W' ⟨he, hb⟩ => ?_
  subst he
  exact ⟨_, rfl, law_post (by kernel_rfl) (by kernel_rfl) rfl rfl hW' hb⟩
theorem laid_met (os : Os) : laidMet Tryd.prog Rows.instrumentSpelledBackRow.laid ((laidWorld os).forCall (fun _ _ => 0) ⟨#[], #[.int .i64 0, .int .i64 0], []⟩).memory :=
  laidMet_of_run' 8 (by kernel_rfl) (by kernel_rfl)
theorem reads (os : Os) {H : Type} (enc : TypeId × Value → H) : ∃ places, DataW.whole enc Tryd.prog ((laidWorld os).forCall (fun _ _ => 0) ⟨#[], #[.int .i64 0, .int .i64 0], []⟩).memory Tryd.f18.params.toList Rows.instrumentSpelledBackSpec.vars false (#[.int .i64 0, .int .i64 0] : Array Value).toList 8 = some ([.lit (.int .i64 0), .lit (.int .i64 0)], [], places) :=
  ⟨[], by kernel_rfl⟩
set_option maxRecDepth 100000 in
theorem lifted (os : Os) (started : os.Started) (H : Type) (enc : TypeId × Value → H) (F : Stop.Interp) :
    ReturnsInHanded {} Tryd.checked os 18 .any ((OpenSpec.ofChange Rows.instrumentSpelledBackSpec).preRow enc Tryd.prog Tryd.f18 Rows.instrumentSpelledBackRow.domain false Rows.instrumentSpelledBackRow.laid) (((OpenSpec.ofChange Rows.instrumentSpelledBackSpec).at F).post enc Tryd.prog Tryd.f18 false true false false) := by
  obtain ⟨places, hx⟩ := reads os enc
  refine returnsInHanded_of_row (C := Tryd.checked) (s := OpenSpec.ofChange Rows.instrumentSpelledBackSpec) ownK started (by kernel_rfl) Tryd.func18
    (witness_row_at (enc := enc) (C := Tryd.checked) false (laidWorld os) #[.int .i64 0, .int .i64 0] rfl (by kernel_rfl) (by kernel_rfl) (by kernel_rfl)
      (OpenSpec.preRow_of_cond 8 hx (by kernel_rfl) (fun k hk => by cases hk) (by kernel_rfl) (laid_met os))) ?_
  intro W base args ds gs before hval hW _ _ hsz hL hsh _
  exact contract H enc W base args ds gs before hval hW hL hsh

theorem c_func : Tryd.prog.funcNamed Rows.instrumentSpelledBackRow.func = some 18 := by kernel_rfl
set_option maxHeartbeats 8000000 in
theorem c_closed : joinedFacts Tryd.prog 18 Tryd.f18 (OpenSpec.ofChange Rows.instrumentSpelledBackSpec).bare Rows.instrumentSpelledBackRow = true := by
  unfold joinedFacts
  repeat' (with_reducible refine andT ?_ ?_)
  all_goals first | (with_reducible exact k_laidOut) | (with_reducible exact k_mapsRowed) | (with_reducible exact k_stopsHeard) | (with_reducible exact k_mayEnter) | (rw [k_plainKeys]; kernel_rfl) | (rw [k_lifts]; kernel_rfl) | (rw [k_make]; kernel_rfl) | (as_aux_lemma => kernel_rfl)
theorem c_text : Rows.instrumentSpelledBackRow.wfByText (OpenSpec.ofChange Rows.instrumentSpelledBackSpec) = true := by kernel_rfl
theorem c_goes : false = Rows.instrumentSpelledBackRow.goesBy Tryd.prog := by kernel_rfl
theorem c_inst : Tryd.f18.isInstance Tryd.prog Rows.instrumentSpelledBackRow.origin Rows.instrumentSpelledBackRow.targs := of_decide_eq_true (by kernel_rfl)
theorem c_wrap : Tryd.f18.isWrapper Tryd.prog Rows.instrumentSpelledBackRow.wrapper Rows.instrumentSpelledBackRow.mainSum := by
  unfold Func.isWrapper; first | (rw [if_pos (by decide +kernel)]; kernel_rfl) | (rw [if_neg (by decide +kernel)]; exact ⟨rfl, rfl⟩)
theorem said : Rows.InstrumentSpelledBackSaid :=
  OpenClaim.holds_of_cond (p := Tryd.pinned) 18 Tryd.f18 rfl rfl rfl rfl rfl rfl rfl ⟨rfl, rfl, rfl, rfl, rfl⟩ rfl rfl rfl rfl rfl c_func Tryd.func18 c_closed c_inst c_wrap
    (fun os started H enc _ F => by rw [OpenClaim.pre_eq_preRow]; exact lifted os started H enc F)

theorem plain (f : FuncId) (fn : Func) (hf : Tryd.pinned.checked.prog.funcNamed "theorbo/theorbolaw01.InstrumentSpelledBack" = some f) (hfn : Tryd.pinned.checked.prog.funcs[f]? = some fn) :
    false = Tryd.pinned.checked.prog.looks [] ∧ ∀ (j : Nat) t, fn.params[j]? = some t → Tryd.pinned.checked.prog.wantsStandIn t = false := by
  obtain rfl : f = 18 := Option.some.inj ((show Tryd.prog.funcNamed "theorbo/theorbolaw01.InstrumentSpelledBack" = some 18 by kernel_rfl).symm.trans hf) |>.symm
  obtain rfl : fn = Tryd.f18 := (Option.some.inj (Tryd.func18.symm.trans hfn)).symm
  refine ⟨k_looks, fun j t ht => ?_⟩
  have h : (Tryd.f18.params.toList.all fun t => !(Tryd.prog.wantsStandIn t)) = true := by kernel_rfl
  have h2 : (!(Tryd.prog.wantsStandIn t)) = true := List.all_eq_true.1 h t (by simpa using Array.mem_of_getElem? ht)
  exact (Bool.not_eq_true' _).mp h2

/-- The card. -/
theorem card : Rows.InstrumentSpelledBackCardSaid :=
  Claim7.holds_tied_plain_at .later (p := Tryd.pinned) [] _ _ _ _ said (fun _ h => by cases h) c_text (fun _ h => by cases h) instrumentSpelledBack_row_tie rfl ⟨rfl, rfl⟩ k_main rfl plain c_goes
end Go.Proofs.YtbdhjpdjbogggaaDoor.SpelledBack
