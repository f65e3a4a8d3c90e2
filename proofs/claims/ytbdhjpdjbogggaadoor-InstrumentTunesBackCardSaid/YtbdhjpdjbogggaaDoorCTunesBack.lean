/- InstrumentTunesBack: the card. -/
import Derived.Test.YtbdhjpdjbogggaaDoorC1
import Derived.Test.YtbdhjpdjbogggaaDoorX18
import Derived.Test.YtbdhjpdjbogggaaDoorX8
import Derived.Test.YtbdhjpdjbogggaaDoorPk
namespace Go.Proofs.YtbdhjpdjbogggaaDoor.TunesBack
open Go.ChangeShapes Go.WideShapes Go.ChangeAt Go.RowKit

set_option maxRecDepth 100000 in
theorem contract (H : Type) (enc : TypeId × Value → H) (W : World) (base : Nat) (args : Array Value) (ds gs : List (DataW H)) (before : List MemPlace)
    (hval : ∀ (j : Nat) t v, Tryd.f15.params[j]? = some t → args[j]? = some v → Value.okWide Tryd.prog W .any base t v)
    (hW : DataW.Whole enc Tryd.prog Tryd.f15.params.toList Rows.instrumentTunesBackSpec.vars false W args.toList ds gs before)
    (hL : laidMetH Tryd.prog Rows.instrumentTunesBackRow.laid W) (hsh : W.ShapedOpen Tryd.prog) :
    Calls Tryd.prog 15 args W fun e W' => ∃ v, e = .returned v ∧ Rows.instrumentTunesBackSpec.post enc Tryd.prog Tryd.f15 false true false false W args v W' := by
  have hg : Gnd W := gnd_of hL hsh (by rfl) (by rfl)
  have hW' := hW
  obtain ⟨p, q, hAA0, hV, rfl, hfz, hnd⟩ := hW
  have hAA : DataW.TrodAll enc Tryd.prog W 0 (fun _ => true) true Tryd.f15.params.toList args.toList ds p := hAA0
  rw [Tryd.params15] at hAA hval
  obtain ⟨v0, vs0, d0, ds0, p0, q0, hargs, rfl, rfl, h0, r0⟩ := trodAll_cons hAA
  obtain ⟨v1, vs1, d1, ds1, p1, q1, rfl, rfl, rfl, h1, r1⟩ := trodAll_cons r0
  obtain ⟨v2, vs2, d2, ds2, p2, q2, rfl, rfl, rfl, h2, r2⟩ := trodAll_cons r1
  obtain ⟨rfl, rfl, rfl⟩ := trodAll_nil r2
  obtain rfl : args = #[v0, v1, v2] := by cases args; simp_all
  obtain ⟨rfl, rfl⟩ := trodVars_none hV
  obtain ⟨A0, C0, nc0, cc0, ns0, kc0, cs0, ss0, rfl, hA0, hC0, hk0, hl0⟩ := open_insV (hval 0 39 v0 rfl rfl) h0
  obtain ⟨n1, rfl, rfl, rfl, hn1⟩ := open_int Tryd.underlying3 (hval 1 3 v1 rfl rfl) h1
  obtain ⟨n2, rfl, rfl, rfl, hn2⟩ := open_int Tryd.underlying3 (hval 2 3 v2 rfl rfl) h2
  refine (law_call (tunesback_fn cs0 ss0 n1 n2) hg hsh (VRs.cons1 (vr_ins hA0 hC0 hk0 hl0) (VRs.cons1 (VR_mk rfl) (VRs.cons1 (VR_mk rfl) VRs.nil1)))).mono fun e W' ⟨he, hb⟩ => ?_
  subst he
  exact ⟨_, rfl, law_post (by kernel_rfl) (by kernel_rfl) rfl rfl hW' hb⟩
theorem laid_met (os : Os) : laidMet Tryd.prog Rows.instrumentTunesBackRow.laid ((laidWorld os).forCall (fun _ _ => 0) ⟨#[], #[.agg #[.slice none 0 0, .slice none 0 0], .int .i64 0, .int .i64 0], []⟩).memory :=
  laidMet_of_run' 8 (by kernel_rfl) (by kernel_rfl)
theorem reads (os : Os) {H : Type} (enc : TypeId × Value → H) : ∃ places, DataW.whole enc Tryd.prog ((laidWorld os).forCall (fun _ _ => 0) ⟨#[], #[.agg #[.slice none 0 0, .slice none 0 0], .int .i64 0, .int .i64 0], []⟩).memory Tryd.f15.params.toList Rows.instrumentTunesBackSpec.vars false (#[.agg #[.slice none 0 0, .slice none 0 0], .int .i64 0, .int .i64 0] : Array Value).toList 8 = some ([.agg [.nil, .nil], .lit (.int .i64 0), .lit (.int .i64 0)], [], places) :=
  ⟨[], by kernel_rfl⟩
set_option maxRecDepth 100000 in
theorem lifted (os : Os) (started : os.Started) (H : Type) (enc : TypeId × Value → H) (F : Stop.Interp) :
    ReturnsInHanded {} Tryd.checked os 15 .any ((OpenSpec.ofChange Rows.instrumentTunesBackSpec).preRow enc Tryd.prog Tryd.f15 Rows.instrumentTunesBackRow.domain false Rows.instrumentTunesBackRow.laid) (((OpenSpec.ofChange Rows.instrumentTunesBackSpec).at F).post enc Tryd.prog Tryd.f15 false true false false) := by
  obtain ⟨places, hx⟩ := reads os enc
  refine returnsInHanded_of_row (C := Tryd.checked) (s := OpenSpec.ofChange Rows.instrumentTunesBackSpec) ownK started (by kernel_rfl) Tryd.func15
    (witness_row_at (enc := enc) (C := Tryd.checked) false (laidWorld os) #[.agg #[.slice none 0 0, .slice none 0 0], .int .i64 0, .int .i64 0] rfl (by kernel_rfl) (by kernel_rfl) (by kernel_rfl)
      (OpenSpec.preRow_of_cond 8 hx (by kernel_rfl) (fun k hk => by cases hk) (by kernel_rfl) (laid_met os))) ?_
  intro W base args ds gs before hval hW _ _ hsz hL hsh _
  exact contract H enc W base args ds gs before hval hW hL hsh

theorem c_func : Tryd.prog.funcNamed Rows.instrumentTunesBackRow.func = some 15 := by kernel_rfl
set_option maxHeartbeats 8000000 in
theorem c_closed : joinedFacts Tryd.prog 15 Tryd.f15 (OpenSpec.ofChange Rows.instrumentTunesBackSpec).bare Rows.instrumentTunesBackRow = true := by
  unfold joinedFacts
  repeat' (with_reducible refine andT ?_ ?_)
  all_goals first | (with_reducible exact k_laidOut) | (with_reducible exact k_mapsRowed) | (with_reducible exact k_stopsHeard) | (with_reducible exact k_mayEnter) | (rw [k_plainKeys]; kernel_rfl) | (rw [k_lifts]; kernel_rfl) | (rw [k_make]; kernel_rfl) | (as_aux_lemma => kernel_rfl)
theorem c_text : Rows.instrumentTunesBackRow.wfByText (OpenSpec.ofChange Rows.instrumentTunesBackSpec) = true := by kernel_rfl
theorem c_goes : false = Rows.instrumentTunesBackRow.goesBy Tryd.prog := by kernel_rfl
theorem c_inst : Tryd.f15.isInstance Tryd.prog Rows.instrumentTunesBackRow.origin Rows.instrumentTunesBackRow.targs := of_decide_eq_true (by kernel_rfl)
theorem c_wrap : Tryd.f15.isWrapper Tryd.prog Rows.instrumentTunesBackRow.wrapper Rows.instrumentTunesBackRow.mainSum := by
  unfold Func.isWrapper; first | (rw [if_pos (by decide +kernel)]; kernel_rfl) | (rw [if_neg (by decide +kernel)]; exact ⟨rfl, rfl⟩)
theorem said : Rows.InstrumentTunesBackSaid :=
  OpenClaim.holds_of_cond (p := Tryd.pinned) 15 Tryd.f15 rfl rfl rfl rfl rfl rfl rfl ⟨rfl, rfl, rfl, rfl, rfl⟩ rfl rfl rfl rfl rfl c_func Tryd.func15 c_closed c_inst c_wrap
    (fun os started H enc _ F => by rw [OpenClaim.pre_eq_preRow]; exact lifted os started H enc F)

theorem plain (f : FuncId) (fn : Func) (hf : Tryd.pinned.checked.prog.funcNamed "theorbo/theorbolaw01.InstrumentTunesBack" = some f) (hfn : Tryd.pinned.checked.prog.funcs[f]? = some fn) :
    false = Tryd.pinned.checked.prog.looks [] ∧ ∀ (j : Nat) t, fn.params[j]? = some t → Tryd.pinned.checked.prog.wantsStandIn t = false := by
  obtain rfl : f = 15 := Option.some.inj ((show Tryd.prog.funcNamed "theorbo/theorbolaw01.InstrumentTunesBack" = some 15 by kernel_rfl).symm.trans hf) |>.symm
  obtain rfl : fn = Tryd.f15 := (Option.some.inj (Tryd.func15.symm.trans hfn)).symm
  refine ⟨k_looks, fun j t ht => ?_⟩
  have h : (Tryd.f15.params.toList.all fun t => !(Tryd.prog.wantsStandIn t)) = true := by kernel_rfl
  have h2 : (!(Tryd.prog.wantsStandIn t)) = true := List.all_eq_true.1 h t (by simpa using Array.mem_of_getElem? ht)
  exact (Bool.not_eq_true' _).mp h2

/-- The card. -/
theorem card : Rows.InstrumentTunesBackCardSaid :=
  Claim7.holds_tied_plain_at .later (p := Tryd.pinned) [] _ _ _ _ said (fun _ h => by cases h) c_text (fun _ h => by cases h) instrumentTunesBack_row_tie rfl ⟨rfl, rfl⟩ k_main rfl plain c_goes
end Go.Proofs.YtbdhjpdjbogggaaDoor.TunesBack
