/- From contracts on values to calls of the machine, with the table of powers of ten. -/
import Derived.Test.YtbdhjpdjbogggaaDoorX8
import Derived.Test.YtbdhjpdjbogggaaDoorM2
import Derived.Test.YtbdhjpdjbogggaaDoorC1
namespace Go.Proofs.YtbdhjpdjbogggaaDoor
open Go.ChangeShapes Go.WideShapes Go.ChangeAt Go.RowKit
set_option maxRecDepth 100000
set_option linter.unusedSimpArgs false
set_option linter.unusedVariables false

theorem tPow : (Tryd.prog.globals[pwB]?).map (·.type) = some 136 := by kernel_rfl
theorem cells20 : Tryd.prog.cellsOf 136 = 20 := by kernel_rfl
theorem cellsU : Tryd.prog.cellsOf 130 = 1 := by kernel_rfl
theorem laid_pow {W : World} {l : List (String × DataW Unit)} (h : laidMetH Tryd.prog l W) (e : l.filter (fun x => x.1 == "internal/strconv.uint64pow10") = [("internal/strconv.uint64pow10", Lib.tabData .u64 Lib.pow10Tab)]) :
    Lib.TabIs Tryd.prog W "internal/strconv.uint64pow10" .u64 Lib.pow10Tab := by
  have h1 := laidMetH.filter (fun x => x.1 == "internal/strconv.uint64pow10") h
  rw [e, MakeChecks.laidMetH_plain _ _ _ (by rfl)] at h1
  have h2 : Tryd.prog.underlying 136 = some (.array 20 130) := Tryd.underlying136
  exact Lib.tabIs_of_head (rest := []) gPow tPow h2 Tryd.underlying130 cellsU cells20 h1
theorem pow_of {W : World} (h : Lib.TabIs Tryd.prog W "internal/strconv.uint64pow10" .u64 Lib.pow10Tab) : PowOk (fun b o => W.cell? ⟨b, o, none⟩) W := by
  unfold Lib.TabIs World.var? at h
  rw [gPow, Option.bind_some] at h
  split at h
  · rename_i cs t fr hh
    have hc : cs = pwCells := Option.some.inj h
    subst hc
    refine ⟨⟨t, fr, hh⟩, fun o u hu => ?_⟩
    simp [World.cell?, hh, hu]
  · cases h
theorem law_callP {f : FuncId} {args : List V} (h : Fn Tryd.prog Gp f args (vbool true)) {W : World} (hg : Gnd W) (hp : Lib.TabIs Tryd.prog W "internal/strconv.uint64pow10" .u64 Lib.pow10Tab) (hsh : W.ShapedOpen Tryd.prog) {cargs : Array Value} (hv : VRs (EW W) args cargs.toList) :
    Calls Tryd.prog f cargs W fun e w' => e = .returned (.bool true) ∧ Below W.heap.size W w' := by
  refine (h.calls (M := fun b o => W.cell? ⟨b, o, none⟩) ⟨gok_of hg hsh, pow_of hp⟩ (fun _ _ _ x => x) hv).mono ?_
  rintro e w' ⟨v, E', rfl, hb, hr, _⟩
  have := VR_lit hr
  subst this
  exact ⟨rfl, hb⟩
section
variable {H : Type} {enc : TypeId × Value → H} {w : World}
theorem cells23 : Tryd.prog.cellsOf 23 = 3 := by kernel_rfl
theorem one23 : Deep.oneCellFields Tryd.prog #[⟨"Letter", 3, 0, false, "", "", 0⟩, ⟨"Alter", 3, 1, false, "", "", 8⟩, ⟨"Octave", 3, 2, false, "", "", 16⟩] = true := by kernel_rfl
/-- A spelled note. -/
theorem open_spelled {r : Reach} {b0 : Nat} {v : Value} {d : DataW H} {p : List MemPlace} (hv : Value.okWide Tryd.prog w r b0 23 v) (h : DataW.Trod enc Tryd.prog w 0 (fun _ => true) true 23 v d p) :
    ∃ (l a o : Int), v = .agg #[.int .i64 l, .int .i64 a, .int .i64 o] := by
  obtain ⟨v0, v1, v2, y0, y1, y2, n, rfl, _, _, h0, h1, h2⟩ := Joins.open_agg3 Tryd.underlying23 one23 cells23 hv h
  obtain ⟨a, ha, _, _⟩ := DataW.trod_int Tryd.underlying3 h0
  obtain ⟨b, hb, _, _⟩ := DataW.trod_int Tryd.underlying3 h1
  obtain ⟨c, hc, _, _⟩ := DataW.trod_int Tryd.underlying3 h2
  simp at ha hb hc
  exact ⟨a, b, c, by rw [ha, hb, hc]⟩
end
end Go.Proofs.YtbdhjpdjbogggaaDoor
