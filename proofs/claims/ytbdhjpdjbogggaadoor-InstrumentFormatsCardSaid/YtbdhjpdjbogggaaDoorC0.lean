/- What every card of this seat wants: the ground facts out of the listed variables and the world's shape, a world for the witness, and the post of a law that answers true. -/
import Derived.Test.YtbdhjpdjbogggaaDoorCards
import Derived.Test.YtbdhjpdjbogggaaDoorTie
import Derived.WalkKit
import Derived.ProofKit
import Derived.OpenShut
import Derived.Deep.DeepHandedRow
import Derived.Lib.LaidTab
import Derived.LaidMore
import Derived.Shelf.Vars
import Derived.MakeChecks
import Derived.Test.YtbdhjpdjbogggaaDoorBase
namespace Go.Proofs.YtbdhjpdjbogggaaDoor
open Go.ChangeShapes Go.WideShapes Go.ChangeAt Go.RowKit

theorem laidOut : laidOutB Tryd.prog = true := by kernel_rfl
theorem ownK : ownKnob Tryd.prog.godebug = none := by kernel_rfl
theorem gFif : Tryd.prog.globalNamed "theorbo/instrument.fifths" = some 0 := by kernel_rfl
theorem gBas : Tryd.prog.globalNamed "theorbo/instrument.bases" = some 1 := by kernel_rfl
theorem tFif : (Tryd.prog.globals[0]?).map (·.type) = some 76 := by kernel_rfl
theorem tBas : (Tryd.prog.globals[1]?).map (·.type) = some 76 := by kernel_rfl
theorem cells7 : Tryd.prog.cellsOf 76 = 7 := by kernel_rfl
theorem cells1 : Tryd.prog.cellsOf 3 = 1 := by kernel_rfl

theorem laid_one {W : World} {l : List (String × DataW Unit)} {n : String} {zs : List Int} {g : Nat} (h : laidMetH Tryd.prog l W) (e : l.filter (fun x => x.1 == n) = [(n, Lib.tabData .i64 zs)])
    (hg : Tryd.prog.globalNamed n = some g) (ht : (Tryd.prog.globals[g]?).map (·.type) = some 76) : Lib.TabIs Tryd.prog W n .i64 zs := by
  have h1 := laidMetH.filter (fun x => x.1 == n) h
  rw [e, MakeChecks.laidMetH_plain _ _ _ (by rfl)] at h1
  have h2 : Tryd.prog.underlying 76 = some (.array 7 3) := Tryd.underlying76
  exact Lib.tabIs_of_head (rest := []) hg ht h2 Tryd.underlying3 cells1 cells7 h1

/-- WHAT THE ROW's LIST AND THE WORLD's SHAPE GIVE. -/
theorem gnd_of {W : World} {l : List (String × DataW Unit)} (h : laidMetH Tryd.prog l W) (hsh : W.ShapedOpen Tryd.prog)
    (e0 : l.filter (fun x => x.1 == "theorbo/instrument.fifths") = [("theorbo/instrument.fifths", Lib.tabData .i64 fifL)])
    (e1 : l.filter (fun x => x.1 == "theorbo/instrument.bases") = [("theorbo/instrument.bases", Lib.tabData .i64 basL)]) : Gnd W := by
  have a := laid_one h e0 gFif tFif
  have b := laid_one h e1 gBas tBas
  have a' : ∀ i, i < 7 → W.cell? ⟨0, i, none⟩ = some (.int .i64 (fifL.getD i 0)) := fun i hi => a.cell gFif i hi
  have b' : ∀ i, i < 7 → W.cell? ⟨1, i, none⟩ = some (.int .i64 (basL.getD i 0)) := fun i hi => b.cell gBas i hi
  refine ⟨a' 0 (by decide), a' 1 (by decide), a' 2 (by decide), a' 3 (by decide), a' 4 (by decide), a' 5 (by decide), a' 6 (by decide), b' 0 (by decide), b' 1 (by decide), b' 2 (by decide), b' 3 (by decide), b' 4 (by decide), b' 5 (by decide), b' 6 (by decide), ?_, ?_⟩
  · exact cell_of_shapedOpen_int (P := Tryd.prog) (g := 2) (t := 3) (zero := #[.int .i64 0]) hsh (of_decide_eq_true (by kernel_rfl)) (by kernel_rfl) rfl (by kernel_rfl) (by kernel_rfl) Tryd.underlying3
  · have hlow : 8 < (begin Tryd.prog (fun _ _ => 0) default).world.heap.size := of_decide_eq_true (by kernel_rfl)
    have hgs : Tryd.prog.globals.size ≤ 8 := of_decide_eq_true (by kernel_rfl)
    obtain ⟨o, _, ho, _⟩ := hsh.2 8 hgs hlow
    have : 8 < W.heap.size := by
      rcases Nat.lt_or_ge 8 W.heap.size with h1 | h1
      · exact h1
      · rw [Array.getElem?_eq_none h1] at ho; cases ho
    omega

/-- A WORLD FOR THE WITNESS: the heap that the variables' door leaves, and the one pinned table. -/
noncomputable def laidWorld (os : Os) : World :=
  { World.doorLaid Tryd.prog 44 os with heap := (World.doorLaid Tryd.prog 44 os).heap.modify 4 fun
      | .cells _ t frozen => .cells (Go.Pinned.utf8FirstZ.map fun (n : Nat) => Value.int .u8 (n : Int)).toArray t frozen
      | o => o }

section
variable {H : Type} {enc : TypeId × Value → H}
theorem trodAll_below {P : Program} (hl : laidOutB P = true) {W W' : World} (hb : Below W.heap.size W W') {ts : List TypeId} : ∀ {vs : List Value} {ds : List (DataW H)} {ps : List MemPlace},
    (∀ t ∈ ts, P.readableRec t = true ∧ t < P.types.size) → (∀ x ∈ ps, x.block < W.heap.size) → DataW.TrodAll enc P W 0 (fun _ => true) true ts vs ds ps →
    DataW.TrodAll enc P W' 0 (fun b => decide (b < W.heap.size)) true ts vs ds ps := by
  induction ts with
  | nil =>
    intro vs ds ps _ _ h
    cases vs with
    | nil =>
      cases ds with
      | nil => exact h
      | cons _ _ => exact h.elim
    | cons _ _ => exact h.elim
  | cons t ts ih =>
    intro vs ds ps hp hlt h
    cases vs with
    | nil => exact h.elim
    | cons v vs =>
      cases ds with
      | nil => exact h.elim
      | cons d ds =>
        obtain ⟨p, q, h1, h2, rfl⟩ := h
        have ht := hp t (List.mem_cons_self ..)
        exact ⟨p, q, Below.trod hl ht.1 ht.2 h1 hb (fun x hx => hlt x (List.mem_append_left _ hx)), ih (fun t ht => hp t (List.mem_cons_of_mem _ ht)) (fun x hx => hlt x (List.mem_append_right _ hx)) h2, rfl⟩

/-- A law that answers true and only makes memory: what its row asks behind the call. -/
theorem law_post {f : Func} {s : ChangeSpec} {W W' : World} {args : Array Value} {ds gs : List (DataW H)} {before : List MemPlace}
    (hp : f.params.toList.all (fun t => Tryd.prog.readableRec t && decide (t < Tryd.prog.types.size)) = true) (hr : f.resultTypes = #[4]) (hv : s.vars = [])
    (hs : s.fn H ds = { results := [.lit (.bool true)], args := ds }) (hW : DataW.Whole enc Tryd.prog f.params.toList s.vars false W args.toList ds gs before) (hb : Below W.heap.size W W') :
    s.post enc Tryd.prog f false true false false W args (.bool true) W' := by
  have hW' := hW
  obtain ⟨p, q, hA, hV, rfl, _, _⟩ := hW
  rw [hv] at hV
  obtain ⟨rfl, rfl⟩ := trodVars_none hV
  have hlt := hW'.lt
  simp only [List.append_nil] at hlt hW' 
  refine ⟨ds, [], p, [], p, [], hW', ?_, ?_, ?_, hb.frame _, fun h => by cases h⟩
  · rw [List.append_nil, hs, hr]
    exact trodAll_cons_mk (shut_bool Tryd.underlying4 _) trodAll_mk0
  · rw [List.append_nil, hs]
    exact trodAll_below laidOut hb (fun t ht => by have h := List.all_eq_true.1 hp t ht; simpa using h) hlt hA
  · rw [List.append_nil, hs, hv]
    rfl
end
end Go.Proofs.YtbdhjpdjbogggaaDoor
