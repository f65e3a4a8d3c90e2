/- What the card of this seat wants: the ground facts out of the listed variables and the world's shape, a world for the witness, and the post of a law that answers true. -/
import Derived.Test.YtgabmmdllcbkoaaGreatDoorCards
import Derived.Test.YtgabmmdllcbkoaaGreatDoorTie
import Derived.Test.YtgabmmdllcbkoaaGreatDoorGB
import Derived.Test.YtgabmmdllcbkoaaGreatDoorBA
import Derived.Test.YtgabmmdllcbkoaaGreatDoorOp
import Derived.WalkKit
import Derived.ProofKit
import Derived.OpenShut
import Derived.SizedLaws
import Derived.Deep.DeepHandedRow
import Derived.Lib.LaidTab
import Derived.LaidMore
import Derived.Shelf.Vars
import Derived.MakeChecks
import Derived.KernelRfl
namespace Go.Proofs.YtgabmmdllcbkoaaGreatDoor
open Go.ChangeShapes Go.WideShapes Go.ChangeAt Go.RowKit
set_option maxRecDepth 100000

theorem laidOut : laidOutB Tryz.prog = true := by kernel_rfl
theorem ownK : ownKnob Tryz.prog.godebug = none := by kernel_rfl
theorem gSyn : Tryz.prog.globalNamed "strconv.ErrSyntax" = some 0 := by kernel_rfl
theorem gRan : Tryz.prog.globalNamed "strconv.ErrRange" = some 1 := by kernel_rfl
theorem tSyn : (Tryz.prog.globals[0]?).map (·.type) = some 54 := by kernel_rfl
theorem tRan : (Tryz.prog.globals[1]?).map (·.type) = some 54 := by kernel_rfl
/-- A datum of an interface type is read out of one. -/
theorem trod_ifc {H : Type} {enc : TypeId × Value → H} {P : Program} {w : World} {base : Nat} {spare : Nat → Bool} {held : Bool} {fuel : Nat} {t : TypeId} {cs : List Value} {n : String} {d : DataW H} {p : List MemPlace} {ms} (ht : P.underlying t = some (.interface ms))
    (h : DataW.trod enc P w base spare held fuel t cs = some (.iface n d, p)) : ∃ te pe, cs = [.iface te pe] := by
  cases fuel with
  | zero => simp [DataW.trod] at h
  | succ n =>
    unfold DataW.trod at h
    rw [ht] at h
    split at h <;> simp_all
theorem laid_err {W : World} {l : List (String × DataW Unit)} {n m : String} {d : DataW Unit} {g : Nat} (h : laidMetH Tryz.prog l W) (e : l.filter (fun x => x.1 == n) = [(n, .iface m d)]) (hh : (DataW.iface m d).handleName?.isNone = true)
    (hg : Tryz.prog.globalNamed n = some g) (ht : (Tryz.prog.globals[g]?).map (·.type) = some 54) : ∃ te pe, W.cell? ⟨g, 0, none⟩ = some (.iface te pe) := by
  have h1 := laidMetH.filter (fun x => x.1 == n) h
  rw [e, MakeChecks.laidMetH_plain _ _ _ (by rw [List.all_cons, hh]; rfl)] at h1
  obtain ⟨ps, ⟨g', t', cs, fuel, p, q, hg', ht', hvar, hd, _, _⟩, _⟩ := h1
  obtain rfl := Option.some.inj (hg.symm.trans hg')
  obtain rfl := Option.some.inj (ht.symm.trans ht')
  obtain ⟨te, pe, hc⟩ := trod_ifc Tryz.underlying54 hd
  have := World.var?_cell hg hvar 0
  exact ⟨te, pe, by rw [this]; rw [← Array.getElem?_toList, hc]; rfl⟩
/-- WHAT THE ROW's LIST AND THE WORLD's SHAPE GIVE. -/
theorem gok_of {W : World} {l : List (String × DataW Unit)} (h : laidMetH Tryz.prog l W) (hsh : W.ShapedOpen Tryz.prog)
    (e0 : ∃ m d, l.filter (fun x => x.1 == "strconv.ErrSyntax") = [("strconv.ErrSyntax", .iface m d)] ∧ (DataW.iface m d).handleName?.isNone = true)
    (e1 : ∃ m d, l.filter (fun x => x.1 == "strconv.ErrRange") = [("strconv.ErrRange", .iface m d)] ∧ (DataW.iface m d).handleName?.isNone = true) : GOk fun b o => W.cell? ⟨b, o, none⟩ := by
  obtain ⟨m0, d0, a0, b0⟩ := e0
  obtain ⟨m1, d1, a1, b1⟩ := e1
  exact ⟨laid_err h a0 b0 gSyn tSyn, laid_err h a1 b1 gRan tRan, cell_of_shapedOpen_int (P := Tryz.prog) (g := 3) (t := 3) (zero := #[.int .i64 0]) hsh (of_decide_eq_true (by kernel_rfl)) (by kernel_rfl) rfl (by kernel_rfl) (by kernel_rfl) Tryz.underlying3⟩
/-- A WORLD FOR THE WITNESS: the heap that the variables' door leaves, and the one pinned table. -/
noncomputable def laidWorld (os : Os) : World :=
  { World.doorLaid Tryz.prog 72 os with heap := (World.doorLaid Tryz.prog 72 os).heap.modify 4 fun
      | .cells _ t frozen => .cells (Go.Pinned.utf8FirstZ.map fun (n : Nat) => Value.int .u8 (n : Int)).toArray t frozen
      | o => o }
theorem law_call {f : FuncId} {args : List V} (h : Fn Tryz.prog Gd f args (vbool true)) {W : World} (hg : GOk fun b o => W.cell? ⟨b, o, none⟩) {cargs : Array Value} (hv : VRs (EW W) args cargs.toList) :
    Calls Tryz.prog f cargs W fun e w' => e = .returned (.bool true) ∧ Below W.heap.size W w' := by
  refine (h.calls (M := fun b o => W.cell? ⟨b, o, none⟩) hg (fun _ _ _ x => x) hv).mono ?_
  rintro e w' ⟨v, E', rfl, hb, hr, _⟩
  have := VR_lit hr
  subst this
  exact ⟨rfl, hb⟩
theorem VRs.cons1 {E : Env} {v : V} {c : Value} {vs : List V} {cs : List Value} (h : VR E v c) (h' : VRs E vs cs) : VRs E (v :: vs) (c :: cs) := by rw [VRs]; exact ⟨c, cs, rfl, h, h'⟩
theorem VRs.nil1 {E : Env} : VRs E [] [] := by rw [VRs]

theorem ty_str : tyOf Tryz.prog 10 9 = some .str := by kernel_rfl
theorem ty_grips : tyOf Tryz.prog 10 22 = some (.sl tyGrip 32) := by kernel_rfl
theorem dt_str {d : Dt} (h : d.ok .str) : ∃ s : List UInt8, d.val = str s ∧ True := by
  cases d with
  | str s => exact ⟨s.data.toList, by rw [Dt.val, str], trivial⟩
  | _ => simp [Dt.ok] at h
section
variable {H : Type} {enc : TypeId × Value → H}
theorem trodAll_below {P : Program} (hl : laidOutB P = true) {W W' : World} (hb : Below W.heap.size W W') {ts : List TypeId} : ∀ {vs : List Value} {ds : List (DataW H)} {ps : List MemPlace},
    (∀ t ∈ ts, P.readableRec t = true ∧ t < P.types.size) → (∀ x ∈ ps, x.block < W.heap.size) → DataW.TrodAll enc P W 0 (fun _ => true) true ts vs ds ps →
    DataW.TrodAll enc P W' 0 (fun b => decide (b < W.heap.size)) true ts vs ds ps := by
  induction ts with
  | nil =>
    intro vs ds ps _ _ h
    cases vs with
    | nil =>
      cases ds with
      | nil => exact h
      | cons _ _ => exact h.elim
    | cons _ _ => exact h.elim
  | cons t ts ih =>
    intro vs ds ps hp hlt h
    cases vs with
    | nil => exact h.elim
    | cons v vs =>
      cases ds with
      | nil => exact h.elim
      | cons d ds =>
        obtain ⟨p, q, h1, h2, rfl⟩ := h
        have ht := hp t (List.mem_cons_self ..)
        exact ⟨p, q, Below.trod hl ht.1 ht.2 h1 hb (fun x hx => hlt x (List.mem_append_left _ hx)), ih (fun t ht => hp t (List.mem_cons_of_mem _ ht)) (fun x hx => hlt x (List.mem_append_right _ hx)) h2, rfl⟩

/-- A law that answers true and only makes memory: what its row asks behind the call. -/
theorem law_post {f : Func} {s : ChangeSpec} {W W' : World} {args : Array Value} {ds gs : List (DataW H)} {before : List MemPlace}
    (hp : f.params.toList.all (fun t => Tryz.prog.readableRec t && decide (t < Tryz.prog.types.size)) = true) (hr : f.resultTypes = #[4]) (hv : s.vars = [])
    (hs : s.fn H ds = { results := [.lit (.bool true)], args := ds }) (hW : DataW.Whole enc Tryz.prog f.params.toList s.vars false W args.toList ds gs before) (hb : Below W.heap.size W W') :
    s.post enc Tryz.prog f false true false false W args (.bool true) W' := by
  have hW' := hW
  obtain ⟨p, q, hA, hV, rfl, _, _⟩ := hW
  rw [hv] at hV
  obtain ⟨rfl, rfl⟩ := trodVars_none hV
  have hlt := hW'.lt
  simp only [List.append_nil] at hlt hW' 
  refine ⟨ds, [], p, [], p, [], hW', ?_, ?_, ?_, hb.frame _, fun h => by cases h⟩
  · rw [List.append_nil, hs, hr]
    exact trodAll_cons_mk (shut_bool Tryz.underlying4 _) trodAll_mk0
  · rw [List.append_nil, hs]
    exact trodAll_below laidOut hb (fun t ht => by have h := List.all_eq_true.1 hp t ht; simpa using h) hlt hA
  · rw [List.append_nil, hs, hv]
    rfl
end
end Go.Proofs.YtgabmmdllcbkoaaGreatDoor
