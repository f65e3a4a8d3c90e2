/- What every row of this seat wants: arguments of the hand's types read, and the post of a law that answers true. -/
import Derived.Test.YtojjdkoglhecbaaRows
import Derived.Test.YtojjdkoglhecbaaOp
import Derived.Test.YtojjdkoglhecbaaH6
import Derived.WalkKit
import Derived.ProofKit
import Derived.OpenShut
import Derived.SizedLaws
import Derived.KernelRfl
namespace Go.Proofs.Ytojjdkoglhecbaa
open Go.ChangeShapes Go.WideShapes Go.ChangeAt Go.RowKit
set_option maxRecDepth 100000

theorem laidOut : laidOutB Try.prog = true := by kernel_rfl
theorem ownK : ownKnob Try.prog.godebug = none := by kernel_rfl

/-! ### Data of the hand's types -/
theorem dt_one {t : Ty} {b : Nat} {d : Dt} (h : d.ok (.sl t b)) : d.cells = [d.val] := by
  cases d <;> first | (rw [Dt.cells, Dt.val]; done) | (simp [Dt.ok] at h)
theorem dt_int {d : Dt} (h : d.ok .int) : ∃ n : Int, d.cells = [vint n] ∧ -9223372036854775808 ≤ n ∧ n ≤ 9223372036854775807 := by
  cases d <;> first | (rw [Dt.ok] at h; exact ⟨_, by rw [Dt.cells], h⟩) | (simp [Dt.ok] at h)
theorem dt_bool {d : Dt} (h : d.ok .bool) : ∃ n : Bool, d.cells = [vbool n] ∧ True := by
  cases d <;> first | (rw [Dt.ok] at h; exact ⟨_, by rw [Dt.cells], h⟩) | (simp [Dt.ok] at h)
theorem dt_list {α : Type} {t : Ty} {b : Nat} {d : Dt} {enc : α → List V} {Q : α → Prop} (h : d.ok (.sl t b)) (hdec : ∀ d : Dt, d.ok t → ∃ a, d.cells = enc a ∧ Q a) :
    ∃ l : List α, d.cells = [.sl l.length (l.flatMap enc) .no] ∧ l.length * b ≤ 140737488351232 ∧ ∀ a ∈ l, Q a := by
  cases d with
  | sl l =>
    rw [Dt.ok] at h
    obtain ⟨hb, he⟩ := h
    have gen : ∀ l : List Dt, (∀ d ∈ l, d.ok t) → ∃ xs : List α, xs.length = l.length ∧ Dt.cellsL l = xs.flatMap enc ∧ ∀ a ∈ xs, Q a := by
      intro l
      induction l with
      | nil => intro _; exact ⟨[], rfl, by rw [Dt.cellsL]; rfl, fun a ha => by cases ha⟩
      | cons d l ih =>
        intro he
        obtain ⟨a, h1, h2⟩ := hdec d (he d (List.mem_cons_self ..))
        obtain ⟨xs, h3, h4, h5⟩ := ih fun d hd => he d (List.mem_cons_of_mem _ hd)
        refine ⟨a :: xs, by simp [h3], by rw [Dt.cellsL, h1, h4]; rfl, fun x hx => ?_⟩
        rcases List.mem_cons.1 hx with rfl | hx
        · exact h2
        · exact h5 x hx
    obtain ⟨xs, h1, h2, h3⟩ := gen l he
    exact ⟨xs, by rw [Dt.cells, h2, h1], by rw [h1]; exact hb, h3⟩
  | _ => simp [Dt.ok] at h
theorem flat_vint (l : List Int) : l.flatMap (fun n => [vint n]) = l.map vint := by
  induction l with
  | nil => rfl
  | cons a l ih => rw [List.flatMap_cons, ih]; rfl
theorem flat_vbool (l : List Bool) : l.flatMap (fun n => [vbool n]) = l.map vbool := by
  induction l with
  | nil => rfl
  | cons a l ih => rw [List.flatMap_cons, ih]; rfl
theorem dt_ints {b : Nat} {d : Dt} (h : d.ok (.sl .int b)) : ∃ l : List Int, d.cells = [tIs l] ∧ l.length * b ≤ 140737488351232 ∧ ∀ a ∈ l, -9223372036854775808 ≤ a ∧ a ≤ 9223372036854775807 := by
  obtain ⟨l, h1, h2⟩ := dt_list (enc := fun n : Int => [vint n]) h fun d hd => dt_int hd
  rw [flat_vint] at h1
  exact ⟨l, h1, h2⟩
theorem dt_bools {b : Nat} {d : Dt} (h : d.ok (.sl .bool b)) : ∃ l : List Bool, d.cells = [tBs l] ∧ l.length * b ≤ 140737488351232 := by
  obtain ⟨l, h1, h2, _⟩ := dt_list (enc := fun n : Bool => [vbool n]) h fun d hd => dt_bool hd
  rw [flat_vbool] at h1
  exact ⟨l, h1, h2⟩
theorem oks_cons {t : Ty} {ts : List Ty} {l : List Dt} (h : Dt.oks (t :: ts) l) : ∃ d r, l = d :: r ∧ d.ok t ∧ Dt.oks ts r ∧ Dt.cellsL l = d.cells ++ Dt.cellsL r := by
  cases l with
  | nil => simp [Dt.oks] at h
  | cons d r => rw [Dt.oks] at h; exact ⟨d, r, rfl, h.1, h.2, by rw [Dt.cellsL]⟩
theorem oks_nil {l : List Dt} (h : Dt.oks [] l) : Dt.cellsL l = [] := by
  cases l with
  | nil => rw [Dt.cellsL]
  | cons d r => simp [Dt.oks] at h
theorem ok_st {ts : List Ty} {d : Dt} (h : d.ok (.st ts)) : ∃ l, d = .st l ∧ Dt.oks ts l ∧ d.cells = Dt.cellsL l ∧ d.val = .agg (Dt.cellsL l) := by
  cases d with
  | st l => rw [Dt.ok] at h; exact ⟨l, rfl, h, by rw [Dt.cells], by rw [Dt.val]⟩
  | _ => simp [Dt.ok] at h
def tyPlace : Ty := .st [.int, .int]
def tyChord : Ty := .st [.sl tyPlace 16, .sl .int 8, .sl .int 8]
def tyHand : Ty := .st [.sl .int 8, .sl .int 8, .sl .bool 1, .int, .int, .int, .int, .int, .int, .int]
theorem dt_place {d : Dt} (h : d.ok tyPlace) : ∃ p : Int × Int, d.cells = plE p ∧ (-9223372036854775808 ≤ p.1 ∧ p.1 ≤ 9223372036854775807) ∧ -9223372036854775808 ≤ p.2 ∧ p.2 ≤ 9223372036854775807 := by
  obtain ⟨l, _, h1, hc, _⟩ := ok_st h
  obtain ⟨d1, r1, rfl, k1, h2, e1⟩ := oks_cons h1
  obtain ⟨d2, r2, rfl, k2, h3, e2⟩ := oks_cons h2
  obtain ⟨a, ea, ra⟩ := dt_int k1
  obtain ⟨b, eb, rb⟩ := dt_int k2
  exact ⟨(a, b), by rw [hc, e1, e2, oks_nil h3, ea, eb]; rfl, ra, rb⟩
theorem dt_places {b : Nat} {d : Dt} (h : d.ok (.sl tyPlace b)) : ∃ l : List (Int × Int), d.cells = [tPs l] ∧ l.length * b ≤ 140737488351232 ∧ ∀ p ∈ l, (-9223372036854775808 ≤ p.1 ∧ p.1 ≤ 9223372036854775807) ∧ -9223372036854775808 ≤ p.2 ∧ p.2 ≤ 9223372036854775807 :=
  dt_list (enc := plE) h fun _ hd => dt_place hd
theorem dt_chord {d : Dt} (h : d.ok tyChord) : ∃ c : Chord, d.cells = c.cells ∧ FitC c := by
  obtain ⟨l, _, h1, hc, _⟩ := ok_st h
  obtain ⟨d1, r1, rfl, k1, h2, e1⟩ := oks_cons h1
  obtain ⟨d2, r2, rfl, k2, h3, e2⟩ := oks_cons h2
  obtain ⟨d3, r3, rfl, k3, h4, e3⟩ := oks_cons h3
  obtain ⟨a, ea, ra, _⟩ := dt_places k1
  obtain ⟨b, eb, rb, _⟩ := dt_ints k2
  obtain ⟨c, ec, rc, _⟩ := dt_ints k3
  exact ⟨⟨a, b, c⟩, by rw [hc, e1, e2, e3, oks_nil h4, ea, eb, ec]; rfl, by show a.length ≤ _; omega, by show b.length ≤ _; omega, by show c.length ≤ _; omega⟩
theorem dt_chordV {d : Dt} (h : d.ok tyChord) : ∃ c : Chord, d.val = c.val ∧ FitC c := by
  obtain ⟨c, h1, h2⟩ := dt_chord h
  obtain ⟨l, _, _, hc, hv⟩ := ok_st h
  exact ⟨c, by rw [hv, ← hc, h1]; rfl, h2⟩
theorem dt_chords {b : Nat} {d : Dt} (hb : 8 ≤ b) (h : d.ok (.sl tyChord b)) : ∃ l : List Chord, d.val = tCs l ∧ Fits l := by
  obtain ⟨l, h1, h2, h3⟩ := dt_list (enc := Chord.cells) h fun _ hd => dt_chord hd
  rw [dt_one h] at h1
  exact ⟨l, List.cons.inj h1 |>.1, by have := Nat.mul_le_mul_left l.length hb; omega, h3⟩
theorem dt_hand {d : Dt} (h : d.ok tyHand) : ∃ x : Hand, d.val = x.val := by
  obtain ⟨l, _, h1, _, hv⟩ := ok_st h
  obtain ⟨d1, r1, rfl, k1, h2, e1⟩ := oks_cons h1
  obtain ⟨d2, r2, rfl, k2, h3, e2⟩ := oks_cons h2
  obtain ⟨d3, r3, rfl, k3, h4, e3⟩ := oks_cons h3
  obtain ⟨d4, r4, rfl, k4, h5, e4⟩ := oks_cons h4
  obtain ⟨d5, r5, rfl, k5, h6, e5⟩ := oks_cons h5
  obtain ⟨d6, r6, rfl, k6, h7, e6⟩ := oks_cons h6
  obtain ⟨d7, r7, rfl, k7, h8, e7⟩ := oks_cons h7
  obtain ⟨d8, r8, rfl, k8, h9, e8⟩ := oks_cons h8
  obtain ⟨d9, r9, rfl, k9, h10, e9⟩ := oks_cons h9
  obtain ⟨d10, r10, rfl, k10, h11, e10⟩ := oks_cons h10
  obtain ⟨x1, f1, _⟩ := dt_ints k1
  obtain ⟨x2, f2, _⟩ := dt_ints k2
  obtain ⟨x3, f3, _⟩ := dt_bools k3
  obtain ⟨x4, f4, _⟩ := dt_int k4
  obtain ⟨x5, f5, _⟩ := dt_int k5
  obtain ⟨x6, f6, _⟩ := dt_int k6
  obtain ⟨x7, f7, _⟩ := dt_int k7
  obtain ⟨x8, f8, _⟩ := dt_int k8
  obtain ⟨x9, f9, _⟩ := dt_int k9
  obtain ⟨x10, f10, _⟩ := dt_int k10
  exact ⟨⟨x1, x2, x3, x4, x5, x6, x7, x8, x9, x10⟩, by rw [hv, e1, e2, e3, e4, e5, e6, e7, e8, e9, e10, oks_nil h11, f1, f2, f3, f4, f5, f6, f7, f8, f9, f10]; rfl⟩
theorem ty_hand : tyOf Try.prog 10 25 = some tyHand := by kernel_rfl
theorem ty_chord : tyOf Try.prog 10 47 = some tyChord := by kernel_rfl
theorem ty_chords : tyOf Try.prog 10 26 = some (.sl tyChord 72) := by kernel_rfl

/-! ### A law's call -/
theorem law_call {f : FuncId} {args : List V} (h : Fn Try.prog Gd f args (vbool true)) {W : World} {cargs : Array Value} (hv : VRs (EW W) args cargs.toList) :
    Calls Try.prog f cargs W fun e w' => e = .returned (.bool true) ∧ Below W.heap.size W w' := by
  refine (h.calls trivial (fun _ _ _ x => x) hv).mono ?_
  rintro e w' ⟨v, E', rfl, hb, hr, _⟩
  have := VR_lit hr
  subst this
  exact ⟨rfl, hb⟩
theorem VRs.cons1 {E : Env} {v : V} {c : Value} {vs : List V} {cs : List Value} (h : VR E v c) (h' : VRs E vs cs) : VRs E (v :: vs) (c :: cs) := by rw [VRs]; exact ⟨c, cs, rfl, h, h'⟩
theorem VRs.nil1 {E : Env} : VRs E [] [] := by rw [VRs]

section
variable {H : Type} {enc : TypeId × Value → H}
theorem trodAll_below {P : Program} (hl : laidOutB P = true) {W W' : World} (hb : Below W.heap.size W W') {ts : List TypeId} : ∀ {vs : List Value} {ds : List (DataW H)} {ps : List MemPlace},
    (∀ t ∈ ts, P.readableRec t = true ∧ t < P.types.size) → (∀ x ∈ ps, x.block < W.heap.size) → DataW.TrodAll enc P W 0 (fun _ => true) true ts vs ds ps →
    DataW.TrodAll enc P W' 0 (fun b => decide (b < W.heap.size)) true ts vs ds ps := by
  induction ts with
  | nil =>
    intro vs ds ps _ _ h
    cases vs with
    | nil =>
      cases ds with
      | nil => exact h
      | cons _ _ => exact h.elim
    | cons _ _ => exact h.elim
  | cons t ts ih =>
    intro vs ds ps hp hlt h
    cases vs with
    | nil => exact h.elim
    | cons v vs =>
      cases ds with
      | nil => exact h.elim
      | cons d ds =>
        obtain ⟨p, q, h1, h2, rfl⟩ := h
        have ht := hp t (List.mem_cons_self ..)
        exact ⟨p, q, Below.trod hl ht.1 ht.2 h1 hb (fun x hx => hlt x (List.mem_append_left _ hx)), ih (fun t ht => hp t (List.mem_cons_of_mem _ ht)) (fun x hx => hlt x (List.mem_append_right _ hx)) h2, rfl⟩
/-- A law that answers true and only makes memory: what its row asks behind the call. -/
theorem law_post {f : Func} {s : ChangeSpec} {W W' : World} {args : Array Value} {ds gs : List (DataW H)} {before : List MemPlace}
    (hp : f.params.toList.all (fun t => Try.prog.readableRec t && decide (t < Try.prog.types.size)) = true) (hr : f.resultTypes = #[4]) (hv : s.vars = [])
    (hs : s.fn H ds = { results := [.lit (.bool true)], args := ds }) (hW : DataW.Whole enc Try.prog f.params.toList s.vars false W args.toList ds gs before) (hb : Below W.heap.size W W') :
    s.post enc Try.prog f false true false false W args (.bool true) W' := by
  have hW' := hW
  obtain ⟨p, q, hA, hV, rfl, _, _⟩ := hW
  rw [hv] at hV
  obtain ⟨rfl, rfl⟩ := trodVars_none hV
  have hlt := hW'.lt
  simp only [List.append_nil] at hlt hW' 
  refine ⟨ds, [], p, [], p, [], hW', ?_, ?_, ?_, hb.frame _, fun h => by cases h⟩
  · rw [List.append_nil, hs, hr]
    exact trodAll_cons_mk (shut_bool Try.underlying4 _) trodAll_mk0
  · rw [List.append_nil, hs]
    exact trodAll_below laidOut hb (fun t ht => by have h := List.all_eq_true.1 hp t ht; simpa using h) hlt hA
  · rw [List.append_nil, hs, hv]
    rfl
end
end Go.Proofs.Ytojjdkoglhecbaa
