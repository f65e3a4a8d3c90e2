/- What every row of this seat wants: arguments of the leaf's types read, and the post of a law that answers true. -/
import Derived.Test.YtdefefeifcdogaaGreatRows
import Derived.Test.YtdefefeifcdogaaGreatOp
import Derived.Test.YtdefefeifcdogaaGreatLC
import Derived.Test.YtdefefeifcdogaaGreatLL
import Derived.Test.YtdefefeifcdogaaGreatLA
import Derived.WalkKit
import Derived.ProofKit
import Derived.OpenShut
import Derived.SizedLaws
import Derived.KernelRfl
namespace Go.Proofs.YtdefefeifcdogaaGreat
open Go.ChangeShapes Go.WideShapes Go.ChangeAt Go.RowKit
set_option maxRecDepth 100000

theorem laidOut : laidOutB Tryz.prog = true := by kernel_rfl
theorem ownK : ownKnob Tryz.prog.godebug = none := by kernel_rfl

/-! ### Data of the leaf's types -/
theorem dt_one {t : Ty} {b : Nat} {d : Dt} (h : d.ok (.sl t b)) : d.cells = [d.val] := by
  cases d <;> first | (rw [Dt.cells, Dt.val]; done) | (simp [Dt.ok] at h)
theorem dt_int {d : Dt} (h : d.ok .int) : ∃ n : Int, d.cells = [vint n] ∧ -9223372036854775808 ≤ n ∧ n ≤ 9223372036854775807 := by
  cases d <;> first | (rw [Dt.ok] at h; exact ⟨_, by rw [Dt.cells], h⟩) | (simp [Dt.ok] at h)
theorem dt_bool {d : Dt} (h : d.ok .bool) : ∃ n : Bool, d.cells = [vbool n] ∧ True := by
  cases d <;> first | (rw [Dt.ok] at h; exact ⟨_, by rw [Dt.cells], h⟩) | (simp [Dt.ok] at h)
theorem dt_list {α : Type} {t : Ty} {b : Nat} {d : Dt} {enc : α → List V} {Q : α → Prop} (h : d.ok (.sl t b)) (hdec : ∀ d : Dt, d.ok t → ∃ a, d.cells = enc a ∧ Q a) :
    ∃ l : List α, d.cells = [.sl l.length (l.flatMap enc) .no] ∧ l.length * b ≤ 140737488351232 ∧ ∀ a ∈ l, Q a := by
  cases d with
  | sl l =>
    rw [Dt.ok] at h
    obtain ⟨hb, he⟩ := h
    have gen : ∀ l : List Dt, (∀ d ∈ l, d.ok t) → ∃ xs : List α, xs.length = l.length ∧ Dt.cellsL l = xs.flatMap enc ∧ ∀ a ∈ xs, Q a := by
      intro l
      induction l with
      | nil => intro _; exact ⟨[], rfl, by rw [Dt.cellsL]; rfl, fun a ha => by cases ha⟩
      | cons d l ih =>
        intro he
        obtain ⟨a, h1, h2⟩ := hdec d (he d (List.mem_cons_self ..))
        obtain ⟨xs, h3, h4, h5⟩ := ih fun d hd => he d (List.mem_cons_of_mem _ hd)
        refine ⟨a :: xs, by simp [h3], by rw [Dt.cellsL, h1, h4]; rfl, fun x hx => ?_⟩
        rcases List.mem_cons.1 hx with rfl | hx
        · exact h2
        · exact h5 x hx
    obtain ⟨xs, h1, h2, h3⟩ := gen l he
    exact ⟨xs, by rw [Dt.cells, h2, h1], by rw [h1]; exact hb, h3⟩
  | _ => simp [Dt.ok] at h
theorem flat_vint (l : List Int) : l.flatMap (fun n => [vint n]) = l.map vint := by
  induction l with
  | nil => rfl
  | cons a l ih => rw [List.flatMap_cons, ih]; rfl
theorem flat_vbool (l : List Bool) : l.flatMap (fun n => [vbool n]) = l.map vbool := by
  induction l with
  | nil => rfl
  | cons a l ih => rw [List.flatMap_cons, ih]; rfl
theorem dt_ints {b : Nat} {d : Dt} (h : d.ok (.sl .int b)) : ∃ l : List Int, d.cells = [tIs l] ∧ l.length * b ≤ 140737488351232 ∧ ∀ a ∈ l, -9223372036854775808 ≤ a ∧ a ≤ 9223372036854775807 := by
  obtain ⟨l, h1, h2⟩ := dt_list (enc := fun n : Int => [vint n]) h fun d hd => dt_int hd
  rw [flat_vint] at h1
  exact ⟨l, h1, h2⟩
theorem dt_bools {b : Nat} {d : Dt} (h : d.ok (.sl .bool b)) : ∃ l : List Bool, d.cells = [tBs l] ∧ l.length * b ≤ 140737488351232 := by
  obtain ⟨l, h1, h2, _⟩ := dt_list (enc := fun n : Bool => [vbool n]) h fun d hd => dt_bool hd
  rw [flat_vbool] at h1
  exact ⟨l, h1, h2⟩
theorem oks_cons {t : Ty} {ts : List Ty} {l : List Dt} (h : Dt.oks (t :: ts) l) : ∃ d r, l = d :: r ∧ d.ok t ∧ Dt.oks ts r ∧ Dt.cellsL l = d.cells ++ Dt.cellsL r := by
  cases l with
  | nil => simp [Dt.oks] at h
  | cons d r => rw [Dt.oks] at h; exact ⟨d, r, rfl, h.1, h.2, by rw [Dt.cellsL]⟩
theorem oks_nil {l : List Dt} (h : Dt.oks [] l) : Dt.cellsL l = [] := by
  cases l with
  | nil => rw [Dt.cellsL]
  | cons d r => simp [Dt.oks] at h
theorem ok_st {ts : List Ty} {d : Dt} (h : d.ok (.st ts)) : ∃ l, d = .st l ∧ Dt.oks ts l ∧ d.cells = Dt.cellsL l ∧ d.val = .agg (Dt.cellsL l) := by
  cases d with
  | st l => rw [Dt.ok] at h; exact ⟨l, rfl, h, by rw [Dt.cells], by rw [Dt.val]⟩
  | _ => simp [Dt.ok] at h
def tyHand : Ty := .st [.sl .int 8, .sl .int 8, .sl .bool 1, .int, .int, .int, .int, .int, .int, .int]
def tyCrs : Ty := .st [.int, .int, .bool]
def tyIns : Ty := .st [.sl tyCrs 24, .sl .int 8]
def tySg : Ty := .st [.int, .bool, .bool]
def tyStp : Ty := .st [.int, .int, .int, .int, .int]
def tyEvt : Ty := .st [.bool, tySg, .bool, .sl tyStp 40]
def tyPce : Ty := .st [tyIns, .sl tyEvt 56]
def tyClm : Ty := .st [.bool, .bool, .sl tySg 16, .sl (.sl .int 8) 24]
def tyLf : Ty := .st [tyIns, .sl tyClm 56]
def tyRls : Ty := .st [tyHand, .int, .bool]
def tyCase : Ty := .st [tyLf, tyRls]
/-- A number of the machine. -/
def I64 (n : Int) : Prop := -9223372036854775808 ≤ n ∧ n ≤ 9223372036854775807
def Crs.Sm (c : Crs) : Prop := I64 c.p ∧ I64 c.f
def Sg.Sm (c : Sg) : Prop := I64 c.v
def Stp.Sm (s : Stp) : Prop := I64 s.co ∧ I64 s.fr ∧ I64 s.ri ∧ I64 s.gr ∧ I64 s.ho
def Ins.Sm (x : Ins) : Prop := (x.cs.length ≤ 17592186044416 ∧ ∀ c ∈ x.cs, c.Sm) ∧ x.st.length ≤ 17592186044416 ∧ ∀ n ∈ x.st, I64 n
def Evt.Sm (x : Evt) : Prop := x.sg.Sm ∧ x.ss.length ≤ 17592186044416 ∧ ∀ s ∈ x.ss, s.Sm
def Pce.Sm (p : Pce) : Prop := p.ins.Sm ∧ p.es.length ≤ 17592186044416 ∧ ∀ x ∈ p.es, x.Sm
def Clm.Sm (c : Clm) : Prop := (c.sgs.length ≤ 17592186044416 ∧ ∀ s ∈ c.sgs, s.Sm) ∧ c.ce.length ≤ 17592186044416 ∧ ∀ l ∈ c.ce, l.length ≤ 17592186044416 ∧ ∀ n ∈ l, I64 n
def Lf.Sm (f : Lf) : Prop := f.ins.Sm ∧ f.cols.length ≤ 17592186044416 ∧ ∀ c ∈ f.cols, c.Sm
theorem flat_tIs (l : List (List Int)) : l.flatMap (fun n => [tIs n]) = l.map tIs := by
  induction l with
  | nil => rfl
  | cons a l ih => rw [List.flatMap_cons, ih]; rfl
theorem dt_crs {d : Dt} (h : d.ok tyCrs) : ∃ c : Crs, d.cells = c.cells ∧ c.Sm := by
  obtain ⟨l, _, h1, hc, _⟩ := ok_st h
  obtain ⟨d1, r1, rfl, k1, h2, e1⟩ := oks_cons h1
  obtain ⟨d2, r2, rfl, k2, h3, e2⟩ := oks_cons h2
  obtain ⟨d3, r3, rfl, k3, h4, e3⟩ := oks_cons h3
  obtain ⟨a, ea, ra⟩ := dt_int k1
  obtain ⟨b, eb, rb⟩ := dt_int k2
  obtain ⟨c, ec, _⟩ := dt_bool k3
  exact ⟨⟨a, b, c⟩, by rw [hc, e1, e2, e3, oks_nil h4, ea, eb, ec]; rfl, ra, rb⟩
theorem dt_sg {d : Dt} (h : d.ok tySg) : ∃ c : Sg, d.cells = c.cells ∧ c.Sm := by
  obtain ⟨l, _, h1, hc, _⟩ := ok_st h
  obtain ⟨d1, r1, rfl, k1, h2, e1⟩ := oks_cons h1
  obtain ⟨d2, r2, rfl, k2, h3, e2⟩ := oks_cons h2
  obtain ⟨d3, r3, rfl, k3, h4, e3⟩ := oks_cons h3
  obtain ⟨a, ea, ra⟩ := dt_int k1
  obtain ⟨b, eb, _⟩ := dt_bool k2
  obtain ⟨c, ec, _⟩ := dt_bool k3
  exact ⟨⟨a, b, c⟩, by rw [hc, e1, e2, e3, oks_nil h4, ea, eb, ec]; rfl, ra⟩
theorem dt_stp {d : Dt} (h : d.ok tyStp) : ∃ c : Stp, d.cells = c.cells ∧ c.Sm := by
  obtain ⟨l, _, h1, hc, _⟩ := ok_st h
  obtain ⟨d1, r1, rfl, k1, h2, e1⟩ := oks_cons h1
  obtain ⟨d2, r2, rfl, k2, h3, e2⟩ := oks_cons h2
  obtain ⟨d3, r3, rfl, k3, h4, e3⟩ := oks_cons h3
  obtain ⟨d4, r4, rfl, k4, h5, e4⟩ := oks_cons h4
  obtain ⟨d5, r5, rfl, k5, h6, e5⟩ := oks_cons h5
  obtain ⟨x1, f1, b1⟩ := dt_int k1
  obtain ⟨x2, f2, b2⟩ := dt_int k2
  obtain ⟨x3, f3, b3⟩ := dt_int k3
  obtain ⟨x4, f4, b4⟩ := dt_int k4
  obtain ⟨x5, f5, b5⟩ := dt_int k5
  exact ⟨⟨x1, x2, x3, x4, x5⟩, by rw [hc, e1, e2, e3, e4, e5, oks_nil h6, f1, f2, f3, f4, f5]; rfl, b1, b2, b3, b4, b5⟩
theorem dt_ins {d : Dt} (h : d.ok tyIns) : ∃ x : Ins, d.cells = [tL Crs.cells x.cs, tIs x.st] ∧ x.Sm := by
  obtain ⟨l, _, h1, hc, _⟩ := ok_st h
  obtain ⟨d1, r1, rfl, k1, h2, e1⟩ := oks_cons h1
  obtain ⟨d2, r2, rfl, k2, h3, e2⟩ := oks_cons h2
  obtain ⟨a, ea, ra, qa⟩ := dt_list (enc := Crs.cells) (Q := Crs.Sm) k1 fun _ hd => dt_crs hd
  obtain ⟨b, eb, rb, qb⟩ := dt_ints k2
  exact ⟨⟨a, b⟩, by rw [hc, e1, e2, oks_nil h3, ea, eb]; rfl, ⟨by show a.length ≤ _; omega, qa⟩, by show b.length ≤ _; omega, qb⟩
theorem dt_evt {d : Dt} (h : d.ok tyEvt) : ∃ x : Evt, d.cells = x.cells ∧ x.Sm := by
  obtain ⟨l, _, h1, hc, _⟩ := ok_st h
  obtain ⟨d1, r1, rfl, k1, h2, e1⟩ := oks_cons h1
  obtain ⟨d2, r2, rfl, k2, h3, e2⟩ := oks_cons h2
  obtain ⟨d3, r3, rfl, k3, h4, e3⟩ := oks_cons h3
  obtain ⟨d4, r4, rfl, k4, h5, e4⟩ := oks_cons h4
  obtain ⟨a, ea, _⟩ := dt_bool k1
  obtain ⟨b, eb, rb⟩ := dt_sg k2
  obtain ⟨c, ec, _⟩ := dt_bool k3
  obtain ⟨s, es, rs, qs⟩ := dt_list (enc := Stp.cells) (Q := Stp.Sm) k4 fun _ hd => dt_stp hd
  exact ⟨⟨a, b, c, s⟩, by rw [hc, e1, e2, e3, e4, oks_nil h5, ea, eb, ec, es]; rfl, rb, by show s.length ≤ _; omega, qs⟩
theorem dt_pceV {d : Dt} (h : d.ok tyPce) : ∃ p : Pce, d.val = p.val ∧ p.Sm := by
  obtain ⟨l, _, h1, _, hv⟩ := ok_st h
  obtain ⟨d1, r1, rfl, k1, h2, e1⟩ := oks_cons h1
  obtain ⟨d2, r2, rfl, k2, h3, e2⟩ := oks_cons h2
  obtain ⟨a, ea, ra⟩ := dt_ins k1
  obtain ⟨b, eb, rb, qb⟩ := dt_list (enc := Evt.cells) (Q := Evt.Sm) k2 fun _ hd => dt_evt hd
  exact ⟨⟨a, b⟩, by rw [hv, e1, e2, oks_nil h3, ea, eb]; rfl, ra, by show b.length ≤ _; omega, qb⟩
theorem dt_clm {d : Dt} (h : d.ok tyClm) : ∃ x : Clm, d.cells = x.cells ∧ x.Sm := by
  obtain ⟨l, _, h1, hc, _⟩ := ok_st h
  obtain ⟨d1, r1, rfl, k1, h2, e1⟩ := oks_cons h1
  obtain ⟨d2, r2, rfl, k2, h3, e2⟩ := oks_cons h2
  obtain ⟨d3, r3, rfl, k3, h4, e3⟩ := oks_cons h3
  obtain ⟨d4, r4, rfl, k4, h5, e4⟩ := oks_cons h4
  obtain ⟨a, ea, _⟩ := dt_bool k1
  obtain ⟨b, eb, _⟩ := dt_bool k2
  obtain ⟨s, es, rs, qs⟩ := dt_list (enc := Sg.cells) (Q := Sg.Sm) k3 fun _ hd => dt_sg hd
  obtain ⟨c, ec, rc, qc⟩ := dt_list (enc := fun l : List Int => [tIs l]) (Q := fun l => l.length ≤ 17592186044416 ∧ ∀ n ∈ l, I64 n) k4 fun _ hd => by
    obtain ⟨l, e, r, q⟩ := dt_ints hd
    exact ⟨l, e, by omega, q⟩
  rw [flat_tIs] at ec
  exact ⟨⟨a, b, s, c⟩, by rw [hc, e1, e2, e3, e4, oks_nil h5, ea, eb, es, ec]; rfl, ⟨by show s.length ≤ _; omega, qs⟩, by show c.length ≤ _; omega, fun l hl => qc l hl⟩
theorem dt_lf {d : Dt} (h : d.ok tyLf) : ∃ f : Lf, d.cells = f.cells ∧ f.Sm := by
  obtain ⟨l, _, h1, hc, _⟩ := ok_st h
  obtain ⟨d1, r1, rfl, k1, h2, e1⟩ := oks_cons h1
  obtain ⟨d2, r2, rfl, k2, h3, e2⟩ := oks_cons h2
  obtain ⟨a, ea, ra⟩ := dt_ins k1
  obtain ⟨b, eb, rb, qb⟩ := dt_list (enc := Clm.cells) (Q := Clm.Sm) k2 fun _ hd => dt_clm hd
  exact ⟨⟨a, b⟩, by rw [hc, e1, e2, oks_nil h3, ea, eb]; rfl, ra, by show b.length ≤ _; omega, qb⟩
theorem dt_lfV {d : Dt} (h : d.ok tyLf) : ∃ f : Lf, d.val = f.val ∧ f.Sm := by
  obtain ⟨c, h1, h2⟩ := dt_lf h
  obtain ⟨l, _, _, hc, hv⟩ := ok_st h
  exact ⟨c, by rw [hv, ← hc, h1]; rfl, h2⟩
theorem dt_hand {d : Dt} (h : d.ok tyHand) : ∃ x : Hand, d.cells = [tIs x.low, tIs x.high, tBs x.barre, vint x.top, vint x.jump, vint x.shift, vint x.lift, vint x.bar, vint x.stretch, vint x.slide] ∧ True := by
  obtain ⟨l, _, h1, hv, _⟩ := ok_st h
  obtain ⟨d1, r1, rfl, k1, h2, e1⟩ := oks_cons h1
  obtain ⟨d2, r2, rfl, k2, h3, e2⟩ := oks_cons h2
  obtain ⟨d3, r3, rfl, k3, h4, e3⟩ := oks_cons h3
  obtain ⟨d4, r4, rfl, k4, h5, e4⟩ := oks_cons h4
  obtain ⟨d5, r5, rfl, k5, h6, e5⟩ := oks_cons h5
  obtain ⟨d6, r6, rfl, k6, h7, e6⟩ := oks_cons h6
  obtain ⟨d7, r7, rfl, k7, h8, e7⟩ := oks_cons h7
  obtain ⟨d8, r8, rfl, k8, h9, e8⟩ := oks_cons h8
  obtain ⟨d9, r9, rfl, k9, h10, e9⟩ := oks_cons h9
  obtain ⟨d10, r10, rfl, k10, h11, e10⟩ := oks_cons h10
  obtain ⟨x1, f1, _⟩ := dt_ints k1
  obtain ⟨x2, f2, _⟩ := dt_ints k2
  obtain ⟨x3, f3, _⟩ := dt_bools k3
  obtain ⟨x4, f4, _⟩ := dt_int k4
  obtain ⟨x5, f5, _⟩ := dt_int k5
  obtain ⟨x6, f6, _⟩ := dt_int k6
  obtain ⟨x7, f7, _⟩ := dt_int k7
  obtain ⟨x8, f8, _⟩ := dt_int k8
  obtain ⟨x9, f9, _⟩ := dt_int k9
  obtain ⟨x10, f10, _⟩ := dt_int k10
  exact ⟨⟨x1, x2, x3, x4, x5, x6, x7, x8, x9, x10⟩, by rw [hv, e1, e2, e3, e4, e5, e6, e7, e8, e9, e10, oks_nil h11, f1, f2, f3, f4, f5, f6, f7, f8, f9, f10]; rfl, trivial⟩
theorem dt_rls {d : Dt} (h : d.ok tyRls) : ∃ r : Rls, d.cells = r.cells ∧ I64 r.meas := by
  obtain ⟨l, _, h1, hc, _⟩ := ok_st h
  obtain ⟨d1, r1, rfl, k1, h2, e1⟩ := oks_cons h1
  obtain ⟨d2, r2, rfl, k2, h3, e2⟩ := oks_cons h2
  obtain ⟨d3, r3, rfl, k3, h4, e3⟩ := oks_cons h3
  obtain ⟨a, ea, _⟩ := dt_hand k1
  obtain ⟨b, eb, rb⟩ := dt_int k2
  obtain ⟨c, ec, _⟩ := dt_bool k3
  exact ⟨⟨a, b, c⟩, by rw [hc, e1, e2, e3, oks_nil h4, ea, eb, ec]; rfl, rb⟩
theorem dt_caseV {d : Dt} (h : d.ok tyCase) : ∃ (f : Lf) (r : Rls), d.val = caseV f r ∧ f.Sm ∧ I64 r.meas := by
  obtain ⟨l, _, h1, _, hv⟩ := ok_st h
  obtain ⟨d1, r1, rfl, k1, h2, e1⟩ := oks_cons h1
  obtain ⟨d2, r2, rfl, k2, h3, e2⟩ := oks_cons h2
  obtain ⟨a, ea, ra⟩ := dt_lf k1
  obtain ⟨b, eb, rb⟩ := dt_rls k2
  exact ⟨a, b, by rw [hv, e1, e2, oks_nil h3, ea, eb]; rfl, ra, rb⟩
theorem dt_intV {d : Dt} (h : d.ok .int) : ∃ n : Int, d.val = vint n ∧ I64 n := by
  cases d <;> first | (rw [Dt.ok] at h; exact ⟨_, by rw [Dt.val], h⟩) | (simp [Dt.ok] at h)
theorem Lf.Sm.lf {f : Lf} (h : f.Sm) : LfSm f := ⟨h.2.1, fun i hi => by
  obtain ⟨a, b, c⟩ := h.2.2 _ (getD_mem hi)
  exact ⟨a.1, b, fun k hk => (c _ (getD_mem hk)).1⟩⟩
theorem Pce.Sm.pc {p : Pce} (h : p.Sm) : PcSm p := ⟨h.2.1, h.1.1.1, by have := h.1.2.1; omega, fun i hi => (h.2.2 _ (getD_mem hi)).2.1⟩
theorem ty_case : tyOf Tryz.prog 10 35 = some tyCase := by kernel_rfl
theorem ty_lf : tyOf Tryz.prog 10 28 = some tyLf := by kernel_rfl
theorem ty_pce : tyOf Tryz.prog 10 49 = some tyPce := by kernel_rfl
theorem ty_int : tyOf Tryz.prog 10 3 = some .int := by kernel_rfl

/-! ### A law's call -/
theorem law_call {f : FuncId} {args : List V} (h : Fn Tryz.prog Gd f args (vbool true)) {W : World} {cargs : Array Value} (hv : VRs (EW W) args cargs.toList) :
    Calls Tryz.prog f cargs W fun e w' => e = .returned (.bool true) ∧ Below W.heap.size W w' := by
  refine (h.calls trivial (fun _ _ _ x => x) hv).mono ?_
  rintro e w' ⟨v, E', rfl, hb, hr, _⟩
  have := VR_lit hr
  subst this
  exact ⟨rfl, hb⟩
theorem VRs.cons1 {E : Env} {v : V} {c : Value} {vs : List V} {cs : List Value} (h : VR E v c) (h' : VRs E vs cs) : VRs E (v :: vs) (c :: cs) := by rw [VRs]; exact ⟨c, cs, rfl, h, h'⟩
theorem VRs.nil1 {E : Env} : VRs E [] [] := by rw [VRs]

section
variable {H : Type} {enc : TypeId × Value → H}
theorem trodAll_below {P : Program} (hl : laidOutB P = true) {W W' : World} (hb : Below W.heap.size W W') {ts : List TypeId} : ∀ {vs : List Value} {ds : List (DataW H)} {ps : List MemPlace},
    (∀ t ∈ ts, P.readableRec t = true ∧ t < P.types.size) → (∀ x ∈ ps, x.block < W.heap.size) → DataW.TrodAll enc P W 0 (fun _ => true) true ts vs ds ps →
    DataW.TrodAll enc P W' 0 (fun b => decide (b < W.heap.size)) true ts vs ds ps := by
  induction ts with
  | nil =>
    intro vs ds ps _ _ h
    cases vs with
    | nil =>
      cases ds with
      | nil => exact h
      | cons _ _ => exact h.elim
    | cons _ _ => exact h.elim
  | cons t ts ih =>
    intro vs ds ps hp hlt h
    cases vs with
    | nil => exact h.elim
    | cons v vs =>
      cases ds with
      | nil => exact h.elim
      | cons d ds =>
        obtain ⟨p, q, h1, h2, rfl⟩ := h
        have ht := hp t (List.mem_cons_self ..)
        exact ⟨p, q, Below.trod hl ht.1 ht.2 h1 hb (fun x hx => hlt x (List.mem_append_left _ hx)), ih (fun t ht => hp t (List.mem_cons_of_mem _ ht)) (fun x hx => hlt x (List.mem_append_right _ hx)) h2, rfl⟩
/-- A law that answers true and only makes memory: what its row asks behind the call. -/
theorem law_post {f : Func} {s : ChangeSpec} {W W' : World} {args : Array Value} {ds gs : List (DataW H)} {before : List MemPlace}
    (hp : f.params.toList.all (fun t => Tryz.prog.readableRec t && decide (t < Tryz.prog.types.size)) = true) (hr : f.resultTypes = #[4]) (hv : s.vars = [])
    (hs : s.fn H ds = { results := [.lit (.bool true)], args := ds }) (hW : DataW.Whole enc Tryz.prog f.params.toList s.vars false W args.toList ds gs before) (hb : Below W.heap.size W W') :
    s.post enc Tryz.prog f false true false false W args (.bool true) W' := by
  have hW' := hW
  obtain ⟨p, q, hA, hV, rfl, _, _⟩ := hW
  rw [hv] at hV
  obtain ⟨rfl, rfl⟩ := trodVars_none hV
  have hlt := hW'.lt
  simp only [List.append_nil] at hlt hW' 
  refine ⟨ds, [], p, [], p, [], hW', ?_, ?_, ?_, hb.frame _, fun h => by cases h⟩
  · rw [List.append_nil, hs, hr]
    exact trodAll_cons_mk (shut_bool Tryz.underlying4 _) trodAll_mk0
  · rw [List.append_nil, hs]
    exact trodAll_below laidOut hb (fun t ht => by have h := List.all_eq_true.1 hp t ht; simpa using h) hlt hA
  · rw [List.append_nil, hs, hv]
    rfl
end
end Go.Proofs.YtdefefeifcdogaaGreat
