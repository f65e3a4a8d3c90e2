/- Instruments and places among a law's arguments: from the reading to the walk's words. -/
import Derived.Test.YtbdhjpdjbogggaaDoorC0
import Derived.Lib.SmallJoins
import Derived.Deep.Slices
import Derived.Deep.Fields
import Derived.ChangeSame
namespace Go.Proofs.YtbdhjpdjbogggaaDoor
open Go.ChangeShapes Go.WideShapes Go.ChangeAt Go.RowKit
set_option maxRecDepth 100000

theorem one39 : Deep.oneCellFields Tryd.prog #[⟨"Courses", 36, 0, false, "", "", 0⟩, ⟨"Steps", 37, 1, false, "", "", 24⟩] = true := by kernel_rfl
theorem one41 : Deep.oneCellFields Tryd.prog #[⟨"Course", 3, 0, false, "", "", 0⟩, ⟨"Fret", 3, 1, false, "", "", 8⟩] = true := by kernel_rfl
theorem one59 : Deep.oneCellFields Tryd.prog #[⟨"Pitch", 3, 0, false, "", "", 0⟩, ⟨"Frets", 3, 1, false, "", "", 8⟩, ⟨"Octave", 4, 2, false, "", "", 16⟩] = true := by kernel_rfl
theorem cells39 : Tryd.prog.cellsOf 39 = 2 := by kernel_rfl
theorem cells41 : Tryd.prog.cellsOf 41 = 2 := by kernel_rfl
theorem cells59 : Tryd.prog.cellsOf 59 = 3 := by kernel_rfl

theorem list_of {α : Type} (n : Nat) (Q : Nat → α → Prop) (h : ∀ i, i < n → ∃ x, Q i x) : ∃ l : List α, l.length = n ∧ ∀ i (hi : i < l.length), Q i l[i] := by
  induction n with
  | zero => exact ⟨[], rfl, fun i hi => absurd hi (Nat.not_lt_zero _)⟩
  | succ n ih =>
    obtain ⟨l, hl, hq⟩ := ih (fun i hi => h i (by omega))
    obtain ⟨x, hx⟩ := h n (by omega)
    refine ⟨l ++ [x], by simp [hl], fun i hi => ?_⟩
    by_cases hin : i < l.length
    · rw [List.getElem_append_left hin]; exact hq i hin
    · have : i = n := by simp at hi; omega
      subst this
      rw [List.getElem_append_right (by omega)]
      simpa [hl] using hx

section
variable {H : Type} {enc : TypeId × Value → H} {w : World}
/-- A course, read out of three cells. -/
theorem open_course {n : Nat} {cs : List Value} {y : DataW H × List MemPlace} (h : DataW.trod enc Tryd.prog w 0 (fun _ => true) true n 59 cs = some y) : ∃ c : Crs, cs = c.cells := by
  obtain ⟨ys, m, _, _, hcl, _, hf⟩ := DataW.trod_struct Tryd.underlying59 h
  rw [cells59] at hcl
  have c3 : Tryd.prog.cellsOf 3 = 1 := cells1
  have c4 : Tryd.prog.cellsOf 4 = 1 := by kernel_rfl
  obtain ⟨a, b, c, rfl⟩ : ∃ a b c, cs = [a, b, c] := by
    match cs, hcl with
    | [a, b, c], _ => exact ⟨a, b, c, rfl⟩
  · have h0 : DataW.trod enc Tryd.prog w 0 (fun _ => true) true m 3 (([a, b, c].drop 0).take (Tryd.prog.cellsOf 3)) = ys[0]? := hf 0 _ rfl
    have h1 : DataW.trod enc Tryd.prog w 0 (fun _ => true) true m 3 (([a, b, c].drop 1).take (Tryd.prog.cellsOf 3)) = ys[1]? := hf 1 _ rfl
    have h2 : DataW.trod enc Tryd.prog w 0 (fun _ => true) true m 4 (([a, b, c].drop 2).take (Tryd.prog.cellsOf 4)) = ys[2]? := hf 2 _ rfl
    rw [c3] at h0 h1
    rw [c4] at h2
    simp only [List.drop_zero, List.drop_succ_cons, List.take_succ_cons, List.take_zero] at h0 h1 h2
    have hl : ys.length = 3 := by assumption
    rw [List.getElem?_eq_getElem (by omega)] at h0 h1 h2
    obtain ⟨p, hp, _, _⟩ := DataW.trod_int Tryd.underlying3 h0
    obtain ⟨f, hf', _, _⟩ := DataW.trod_int Tryd.underlying3 h1
    obtain ⟨o, ho, _⟩ := DataW.trod_bool Tryd.underlying4 h2
    simp at hp hf' ho
    exact ⟨⟨p, f, o⟩, by rw [hp, hf', ho]; rfl⟩

theorem cells3_get (l : List Crs) (i j : Nat) (hj : j < 3) : (cells3 l)[i * 3 + j]? = (l[i]?).bind fun c => c.cells[j]? := by
  induction l generalizing i with
  | nil => simp [cells3]
  | cons c r ih =>
    cases i with
    | zero =>
      have : j = 0 ∨ j = 1 ∨ j = 2 := by omega
      rcases this with rfl | rfl | rfl <;> simp [cells3, Crs.cells]
    | succ i =>
      have := ih i
      have e : (i + 1) * 3 + j = i * 3 + j + 3 := by omega
      simp only [e, cells3, List.flatMap_cons, Crs.cells, List.cons_append, List.nil_append, List.getElem?_cons_succ] at this ⊢
      exact this

/-- A slice of courses. -/
theorem open_courses {n : Nat} {v : Value} {y : DataW H × List MemPlace} (h : DataW.trod enc Tryd.prog w 0 (fun _ => true) true n 36 [v] = some y) :
    ∃ (A : Option Addr) (k c : Nat) (l : List Crs), v = .slice A k c ∧ Arr w w.heap.size 3 A k (cells3 l) ∧ k ≤ maxLen ∧ k ≤ c := by
  rcases Deep.open_slice Tryd.underlying36 h with ⟨h0, _⟩ | ⟨a, len, cap, m, n', D, Pl, hv, _, hl, hm, hmm, _, hi⟩
  · simp at h0
    exact ⟨none, 0, 0, [], h0, Arr.nil_ _ _, Nat.zero_le _, Nat.le_refl _⟩
  · simp at hv
    simp at hmm
    have key : ∀ i, i < len → ∃ c : Crs, ∀ j, j < 3 → w.cell? (a.add (i * 3 + j)) = c.cells[j]? := by
      intro i hil
      obtain ⟨cs', hc, ht⟩ := hi i (by omega)
      rw [cells59] at hc
      obtain ⟨c, hcc⟩ := open_course ht
      obtain ⟨_, _, hat⟩ := World.cells?_some hc
      refine ⟨c, fun j hj => ?_⟩
      rw [← Deep.add_add, hat j hj, hcc]
    obtain ⟨l, hll, hlq⟩ := list_of len _ key
    refine ⟨some a, len, cap, l, hv, ⟨by rw [cells3_length, hll], fun hn => ?_⟩, by omega, hl⟩
    have h0 : w.cell? a = some (.int .i64 (l[0]'(by omega)).p) := by
      have := hlq 0 (by omega) 0 (by omega)
      simpa [Addr.add, Crs.cells] using this
    have hsp := World.cell?_spot h0
    obtain ⟨b, o, s⟩ := a
    simp only at hsp
    subst hsp
    refine ⟨b, o, rfl, World.block_lt_of_cell? w _ h0, fun j u hu => ?_⟩
    have hj : j < len * 3 := by
      have := (List.getElem?_eq_some_iff.1 hu).1
      rw [cells3_length, hll] at this
      exact this
    have e : j = j / 3 * 3 + j % 3 := by omega
    have hq := hlq (j / 3) (by omega) (j % 3) (Nat.mod_lt _ (by decide))
    rw [← e, Addr.add_lit] at hq
    rw [hq]
    have hg := cells3_get l (j / 3) (j % 3) (Nat.mod_lt _ (by decide))
    rw [← e, hu, List.getElem?_eq_getElem (by omega)] at hg
    exact hg.symm

/-- A slice of ints. -/
theorem open_nums {n : Nat} {v : Value} {y : DataW H × List MemPlace} (h : DataW.trod enc Tryd.prog w 0 (fun _ => true) true n 37 [v] = some y) :
    ∃ (A : Option Addr) (k c : Nat) (l : List Int), v = .slice A k c ∧ Arr w w.heap.size 1 A k (l.map (Value.int .i64)) ∧ k ≤ maxLen ∧ k ≤ c := by
  rcases open_ints Tryd.underlying37 Tryd.underlying3 cells1 h with ⟨h0, _⟩ | ⟨a, len, cap, zs, hv, _, hl, hm, hz, _, hc, _⟩
  · simp at h0
    exact ⟨none, 0, 0, [], h0, Arr.nil_ _ _, Nat.zero_le _, Nat.le_refl _⟩
  · simp at hv
    simp at hz
    refine ⟨some a, len, cap, zs.take len, hv, ⟨by simp; omega, fun hn => ?_⟩, by omega, hl⟩
    have h0 : w.cell? a = some (.int .i64 (zs.getD 0 0)) := by
      have := hc 0 (by omega)
      simpa [Addr.add] using this
    have hsp := World.cell?_spot h0
    obtain ⟨b, o, s⟩ := a
    simp only at hsp
    subst hsp
    refine ⟨b, o, rfl, World.block_lt_of_cell? w _ h0, fun j u hu => ?_⟩
    rw [List.getElem?_map] at hu
    obtain ⟨x, hx, rfl⟩ := Option.map_eq_some_iff.1 hu
    have hj := (List.getElem?_eq_some_iff.1 hx).1
    simp at hj
    have hq := hc j (by omega)
    rw [Addr.add_lit] at hq
    rw [hq]
    rw [List.getElem?_take_of_lt (by omega)] at hx
    rw [List.getD_eq_getElem?_getD, hx]; rfl

/-- An instrument. -/
theorem open_ins {r : Reach} {b0 : Nat} {v : Value} {d : DataW H} {p : List MemPlace} (hv : Value.okWide Tryd.prog w r b0 39 v) (h : DataW.Trod enc Tryd.prog w 0 (fun _ => true) true 39 v d p) :
    ∃ (A C : Option Addr) (nc cc ns kc : Nat) (cs : List Crs) (ss : List Int), v = .agg #[.slice A nc cc, .slice C ns kc] ∧ Arr w w.heap.size 3 A nc (cells3 cs) ∧ Arr w w.heap.size 1 C ns (ss.map (Value.int .i64)) := by
  obtain ⟨v0, v1, y0, y1, n, rfl, _, _, h0, h1⟩ := Joins.open_agg2 Tryd.underlying39 one39 cells39 hv h
  obtain ⟨A, nc, cc, cs, rfl, hA, _⟩ := open_courses h0
  obtain ⟨C, ns, kc, ss, rfl, hC, _⟩ := open_nums h1
  exact ⟨A, C, nc, cc, ns, kc, cs, ss, rfl, hA, hC⟩
theorem open_insV {r : Reach} {b0 : Nat} {v : Value} {d : DataW H} {p : List MemPlace} (hv : Value.okWide Tryd.prog w r b0 39 v) (h : DataW.Trod enc Tryd.prog w 0 (fun _ => true) true 39 v d p) :
    ∃ (A C : Option Addr) (nc cc ns kc : Nat) (cs : List Crs) (ss : List Int), v = .agg #[.slice A nc cc, .slice C ns kc] ∧ Arr w w.heap.size 3 A nc (cells3 cs) ∧ Arr w w.heap.size 1 C ns (ss.map (Value.int .i64)) ∧ nc ≤ cc ∧ ns ≤ kc := by
  obtain ⟨v0, v1, y0, y1, n, rfl, _, _, h0, h1⟩ := Joins.open_agg2 Tryd.underlying39 one39 cells39 hv h
  obtain ⟨A, nc, cc, cs, rfl, hA, _, h2⟩ := open_courses h0
  obtain ⟨C, ns, kc, ss, rfl, hC, _, h3⟩ := open_nums h1
  exact ⟨A, C, nc, cc, ns, kc, cs, ss, rfl, hA, hC, h2, h3⟩
/-- A place. -/
theorem open_place {r : Reach} {b0 : Nat} {v : Value} {d : DataW H} {p : List MemPlace} (hv : Value.okWide Tryd.prog w r b0 41 v) (h : DataW.Trod enc Tryd.prog w 0 (fun _ => true) true 41 v d p) :
    ∃ (co f : Int), v = .agg #[.int .i64 co, .int .i64 f] := by
  obtain ⟨v0, v1, y0, y1, n, rfl, _, _, h0, h1⟩ := Joins.open_agg2 Tryd.underlying41 one41 cells41 hv h
  obtain ⟨a, ha, _, _⟩ := DataW.trod_int Tryd.underlying3 h0
  obtain ⟨b, hb, _, _⟩ := DataW.trod_int Tryd.underlying3 h1
  simp at ha hb
  exact ⟨a, b, by rw [ha, hb]⟩
end
end Go.Proofs.YtbdhjpdjbogggaaDoor
