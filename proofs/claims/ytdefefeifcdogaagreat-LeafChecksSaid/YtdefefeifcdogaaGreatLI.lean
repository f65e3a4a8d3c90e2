/- A leaf with one reading: in plain. Nothing is run here. -/
import Derived.Test.YtdefefeifcdogaaGreatLH
namespace Go.Proofs.YtdefefeifcdogaaGreat
open Go.RowKit
set_option linter.unusedSimpArgs false
set_option linter.unusedVariables false

/-- A column has one reading. -/
def oneC (c : Clm) : Bool := decide (c.sgs.length = 1) && allB c.ce.length fun i => decide ((c.ce.getD i []).length = 1)
/-- The first reading of a column. -/
def frR (c : Clm) : Rdg := ⟨c.sgs.getD 0 default, c.ce.map fun l => l.getD 0 0⟩
theorem oneC_iff {c : Clm} : oneC c = true ↔ c.sgs.length = 1 ∧ ∀ i, i < c.ce.length → (c.ce.getD i []).length = 1 := by
  rw [oneC, Bool.and_eq_true, decide_eq_true_eq, allB_iff]
  simp only [decide_eq_true_eq]
theorem manyK_pos {c : Clm} (h : 0 < c.sgs.length) (hc : ∀ i, i < c.ce.length → 0 < (c.ce.getD i []).length) : ∀ k, k ≤ c.ce.length → 1 ≤ manyK c k
  | 0, _ => by rw [manyK]; omega
  | k + 1, hk => by
    have h1 := manyK_pos h hc k (by omega)
    have h2 := hc k (by omega)
    have h3 : 1 * 1 ≤ manyK c k * (c.ce.getD k []).length := Nat.mul_le_mul h1 h2
    rw [manyK]; omega
theorem manyK_one {c : Clm} (h : 0 < c.sgs.length) (hc : ∀ i, i < c.ce.length → 0 < (c.ce.getD i []).length) : ∀ k, k ≤ c.ce.length → (manyK c k ≤ 1 ↔ c.sgs.length = 1 ∧ ∀ i, i < k → (c.ce.getD i []).length = 1)
  | 0, _ => by
    rw [manyK]
    exact ⟨fun h1 => ⟨by omega, fun i hi => by omega⟩, fun h1 => by omega⟩
  | k + 1, hk => by
    have h1 := manyK_pos h hc k (by omega)
    have h2 := hc k (by omega)
    have ih := manyK_one h hc k (by omega)
    have h3 : manyK c k ≤ manyK c k * (c.ce.getD k []).length := Nat.le_mul_of_pos_right _ h2
    have h4 : (c.ce.getD k []).length ≤ manyK c k * (c.ce.getD k []).length := Nat.le_mul_of_pos_left _ h1
    rw [manyK]
    constructor
    · intro h5
      have h6 : manyK c k * (c.ce.getD k []).length ≤ 1 := by omega
      obtain ⟨h7, h8⟩ := ih.1 (by omega)
      refine ⟨h7, fun i hi => ?_⟩
      by_cases e : i = k
      · subst e; omega
      · exact h8 i (by omega)
    · rintro ⟨h5, h6⟩
      have h7 := ih.2 ⟨h5, fun i hi => h6 i (by omega)⟩
      have h8 := h6 k (by omega)
      rw [h8, Nat.mul_one]; omega
theorem many_one {x : Ins} {c : Clm} (h : ClmOk x c) : manyC c ≤ 1 ↔ oneC c = true := by
  rw [manyC, manyK_one (risS_pos h.ris) (fun i hi => risI_pos (h.cel i hi).ris) _ (Nat.le_refl _), oneC_iff]
theorem crsK_one {ce : List (List Int)} (h : ∀ i, i < ce.length → (ce.getD i []).length = 1) : ∀ k, k ≤ ce.length → crsK ce k = [(ce.take k).map fun l => l.getD 0 0]
  | 0, _ => by rw [crsK]; rfl
  | k + 1, hk => by
    have hlt : k < ce.length := by omega
    have h1 := h k hlt
    obtain ⟨a, ha⟩ : ∃ a, ce.getD k [] = [a] := List.length_eq_one_iff.1 h1
    have h2 : ce[k] = [a] := by rw [← ha, List.getD_eq_getElem?_getD, List.getElem?_eq_getElem hlt]; rfl
    rw [crsK, crsK_one h k (by omega), ha, List.take_add_one, List.getElem?_eq_getElem hlt, h2]
    simp
theorem rdgs_one {c : Clm} (h : oneC c = true) : rdgs c = [frR c] := by
  obtain ⟨h1, h2⟩ := oneC_iff.1 h
  obtain ⟨s, hs⟩ := List.length_eq_one_iff.1 h1
  rw [rdgs, crsK_one h2 _ (Nat.le_refl _), List.take_length, hs, frR, hs]
  rfl
/-- All columns have one reading. -/
def oneL (f : Lf) : Bool := f.cols.all oneC
def noP : Pce := ⟨⟨[], []⟩, []⟩
/-- The piece of a leaf with one reading. -/
def thP (f : Lf) : Pce := ⟨f.ins, f.cols.map fun c => evtR c (frR c)⟩
/-- What Piece answers. -/
noncomputable def pieR (f : Lf) : Pce × Int := if lchk f ≠ 0 then (noP, lchk f) else if oneL f = true then (thP f, 0) else (noP, 101)
theorem oneL_iff {f : Lf} : oneL f = true ↔ ∀ i, i < f.cols.length → oneC (f.cols.getD i default) = true := by
  rw [oneL, List.all_eq_true]
  constructor
  · intro h i hi
    exact h _ (by rw [List.getD_eq_getElem?_getD, List.getElem?_eq_getElem hi]; exact List.getElem_mem hi)
  · intro h c hc
    obtain ⟨i, hi, rfl⟩ := List.mem_iff_getElem.1 hc
    have := h i hi
    rwa [List.getD_eq_getElem?_getD, List.getElem?_eq_getElem hi] at this
end Go.Proofs.YtdefefeifcdogaaGreat
