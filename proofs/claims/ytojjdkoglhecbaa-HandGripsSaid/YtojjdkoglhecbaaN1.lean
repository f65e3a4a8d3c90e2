/- The grips of a chord, in order: plain. -/
import Derived.Test.YtojjdkoglhecbaaJ6
namespace Go.Proofs.Ytojjdkoglhecbaa
open Go.RowKit

/-- The grips at a position that begin with these fingers, k more to come, and fit; in order. -/
noncomputable def fitT (h : Hand) (c : Chord) (pos : Int) : Nat → List Int → List Grip
  | 0, F => if fitB h c ⟨pos, F⟩ = true then [⟨pos, F⟩] else []
  | k + 1, F => (List.range h.low.length).flatMap fun f => fitT h c pos k (F ++ [((f + 1 : Nat) : Int)])
/-- Those of the first positions. -/
noncomputable def fitP (h : Hand) (c : Chord) (n : Nat) : List Grip := (List.range n).flatMap fun p => fitT h c ((p + 1 : Nat) : Int) c.down.length []
/-- All grips that fit, in order. -/
noncomputable def grpA (h : Hand) (c : Chord) : List Grip := fitP h c h.top.toNat
/-- With these fingers first. -/
noncomputable def fitS (h : Hand) (c : Chord) (pos : Int) (k : Nat) (F : List Int) (n : Nat) : List Grip := (List.range n).flatMap fun f => fitT h c pos k (F ++ [((f + 1 : Nat) : Int)])
theorem fitS_succ (h : Hand) (c : Chord) (pos : Int) (k : Nat) (F : List Int) (n : Nat) : fitS h c pos k F (n + 1) = fitS h c pos k F n ++ fitT h c pos k (F ++ [((n + 1 : Nat) : Int)]) := by
  rw [fitS, fitS, List.range_succ, List.flatMap_append]; simp
theorem fitT_succ (h : Hand) (c : Chord) (pos : Int) (k : Nat) (F : List Int) : fitT h c pos (k + 1) F = fitS h c pos k F h.low.length := rfl
theorem fitP_succ (h : Hand) (c : Chord) (n : Nat) : fitP h c (n + 1) = fitP h c n ++ fitT h c ((n + 1 : Nat) : Int) c.down.length [] := by
  rw [fitP, fitP, List.range_succ, List.flatMap_append]; simp
theorem fitT_none {h : Hand} {c : Chord} {pos : Int} : ∀ {k : Nat} {F : List Int}, (∀ t, ¬ FitG h c ⟨pos, F ++ t⟩) → fitT h c pos k F = []
  | 0, F, hn => by
    have : ¬ fitB h c ⟨pos, F⟩ = true := fun hb => hn [] (by rw [List.append_nil]; exact fit_true.1 hb)
    rw [fitT, if_neg this]
  | k + 1, F, hn => by
    rw [fitT, List.flatMap_eq_nil_iff]
    exact fun f _ => fitT_none fun t => by rw [List.append_assoc]; exact hn _
/-- Every grip that is listed begins so, and fits. -/
theorem fitT_mem {h : Hand} {c : Chord} {pos : Int} {g : Grip} : ∀ {k : Nat} {F : List Int}, g ∈ fitT h c pos k F ↔ ∃ t, t.length = k ∧ (∀ f : Int, f ∈ t → 1 ≤ f ∧ f ≤ (h.low.length : Int)) ∧ g = ⟨pos, F ++ t⟩ ∧ FitG h c g
  | 0, F => by
    rw [fitT]
    constructor
    · intro hg
      split at hg
      · rename_i hb
        rw [List.mem_singleton] at hg
        subst hg
        exact ⟨[], rfl, (fun _ hf => by cases hf), by rw [List.append_nil], fit_true.1 hb⟩
      · cases hg
    · rintro ⟨t, ht, _, rfl, hf⟩
      have : t = [] := List.eq_nil_of_length_eq_zero ht
      subst this
      rw [List.append_nil] at hf ⊢
      rw [if_pos (fit_true.2 hf)]
      exact List.mem_singleton.2 rfl
  | k + 1, F => by
    rw [fitT, List.mem_flatMap]
    constructor
    · rintro ⟨f, hf, hg⟩
      obtain ⟨t, h1, h2, h3, h4⟩ := fitT_mem.1 hg
      have hf := List.mem_range.1 hf
      refine ⟨((f + 1 : Nat) : Int) :: t, by simp [h1], fun x hx => ?_, by rw [h3, List.append_assoc]; rfl, h4⟩
      rcases List.mem_cons.1 hx with rfl | hx
      · omega
      · exact h2 x hx
    · rintro ⟨t, h1, h2, h3, h4⟩
      cases t with
      | nil => simp at h1
      | cons x t =>
        have hx := h2 x (List.mem_cons_self ..)
        refine ⟨(x - 1).toNat, List.mem_range.2 (by omega), fitT_mem.2 ⟨t, by simpa using h1, fun y hy => h2 y (List.mem_cons_of_mem _ hy), ?_, h4⟩⟩
        rw [h3, List.append_assoc, show (((x - 1).toNat + 1 : Nat) : Int) = x by omega]
        rfl
/-- A grip is listed if it fits, and only then. -/
theorem grpA_mem {h : Hand} {c : Chord} {g : Grip} : g ∈ grpA h c ↔ FitG h c g := by
  rw [grpA, fitP, List.mem_flatMap]
  constructor
  · rintro ⟨p, _, hg⟩
    obtain ⟨_, _, _, _, h4⟩ := fitT_mem.1 hg
    exact h4
  · intro hf
    have hp := hf.pos
    refine ⟨(g.pos - 1).toNat, List.mem_range.2 (by omega), fitT_mem.2 ⟨g.fingers, hf.len, fun f hfm => ?_, ?_, hf⟩⟩
    · obtain ⟨i, hi, rfl⟩ := List.getElem_of_mem hfm
      have := hf.fin i (by rw [← hf.len]; exact hi)
      rw [List.getD_eq_getElem?_getD, List.getElem?_eq_getElem hi] at this
      exact this
    · rw [show (((g.pos - 1).toNat + 1 : Nat) : Int) = g.pos by omega]; rfl

/-- The first fingers are as the program wants them. -/
def PreF (h : Hand) (c : Chord) (pos : Int) (F : List Int) : Prop := ∀ i, i < F.length → (1 ≤ F.getD i 0 ∧ F.getD i 0 ≤ h.low.length) ∧ rchB h pos (F.getD i 0 - 1).toNat (c.down.getD i (0, 0)).2 = true ∧
  ∀ k, k < i → agrB (c.down.getD k (0, 0)) (c.down.getD i (0, 0)) (F.getD k 0) (F.getD i 0) = true
theorem getD_app_l {F t : List Int} {i : Nat} (hi : i < F.length) : (F ++ t).getD i 0 = F.getD i 0 := by
  rw [List.getD_eq_getElem?_getD, List.getElem?_append_left hi, List.getD_eq_getElem?_getD]
theorem getD_app_last (F : List Int) (x : Int) : (F ++ [x]).getD F.length 0 = x := by
  rw [List.getD_eq_getElem?_getD, List.getElem?_append_right (Nat.le_refl _), Nat.sub_self]; rfl
theorem getD_app_mid (F : List Int) (x : Int) (t : List Int) : (F ++ [x] ++ t).getD F.length 0 = x := by rw [getD_app_l (by simp), getD_app_last]
theorem getD_app_far {F : List Int} {x : Int} {t : List Int} {j : Nat} (hj : j < F.length) : (F ++ [x] ++ t).getD j 0 = F.getD j 0 := by rw [List.append_assoc, getD_app_l hj]
theorem PreF.snoc {h : Hand} {c : Chord} {pos : Int} {F : List Int} {f : Nat} (hF : PreF h c pos F) (hf : f < h.low.length) (hr : rchB h pos f (c.down.getD F.length (0, 0)).2 = true)
    (ha : ∀ k, k < F.length → agrB (c.down.getD k (0, 0)) (c.down.getD F.length (0, 0)) (F.getD k 0) ((f + 1 : Nat) : Int) = true) : PreF h c pos (F ++ [((f + 1 : Nat) : Int)]) := by
  intro i hi
  rw [List.length_append] at hi
  by_cases h1 : i < F.length
  · rw [getD_app_l h1]
    obtain ⟨h2, h3, h4⟩ := hF i h1
    exact ⟨h2, h3, fun k hk => by rw [getD_app_l (by omega)]; exact h4 k hk⟩
  · have : i = F.length := by have : [((f + 1 : Nat) : Int)].length = 1 := rfl
                              omega
    subst this
    rw [getD_app_last]
    exact ⟨by omega, by rw [show (((f + 1 : Nat) : Int) - 1).toNat = f by omega]; exact hr, fun k hk => by rw [getD_app_l hk]; exact ha k hk⟩
theorem fitT_reach {h : Hand} {c : Chord} {pos : Int} {F : List Int} {k f : Nat} (hl : F.length < c.down.length) (hr : rchB h pos f (c.down.getD F.length (0, 0)).2 = false) : fitT h c pos k (F ++ [((f + 1 : Nat) : Int)]) = [] :=
  fitT_none fun t hg => by
    have := hg.rch F.length hl
    rw [show (⟨pos, F ++ [((f + 1 : Nat) : Int)] ++ t⟩ : Grip).fingers = F ++ [((f + 1 : Nat) : Int)] ++ t from rfl, getD_app_mid, show (((f + 1 : Nat) : Int) - 1).toNat = f by omega] at this
    rw [show (⟨pos, F ++ [((f + 1 : Nat) : Int)] ++ t⟩ : Grip).pos = pos from rfl, hr] at this
    cases this
theorem fitT_agree {h : Hand} {c : Chord} {pos : Int} {F : List Int} {k f j : Nat} (hl : F.length < c.down.length) (hj : j < F.length) (ha : agrB (c.down.getD j (0, 0)) (c.down.getD F.length (0, 0)) (F.getD j 0) ((f + 1 : Nat) : Int) = false) : fitT h c pos k (F ++ [((f + 1 : Nat) : Int)]) = [] :=
  fitT_none fun t hg => by
    have := hg.agr F.length hl j hj
    rw [show (⟨pos, F ++ [((f + 1 : Nat) : Int)] ++ t⟩ : Grip).fingers = F ++ [((f + 1 : Nat) : Int)] ++ t from rfl, getD_app_mid, getD_app_far hj, ha] at this
    cases this
theorem PreF.leaf {h : Hand} {c : Chord} {pos : Int} {F : List Int} (hF : PreF h c pos F) (hp : 1 ≤ pos ∧ pos ≤ h.top) (hl : F.length = c.down.length) : fitB h c ⟨pos, F⟩ = spnB h c F := by
  cases hs : spnB h c F
  · cases hb : fitB h c ⟨pos, F⟩
    · rfl
    · rw [spn_true.2 (fit_true.1 hb).spn] at hs; cases hs
  · exact fit_true.2 ⟨hp, hl, fun i hi => (hF i (by omega)).1, fun i hi => (hF i (by omega)).2.1, fun i hi k hk => (hF i (by omega)).2.2 k hk, spn_true.1 hs⟩
/-- The first fingers are as the reference wants them. -/
def PreR (h : Hand) (c : Chord) (pos : Int) (F : List Int) : Prop := ∀ i, i < F.length → rrchB h pos (F.getD i 0) (c.down.getD i (0, 0)).2 = true ∧ ∀ k, k < i → AptP h c k i (F.getD k 0) (F.getD i 0)
theorem PreR.snoc {h : Hand} {c : Chord} {pos : Int} {F : List Int} {f : Int} (hF : PreR h c pos F) (hr : rrchB h pos f (c.down.getD F.length (0, 0)).2 = true)
    (ha : ∀ k, k < F.length → AptP h c k F.length (F.getD k 0) f) : PreR h c pos (F ++ [f]) := by
  intro i hi
  rw [List.length_append] at hi
  by_cases h1 : i < F.length
  · rw [getD_app_l h1]
    obtain ⟨h3, h4⟩ := hF i h1
    exact ⟨h3, fun k hk => by rw [getD_app_l (by omega)]; exact h4 k hk⟩
  · have : i = F.length := by have : [f].length = 1 := rfl
                              omega
    subst this
    rw [getD_app_last]
    exact ⟨hr, fun k hk => by rw [getD_app_l hk]; exact ha k hk⟩
theorem fitT_bad {h : Hand} (hk : HandOk h) {c : Chord} (hc : ChordOk c) {pos : Int} {F : List Int} {k : Nat} {f : Int} (hl : F.length < c.down.length)
    (hr : ¬ (rrchB h pos f (c.down.getD F.length (0, 0)).2 = true ∧ ∀ k, k < F.length → AptP h c k F.length (F.getD k 0) f)) : fitT h c pos k (F ++ [f]) = [] :=
  fitT_none fun t hg => by
    have hg := (rfit_iff hk hc).2 hg
    have h1 := hg.rch F.length hl
    rw [show (⟨pos, F ++ [f] ++ t⟩ : Grip).fingers = F ++ [f] ++ t from rfl, getD_app_mid] at h1
    refine hr ⟨h1, fun j hj => ?_⟩
    have := hg.apt F.length hl j hj
    rw [show (⟨pos, F ++ [f] ++ t⟩ : Grip).fingers = F ++ [f] ++ t from rfl, getD_app_mid, getD_app_far hj] at this
    exact this
theorem PreR.leaf {h : Hand} (hk : HandOk h) {c : Chord} (hc : ChordOk c) {pos : Int} {F : List Int} (hF : PreR h c pos F) (hp : 1 ≤ pos ∧ pos ≤ h.top) (hl : F.length = c.down.length) : fitB h c ⟨pos, F⟩ = true :=
  fit_true.2 ((rfit_iff hk hc).1 ⟨hp, hl, fun i hi => (hF i (by omega)).1, fun i hi k hk => (hF i (by omega)).2 k hk⟩)

/-! ### No more than one above the limit -/
theorem tk_more {α : Type} {A B : List α} (h : (A.take 201).length ≤ 200) : (A.take 201 ++ B).take 201 = (A ++ B).take 201 := by
  rw [List.length_take] at h
  rw [List.take_of_length_le (l := A) (by omega)]
theorem tk_full {α : Type} {A B : List α} (h : ¬ (A.take 201).length ≤ 200) : A.take 201 = (A ++ B).take 201 := by
  rw [List.length_take] at h
  rw [List.take_append_of_le_length (by omega)]
theorem tk_len {α : Type} (A : List α) : (A.take 201).length ≤ 201 := by rw [List.length_take]; omega
theorem fitS_le (h : Hand) (c : Chord) (pos : Int) (k : Nat) (F : List Int) {n m : Nat} (hnm : n ≤ m) : ∃ B, fitS h c pos k F m = fitS h c pos k F n ++ B := by
  induction m with
  | zero => have : n = 0 := by omega
            subst this; exact ⟨[], by simp⟩
  | succ m ih =>
    by_cases e : n = m + 1
    · subst e; exact ⟨[], by simp⟩
    · obtain ⟨B, hB⟩ := ih (by omega)
      exact ⟨B ++ fitT h c pos k (F ++ [((m + 1 : Nat) : Int)]), by rw [fitS_succ, hB, List.append_assoc]⟩
theorem fitT0_len (h : Hand) (c : Chord) (pos : Int) (F : List Int) : (fitT h c pos 0 F).length ≤ 1 := by rw [fitT]; split <;> simp
theorem fitP0_len {h : Hand} {c : Chord} (hl : c.down.length = 0) (n : Nat) : (fitP h c n).length ≤ n := by
  induction n with
  | zero => simp [fitP]
  | succ n ih => rw [fitP_succ, List.length_append, hl]; have := fitT0_len h c ((n + 1 : Nat) : Int) []; omega
end Go.Proofs.Ytojjdkoglhecbaa
