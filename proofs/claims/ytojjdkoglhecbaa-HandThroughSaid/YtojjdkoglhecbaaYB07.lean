/- The grips of a chord, in order: plain. The grips that the program lists: what the closure goes on, on values. The grips that the program lists, on values. What grips and Grips of the program answer, on values. The grips that the reference lists: extend, on values. What Grips of the reference answers, on values; the law HandGrips. Functions of the program, as code on values by numbers: printed by a program from the program that was given, and held against it here. The net of a search, in plain terms: all grips of all chords, their own costs, and the least costs from each of them to the end. Nothing is run here. The net of a search, run: a step in it, the ways from a grip to the next chord, and what settle does at each of them. The net of a search, run: settle fills the table of least costs, from the end on. The net of a search, run: settle, and weave, which makes the net. The net of a search, run: weave makes it. The net of a search, run: Prove, and the reference's table of grips and its Prove. -/
import Derived.Test.YtojjdkoglhecbaaG0
import Derived.Test.YtojjdkoglhecbaaWk
import Derived.Test.YtojjdkoglhecbaaYB03
import Derived.Test.YtojjdkoglhecbaaYB04
import Derived.Test.YtojjdkoglhecbaaXw
import Derived.Test.YtojjdkoglhecbaaYB06
set_option linter.unusedSimpArgs false
set_option linter.unusedVariables false
namespace Go.Proofs.Ytojjdkoglhecbaa
open Go.RowKit

/-- The grips at a position that begin with these fingers, k more to come, and fit; in order. -/
noncomputable def fitT (h : Hand) (c : Chord) (pos : Int) : Nat → List Int → List Grip
  | 0, F => if fitB h c ⟨pos, F⟩ = true then [⟨pos, F⟩] else []
  | k + 1, F => (List.range h.low.length).flatMap fun f => fitT h c pos k (F ++ [((f + 1 : Nat) : Int)])
/-- Those of the first positions. -/
noncomputable def fitP (h : Hand) (c : Chord) (n : Nat) : List Grip := (List.range n).flatMap fun p => fitT h c ((p + 1 : Nat) : Int) c.down.length []
/-- All grips that fit, in order. -/
noncomputable def grpA (h : Hand) (c : Chord) : List Grip := fitP h c h.top.toNat
/-- With these fingers first. -/
noncomputable def fitS (h : Hand) (c : Chord) (pos : Int) (k : Nat) (F : List Int) (n : Nat) : List Grip := (List.range n).flatMap fun f => fitT h c pos k (F ++ [((f + 1 : Nat) : Int)])
theorem fitS_succ (h : Hand) (c : Chord) (pos : Int) (k : Nat) (F : List Int) (n : Nat) : fitS h c pos k F (n + 1) = fitS h c pos k F n ++ fitT h c pos k (F ++ [((n + 1 : Nat) : Int)]) := by
  rw [fitS, fitS, List.range_succ, List.flatMap_append]; simp
theorem fitT_succ (h : Hand) (c : Chord) (pos : Int) (k : Nat) (F : List Int) : fitT h c pos (k + 1) F = fitS h c pos k F h.low.length := rfl
theorem fitP_succ (h : Hand) (c : Chord) (n : Nat) : fitP h c (n + 1) = fitP h c n ++ fitT h c ((n + 1 : Nat) : Int) c.down.length [] := by
  rw [fitP, fitP, List.range_succ, List.flatMap_append]; simp
theorem fitT_none {h : Hand} {c : Chord} {pos : Int} : ∀ {k : Nat} {F : List Int}, (∀ t, ¬ FitG h c ⟨pos, F ++ t⟩) → fitT h c pos k F = []
  | 0, F, hn => by
    have : ¬ fitB h c ⟨pos, F⟩ = true := fun hb => hn [] (by rw [List.append_nil]; exact fit_true.1 hb)
    rw [fitT, if_neg this]
  | k + 1, F, hn => by
    rw [fitT, List.flatMap_eq_nil_iff]
    exact fun f _ => fitT_none fun t => by rw [List.append_assoc]; exact hn _
/-- Every grip that is listed begins so, and fits. -/
theorem fitT_mem {h : Hand} {c : Chord} {pos : Int} {g : Grip} : ∀ {k : Nat} {F : List Int}, g ∈ fitT h c pos k F ↔ ∃ t, t.length = k ∧ (∀ f : Int, f ∈ t → 1 ≤ f ∧ f ≤ (h.low.length : Int)) ∧ g = ⟨pos, F ++ t⟩ ∧ FitG h c g
  | 0, F => by
    rw [fitT]
    constructor
    · intro hg
      split at hg
      · rename_i hb
        rw [List.mem_singleton] at hg
        subst hg
        exact ⟨[], rfl, (fun _ hf => by cases hf), by rw [List.append_nil], fit_true.1 hb⟩
      · cases hg
    · rintro ⟨t, ht, _, rfl, hf⟩
      have : t = [] := List.eq_nil_of_length_eq_zero ht
      subst this
      rw [List.append_nil] at hf ⊢
      rw [if_pos (fit_true.2 hf)]
      exact List.mem_singleton.2 rfl
  | k + 1, F => by
    rw [fitT, List.mem_flatMap]
    constructor
    · rintro ⟨f, hf, hg⟩
      obtain ⟨t, h1, h2, h3, h4⟩ := fitT_mem.1 hg
      have hf := List.mem_range.1 hf
      refine ⟨((f + 1 : Nat) : Int) :: t, by simp [h1], fun x hx => ?_, by rw [h3, List.append_assoc]; rfl, h4⟩
      rcases List.mem_cons.1 hx with rfl | hx
      · omega
      · exact h2 x hx
    · rintro ⟨t, h1, h2, h3, h4⟩
      cases t with
      | nil => simp at h1
      | cons x t =>
        have hx := h2 x (List.mem_cons_self ..)
        refine ⟨(x - 1).toNat, List.mem_range.2 (by omega), fitT_mem.2 ⟨t, by simpa using h1, fun y hy => h2 y (List.mem_cons_of_mem _ hy), ?_, h4⟩⟩
        rw [h3, List.append_assoc, show (((x - 1).toNat + 1 : Nat) : Int) = x by omega]
        rfl
/-- A grip is listed if it fits, and only then. -/
theorem grpA_mem {h : Hand} {c : Chord} {g : Grip} : g ∈ grpA h c ↔ FitG h c g := by
  rw [grpA, fitP, List.mem_flatMap]
  constructor
  · rintro ⟨p, _, hg⟩
    obtain ⟨_, _, _, _, h4⟩ := fitT_mem.1 hg
    exact h4
  · intro hf
    have hp := hf.pos
    refine ⟨(g.pos - 1).toNat, List.mem_range.2 (by omega), fitT_mem.2 ⟨g.fingers, hf.len, fun f hfm => ?_, ?_, hf⟩⟩
    · obtain ⟨i, hi, rfl⟩ := List.getElem_of_mem hfm
      have := hf.fin i (by rw [← hf.len]; exact hi)
      rw [List.getD_eq_getElem?_getD, List.getElem?_eq_getElem hi] at this
      exact this
    · rw [show (((g.pos - 1).toNat + 1 : Nat) : Int) = g.pos by omega]; rfl

/-- The first fingers are as the program wants them. -/
def PreF (h : Hand) (c : Chord) (pos : Int) (F : List Int) : Prop := ∀ i, i < F.length → (1 ≤ F.getD i 0 ∧ F.getD i 0 ≤ h.low.length) ∧ rchB h pos (F.getD i 0 - 1).toNat (c.down.getD i (0, 0)).2 = true ∧
  ∀ k, k < i → agrB (c.down.getD k (0, 0)) (c.down.getD i (0, 0)) (F.getD k 0) (F.getD i 0) = true
theorem getD_app_l {F t : List Int} {i : Nat} (hi : i < F.length) : (F ++ t).getD i 0 = F.getD i 0 := by
  rw [List.getD_eq_getElem?_getD, List.getElem?_append_left hi, List.getD_eq_getElem?_getD]
theorem getD_app_last (F : List Int) (x : Int) : (F ++ [x]).getD F.length 0 = x := by
  rw [List.getD_eq_getElem?_getD, List.getElem?_append_right (Nat.le_refl _), Nat.sub_self]; rfl
theorem getD_app_mid (F : List Int) (x : Int) (t : List Int) : (F ++ [x] ++ t).getD F.length 0 = x := by rw [getD_app_l (by simp), getD_app_last]
theorem getD_app_far {F : List Int} {x : Int} {t : List Int} {j : Nat} (hj : j < F.length) : (F ++ [x] ++ t).getD j 0 = F.getD j 0 := by rw [List.append_assoc, getD_app_l hj]
theorem PreF.snoc {h : Hand} {c : Chord} {pos : Int} {F : List Int} {f : Nat} (hF : PreF h c pos F) (hf : f < h.low.length) (hr : rchB h pos f (c.down.getD F.length (0, 0)).2 = true)
    (ha : ∀ k, k < F.length → agrB (c.down.getD k (0, 0)) (c.down.getD F.length (0, 0)) (F.getD k 0) ((f + 1 : Nat) : Int) = true) : PreF h c pos (F ++ [((f + 1 : Nat) : Int)]) := by
  intro i hi
  rw [List.length_append] at hi
  by_cases h1 : i < F.length
  · rw [getD_app_l h1]
    obtain ⟨h2, h3, h4⟩ := hF i h1
    exact ⟨h2, h3, fun k hk => by rw [getD_app_l (by omega)]; exact h4 k hk⟩
  · have : i = F.length := by have : [((f + 1 : Nat) : Int)].length = 1 := rfl
                              omega
    subst this
    rw [getD_app_last]
    exact ⟨by omega, by rw [show (((f + 1 : Nat) : Int) - 1).toNat = f by omega]; exact hr, fun k hk => by rw [getD_app_l hk]; exact ha k hk⟩
theorem fitT_reach {h : Hand} {c : Chord} {pos : Int} {F : List Int} {k f : Nat} (hl : F.length < c.down.length) (hr : rchB h pos f (c.down.getD F.length (0, 0)).2 = false) : fitT h c pos k (F ++ [((f + 1 : Nat) : Int)]) = [] :=
  fitT_none fun t hg => by
    have := hg.rch F.length hl
    rw [show (⟨pos, F ++ [((f + 1 : Nat) : Int)] ++ t⟩ : Grip).fingers = F ++ [((f + 1 : Nat) : Int)] ++ t from rfl, getD_app_mid, show (((f + 1 : Nat) : Int) - 1).toNat = f by omega] at this
    rw [show (⟨pos, F ++ [((f + 1 : Nat) : Int)] ++ t⟩ : Grip).pos = pos from rfl, hr] at this
    cases this
theorem fitT_agree {h : Hand} {c : Chord} {pos : Int} {F : List Int} {k f j : Nat} (hl : F.length < c.down.length) (hj : j < F.length) (ha : agrB (c.down.getD j (0, 0)) (c.down.getD F.length (0, 0)) (F.getD j 0) ((f + 1 : Nat) : Int) = false) : fitT h c pos k (F ++ [((f + 1 : Nat) : Int)]) = [] :=
  fitT_none fun t hg => by
    have := hg.agr F.length hl j hj
    rw [show (⟨pos, F ++ [((f + 1 : Nat) : Int)] ++ t⟩ : Grip).fingers = F ++ [((f + 1 : Nat) : Int)] ++ t from rfl, getD_app_mid, getD_app_far hj, ha] at this
    cases this
theorem PreF.leaf {h : Hand} {c : Chord} {pos : Int} {F : List Int} (hF : PreF h c pos F) (hp : 1 ≤ pos ∧ pos ≤ h.top) (hl : F.length = c.down.length) : fitB h c ⟨pos, F⟩ = spnB h c F := by
  cases hs : spnB h c F
  · cases hb : fitB h c ⟨pos, F⟩
    · rfl
    · rw [spn_true.2 (fit_true.1 hb).spn] at hs; cases hs
  · exact fit_true.2 ⟨hp, hl, fun i hi => (hF i (by omega)).1, fun i hi => (hF i (by omega)).2.1, fun i hi k hk => (hF i (by omega)).2.2 k hk, spn_true.1 hs⟩
/-- The first fingers are as the reference wants them. -/
def PreR (h : Hand) (c : Chord) (pos : Int) (F : List Int) : Prop := ∀ i, i < F.length → rrchB h pos (F.getD i 0) (c.down.getD i (0, 0)).2 = true ∧ ∀ k, k < i → AptP h c k i (F.getD k 0) (F.getD i 0)
theorem PreR.snoc {h : Hand} {c : Chord} {pos : Int} {F : List Int} {f : Int} (hF : PreR h c pos F) (hr : rrchB h pos f (c.down.getD F.length (0, 0)).2 = true)
    (ha : ∀ k, k < F.length → AptP h c k F.length (F.getD k 0) f) : PreR h c pos (F ++ [f]) := by
  intro i hi
  rw [List.length_append] at hi
  by_cases h1 : i < F.length
  · rw [getD_app_l h1]
    obtain ⟨h3, h4⟩ := hF i h1
    exact ⟨h3, fun k hk => by rw [getD_app_l (by omega)]; exact h4 k hk⟩
  · have : i = F.length := by have : [f].length = 1 := rfl
                              omega
    subst this
    rw [getD_app_last]
    exact ⟨hr, fun k hk => by rw [getD_app_l hk]; exact ha k hk⟩
theorem fitT_bad {h : Hand} (hk : HandOk h) {c : Chord} (hc : ChordOk c) {pos : Int} {F : List Int} {k : Nat} {f : Int} (hl : F.length < c.down.length)
    (hr : ¬ (rrchB h pos f (c.down.getD F.length (0, 0)).2 = true ∧ ∀ k, k < F.length → AptP h c k F.length (F.getD k 0) f)) : fitT h c pos k (F ++ [f]) = [] :=
  fitT_none fun t hg => by
    have hg := (rfit_iff hk hc).2 hg
    have h1 := hg.rch F.length hl
    rw [show (⟨pos, F ++ [f] ++ t⟩ : Grip).fingers = F ++ [f] ++ t from rfl, getD_app_mid] at h1
    refine hr ⟨h1, fun j hj => ?_⟩
    have := hg.apt F.length hl j hj
    rw [show (⟨pos, F ++ [f] ++ t⟩ : Grip).fingers = F ++ [f] ++ t from rfl, getD_app_mid, getD_app_far hj] at this
    exact this
theorem PreR.leaf {h : Hand} (hk : HandOk h) {c : Chord} (hc : ChordOk c) {pos : Int} {F : List Int} (hF : PreR h c pos F) (hp : 1 ≤ pos ∧ pos ≤ h.top) (hl : F.length = c.down.length) : fitB h c ⟨pos, F⟩ = true :=
  fit_true.2 ((rfit_iff hk hc).1 ⟨hp, hl, fun i hi => (hF i (by omega)).1, fun i hi k hk => (hF i (by omega)).2 k hk⟩)

/-! ### No more than one above the limit -/
theorem tk_more {α : Type} {A B : List α} (h : (A.take 201).length ≤ 200) : (A.take 201 ++ B).take 201 = (A ++ B).take 201 := by
  rw [List.length_take] at h
  rw [List.take_of_length_le (l := A) (by omega)]
theorem tk_full {α : Type} {A B : List α} (h : ¬ (A.take 201).length ≤ 200) : A.take 201 = (A ++ B).take 201 := by
  rw [List.length_take] at h
  rw [List.take_append_of_le_length (by omega)]
theorem tk_len {α : Type} (A : List α) : (A.take 201).length ≤ 201 := by rw [List.length_take]; omega
theorem fitS_le (h : Hand) (c : Chord) (pos : Int) (k : Nat) (F : List Int) {n m : Nat} (hnm : n ≤ m) : ∃ B, fitS h c pos k F m = fitS h c pos k F n ++ B := by
  induction m with
  | zero => have : n = 0 := by omega
            subst this; exact ⟨[], by simp⟩
  | succ m ih =>
    by_cases e : n = m + 1
    · subst e; exact ⟨[], by simp⟩
    · obtain ⟨B, hB⟩ := ih (by omega)
      exact ⟨B ++ fitT h c pos k (F ++ [((m + 1 : Nat) : Int)]), by rw [fitS_succ, hB, List.append_assoc]⟩
theorem fitT0_len (h : Hand) (c : Chord) (pos : Int) (F : List Int) : (fitT h c pos 0 F).length ≤ 1 := by rw [fitT]; split <;> simp
theorem fitP0_len {h : Hand} {c : Chord} (hl : c.down.length = 0) (n : Nat) : (fitP h c n).length ≤ n := by
  induction n with
  | zero => simp [fitP]
  | succ n ih => rw [fitP_succ, List.length_append, hl]; have := fitT0_len h c ((n + 1 : Nat) : Int) []; omega
end Go.Proofs.Ytojjdkoglhecbaa
namespace Go.Proofs.Ytojjdkoglhecbaa
open Go.RowKit
set_option linter.unusedSimpArgs false
set_option linter.unusedVariables false

/-- The numbers that are tried, with what stands behind them. -/
def FgR (m : Mm) (v : V) (F : List Int) (r : List V) : Prop :=
  (v = .sl 0 [] .exact ∧ F = [] ∧ r = []) ∨ ∃ q, v = .gsl q F.length 1 ∧ 5 ≤ q ∧ q < m.next ∧ m.obj q = some (.box (F.map vint ++ r) 3)
/-- Memory while grips are listed. -/
structure PlSt (h : Hand) (c : Chord) (m : Mm) (L : List Grip) (v : V) : Prop where
  o0 : m.obj 0 = some (.box [tIs h.low, tIs h.high, tBs h.barre, vint h.top, vint h.jump, vint h.shift, vint h.lift, vint h.bar, vint h.stretch, vint h.slide] 25)
  o1 : m.obj 1 = some (.box [tPs c.down, tIs c.held, tIs c.opn] 47)
  o2 : ∃ tok, m.obj 2 = some (.box [.sl L.length (L.flatMap Grip.cells) tok] 38) ∧ Apb m tok L.length 53 2
  o3 : m.obj 3 = some (.box [v] 22)
  o4 : m.obj 4 = some (.box [.fn 104 [.ptr 3 0, .ptr 1 0, .ptr 0 0, .ptr 2 0, .ptr 4 0]] 144)
  nx : 5 ≤ m.next
theorem fg_len {m : Mm} {v : V} {F : List Int} {r : List V} (h : FgR m v F r) : pureSem .len [v] = some (vint F.length) := by
  rcases h with ⟨rfl, rfl, _⟩ | ⟨q, rfl, _⟩ <;> rfl
/-- Some memory is like that. -/
theorem PlSt.other {h : Hand} {c : Chord} {m : Mm} {L : List Grip} {v : V} (hs : PlSt h c m L v) (L' : List Grip) {F : List Int} {r : List V} (hf : FgR m v F r) :
    ∃ m', PlSt h c m' L' v ∧ FgR m' v F r ∧ m.next ≤ m'.next := by
  refine ⟨m.put 2 (.box [.sl L'.length (L'.flatMap Grip.cells) .exact] 38), ⟨hs.o0, hs.o1, ⟨.exact, rfl, .inl rfl⟩, hs.o3, hs.o4, hs.nx⟩, ?_, Nat.le_refl _⟩
  rcases hf with h1 | ⟨q, h1, h2, h3, h4⟩
  · exact .inl h1
  · exact .inr ⟨q, h1, h2, h3, by rw [put_obj, if_neg (by omega)]; exact h4⟩
/-- A copy of numbers. -/
theorem clone_fn (l : List Int) (hl : l.length ≤ 1099511627776) : Fn Try.prog Gd 106 [tIs l] (tIs l) := by
  refine Fn.of_vx0 k_slices_Clone_int_int (by simp) (by rw [V.pures, pure_tIs]; rfl) ?_
  unfold c_slices_Clone_int_int tIs
  repeat' (with_reducible first | refine x_ops ?_ | refine wk ?_ | ((first | refine gd1 ?_ ?_ | refine gd2 ?_ ?_ | refine gd3 ?_ ?_) <;> (first | exact @False.elim _ | intro hc)))
  refine x_eqN (by exact vw) ?_
  intro b hb
  cases b
  · repeat' (with_reducible first | refine x_ops ?_ | refine wk ?_ | ((first | refine gd1 ?_ ?_ | refine gd2 ?_ ?_ | refine gd3 ?_ ?_) <;> (first | exact @False.elim _ | intro hc)))
    refine x_appE (xs := []) (n := 0) vw vw rfl (by simp) (by omega) (by unfold Go.maxLen; omega) ?_
    repeat' (with_reducible first | refine x_ops ?_ | refine wk ?_ | ((first | refine gd1 ?_ ?_ | refine gd2 ?_ ?_ | refine gd3 ?_ ?_) <;> (first | exact @False.elim _ | intro hc)))
    exact finV_ret vv (.sl _ _ _)
  · have hl0 : l = [] := by cases l with
      | nil => rfl
      | cons a l => exact absurd (hb (by simp)) (by simp)
    subst hl0
    repeat' (with_reducible first | refine x_ops ?_ | refine wk ?_ | ((first | refine gd1 ?_ ?_ | refine gd2 ?_ ?_ | refine gd3 ?_ ?_) <;> (first | exact @False.elim _ | intro hc)))
    exact finV_ret vv (.sl _ _ _)
theorem vint_one (l : List Int) : (l.map vint).all V.one = true := by rw [List.all_eq_true]; intro v hv; obtain ⟨n, _, rfl⟩ := List.mem_map.1 hv; rfl
theorem vint_dry (l : List Int) : V.drys (l.map vint) = true := by
  induction l with
  | nil => rfl
  | cons a l ih => rw [List.map_cons, V.drys, ih]; rfl
theorem vint_clean (l : List Int) : V.clean (l.map vint) = true := by
  rw [clean_iff]
  refine ⟨?_, fun v hv => by obtain ⟨n, _, rfl⟩ := List.mem_map.1 hv; rfl⟩
  rw [pures_iff]
  intro v hv
  obtain ⟨n, _, rfl⟩ := List.mem_map.1 hv
  rfl
theorem clone_m {l : List Int} (hl : l.length ≤ 1099511627776) (h0 : l ≠ []) {m : Mm} {q : Nat} (ho : m.obj q = some (.box (l.map vint) 3)) :
    SFn Try.prog Gd 106 [.gsl q l.length 1] m fun r m' => r = tIs l ∧ m' = m := by
  have hlen : 0 < l.length := List.length_pos_iff.2 h0
  have h1 : SFn Try.prog Gd 106 [tIs l] M0 fun r' m' => ∃ i, r' = .gsl i l.length 1 ∧ m'.obj i = some (.box (l.map vint) 3) := by
    refine SFn.of_vxS k_slices_Clone_int_int_b (by simp) ?_
    unfold c_slices_Clone_int_int_b tIs
    repeat' (with_reducible first | refine x_ops ?_ | refine wk ?_ | ((first | refine gd1 ?_ ?_ | refine gd2 ?_ ?_ | refine gd3 ?_ ?_) <;> (first | exact @False.elim _ | intro hc)))
    refine x_eqN (by exact vw) ?_
    intro b hb
    have : b = false := hb (fun e => h0 (by simpa using e))
    subst this
    repeat' (with_reducible first | refine x_ops ?_ | refine wk ?_ | ((first | refine gd1 ?_ ?_ | refine gd2 ?_ ?_ | refine gd3 ?_ ?_) <;> (first | exact @False.elim _ | intro hc)))
    refine x_appM0 (xs := []) (n := 0) (j := l.length) (ys := l.map vint) vw (by ((refine ve ?_; try exact True.intro)); rw [rdS, if_pos (by simp)]) (by simp) (by omega) (by unfold Go.maxLen; omega) ?_
    rw [if_neg (by omega)]
    repeat' (with_reducible first | refine x_ops ?_ | refine wk ?_ | ((first | refine gd1 ?_ ?_ | refine gd2 ?_ ?_ | refine gd3 ?_ ?_) <;> (first | exact @False.elim _ | intro hc)))
    exact finS_ret vv ⟨_, rfl, vv⟩
  refine SFn.mono (SFn.dropM (Q := fun r => r = tIs l) (SFn.mono (Fn.lendB h1 (by omega) (vint_dry l) (vint_one l) (fun i => i == q) (.cons (.gsl (by simp) ho (Vws.of_dry (vint_dry l)) (vint_one l)) .nil)) ?_)) fun r m' h => h
  rintro r m' ⟨h2, ⟨h3, _⟩ | ⟨_, _, i, hi, rfl, hoi⟩⟩
  · omega
  · refine ⟨tIs l, ?_, rfl, h2⟩
    rw [V.pubM, hoi]
    simp only [hi, vint_clean, and_self, if_true, List.drop_zero]
    rfl
theorem clone_m0 {m : Mm} {q : Nat} (ho : m.obj q = some (.box [] 3)) :
    SFn Try.prog Gd 106 [.gsl q 0 1] m fun r m' => r = tIs [] ∧ m' = m := by
  have h1 : SFn Try.prog Gd 106 [tIs []] M0 fun r' m' => r' = .sl 0 [] .exact := by
    refine SFn.of_vxS k_slices_Clone_int_int_b (by simp) ?_
    unfold c_slices_Clone_int_int_b tIs
    repeat' (with_reducible first | refine x_ops ?_ | refine wk ?_ | ((first | refine gd1 ?_ ?_ | refine gd2 ?_ ?_ | refine gd3 ?_ ?_) <;> (first | exact @False.elim _ | intro hc)))
    refine x_eqN (by exact vw) ?_
    intro b hb
    cases b
    · repeat' (with_reducible first | refine x_ops ?_ | refine wk ?_ | ((first | refine gd1 ?_ ?_ | refine gd2 ?_ ?_ | refine gd3 ?_ ?_) <;> (first | exact @False.elim _ | intro hc)))
      refine x_appM0 (xs := []) (n := 0) (j := 0) (ys := []) vw (by ((refine ve ?_; try exact True.intro)); rfl) (by simp) (by omega) (by unfold Go.maxLen; omega) ?_
      rw [if_pos rfl]
      repeat' (with_reducible first | refine x_ops ?_ | refine wk ?_ | ((first | refine gd1 ?_ ?_ | refine gd2 ?_ ?_ | refine gd3 ?_ ?_) <;> (first | exact @False.elim _ | intro hc)))
      exact finS_ret vv rfl
    · repeat' (with_reducible first | refine x_ops ?_ | refine wk ?_ | ((first | refine gd1 ?_ ?_ | refine gd2 ?_ ?_ | refine gd3 ?_ ?_) <;> (first | exact @False.elim _ | intro hc)))
      exact finS_ret vv rfl
  refine SFn.mono (SFn.dropM (Q := fun r => r = tIs []) (SFn.mono (Fn.lendB0 (e := 3) h1 (fun i => i == q) (.cons (.gsl (by simp) ho .nil rfl) .nil)) ?_)) ?_
  · rintro r m' ⟨h2, ⟨_, rfl⟩ | ⟨h3, _⟩⟩
    · exact ⟨_, rfl, rfl, h2⟩
    · exact absurd rfl h3
  · exact fun r m' h => h
section
variable {P : Program} {G : Ground}
/-- A call that only computes, in any order, whatever memory it may see. -/
theorem x_callM {base i : Nat} {d : Option Nat} {f : FuncId} {xs : List Opd} {l : List VI} {s : St} {K : St → Prop} {r : V} {md : Option (List Nat)} (vs : List V) (hv : xs.map s.ev = vs) (hf : ∀ m', (∀ j, j < base → m'.obj j = s.m.obj j) → SFn P G f vs m' fun r' m'' => r' = r ∧ m'' = m')
    (h : goR P G base (some ⟨putT s.t d r, s.m⟩) l (i + 1) K) : vrun P G base i (⟨d, none, .call f, xs, md⟩ :: l) s K := by
  subst hv
  rw [vrun]
  unfold vstep VI.on
  simp only [if_true, sem, callSem]
  have hk := goR_vrun l (i + 1) _ h
  cases md with
  | none => exact ⟨_, _, .inl rfl, hf s.m (fun _ _ => rfl), ⟨r, s.m, rfl, rfl⟩, by rintro r' m' ⟨rfl, rfl⟩; exact hk⟩
  | some anc => exact ⟨_, r, .inl rfl, fun m' ha _ => hf m' (fun j hj => ha j (.inl hj)), hk⟩
/-- One number more is tried. -/
theorem x_appF {base i : Nat} {d : Option Nat} {x y : Opd} {l : List VI} {s : St} {K : St → Prop} {v : V} {F : List Int} {r : List V} {a : Int} {k2 : Tok} (hx : s.ev x = v) (hF : FgR s.m v F r) (hy : s.ev y = .sl 1 [vint a] k2) (hl : F.length ≤ 1000) (h5 : 5 ≤ base + i) (hb : base + i < s.m.next)
    (h : ∀ m', FgR m' (.gsl (base + i) (F.length + 1) 1) (F ++ [a]) [] → m'.next = s.m.next → (∀ j, j < 5 → m'.obj j = s.m.obj j) → (∀ j n e z, j ≠ base + i → s.m.obj j = some (.row n e z) → m'.obj j = some (.row n e z)) →
      goR P G base (some ⟨putT s.t d (.gsl (base + i) (F.length + 1) 1), m'⟩) l (i + 1) K) :
    vrun P G base i (⟨d, none, .appM 3 1 8, [x, y], none⟩ :: l) s K := by
  have e1 : (F.map vint ++ [vint a]) = (F ++ [a]).map vint := by simp
  rcases hF with ⟨rfl, rfl, rfl⟩ | ⟨q, rfl, hq5, hqn, ho⟩
  · refine x_appM0 hx (by rw [hy]; rfl) rfl (by omega) (by unfold Go.maxLen; omega) ?_
    rw [if_neg (by omega)]
    refine h _ (.inr ⟨base + i, by simp, h5, hb, by rw [put_obj, if_pos rfl]; rfl⟩) rfl (fun j hj => by rw [put_obj, if_neg (by omega)]) (fun j n e z hj hr => by rw [put_obj, if_neg hj]; exact hr)
  · have hm : 1 = 1 := rfl
    refine x_appM (q := q) (n := F.length) (j := 1) (ys := [vint a]) hx (by rw [hy]; rfl) ho (by simp) ?_ (by omega) (by unfold Go.maxLen; omega) ?_
    · rw [Nat.mul_one, List.take_append_of_le_length (by simp), List.take_of_length_le (by simp)]; exact vint_one F
    · rw [Nat.mul_one, List.take_append_of_le_length (by simp), List.take_of_length_le (by simp), e1]
      refine h _ (.inr ⟨base + i, by simp, h5, hb, by rw [put_obj, if_pos rfl, List.append_nil]⟩) rfl (fun j hj => ?_) (fun j n e z hj hr => ?_)
      · rw [put_obj, if_neg (by omega)]
        show (if j = q then none else s.m.obj j) = _
        rw [if_neg (by omega)]
      · rw [put_obj, if_neg hj]
        show (if j = q then none else s.m.obj j) = _
        rw [if_neg (fun e => by subst e; rw [ho] at hr; cases hr)]
        exact hr
end
end Go.Proofs.Ytojjdkoglhecbaa
namespace Go.Proofs.Ytojjdkoglhecbaa
open Go.RowKit
set_option linter.unusedSimpArgs false
set_option linter.unusedVariables false

theorem vw_hand {m : Mm} {S : Nat → Bool} {h : Hand} : Vw m S (.agg [.sl h.low.length (h.low.map vint) .no, .sl h.high.length (h.high.map vint) .no, .sl h.barre.length (h.barre.map vbool) .no, vint h.top, vint h.jump, vint h.shift, vint h.lift, vint h.bar, vint h.stretch, vint h.slide]) h.val :=
  .agg (.cons (.sl _ _ _) (.cons (.sl _ _ _) (.cons (.sl _ _ _) (.cons (.lit _) (.cons (.lit _) (.cons (.lit _) (.cons (.lit _) (.cons (.lit _) (.cons (.lit _) (.cons (.lit _) .nil))))))))))
theorem vw_chord {m : Mm} {S : Nat → Bool} {c : Chord} : Vw m S (.agg [.sl c.down.length (c.down.flatMap plE) .no, .sl c.held.length (c.held.map vint) .no, .sl c.opn.length (c.opn.map vint) .no]) c.val :=
  .agg (.cons (.sl _ _ _) (.cons (.sl _ _ _) (.cons (.sl _ _ _) .nil)))
/-- How the closure leaves memory. -/
def PlPost (h : Hand) (c : Chord) (n0 : Nat) (F : List Int) (L : List Grip) (r : V) (m : Mm) : Prop := r = .tup [] ∧ n0 ≤ m.next ∧ ∃ v j, PlSt h c m L v ∧ FgR m v F j ∧ (F.length = c.down.length → j = [])
theorem Apb.put {m : Mm} {k : Tok} {n : Nat} {e : TypeId} {size i : Nat} {cs : List V} {t : TypeId} {o : AObj} (h : Apb m k n e size) (hi : m.obj i = some (.box cs t)) : Apb (m.put i o) k n e size := by
  rcases h with h1 | ⟨t, h1, h2, h3⟩
  · exact .inl h1
  · exact .inr ⟨t, h1, h2, by rw [put_obj, if_neg (fun e => by subst e; rw [hi] at h3; cases h3)]; exact h3⟩
theorem PlSt.put3 {h : Hand} {c : Chord} {m : Mm} {L : List Grip} {v : V} (hs : PlSt h c m L v) (w : V) : PlSt h c (m.put 3 (.box [w] 22)) L w := by
  obtain ⟨tok, h1, h2⟩ := hs.o2
  exact ⟨hs.o0, hs.o1, ⟨tok, h1, h2.put hs.o3⟩, rfl, hs.o4, hs.nx⟩
theorem PlSt.frame {h : Hand} {c : Chord} {m m' : Mm} {L : List Grip} {v : V} (hs : PlSt h c m L v) (hn : m.next ≤ m'.next) (h5 : ∀ j, j < 5 → m'.obj j = m.obj j) (hr : ∀ j n e z, j < m.next → m.obj j = some (.row n e z) → m'.obj j = some (.row n e z)) : PlSt h c m' L v := by
  obtain ⟨tok, h1, h2⟩ := hs.o2
  refine ⟨(h5 0 (by omega)).trans hs.o0, (h5 1 (by omega)).trans hs.o1, ⟨tok, (h5 2 (by omega)).trans h1, ?_⟩, (h5 3 (by omega)).trans hs.o3, (h5 4 (by omega)).trans hs.o4, Nat.le_trans hs.nx hn⟩
  rcases h2 with h3 | ⟨t, h3, h4, h5⟩
  · exact .inl h3
  · exact .inr ⟨t, h3, Nat.lt_of_lt_of_le h4 hn, hr t _ _ _ h4 h5⟩
theorem FgR.grow {m : Mm} {v : V} {F : List Int} {r : List V} (h : FgR m v F r) (k : Nat) : FgR ⟨m.obj, m.next + k⟩ v F r := by
  rcases h with h | ⟨q, h1, h2, h3, h4⟩
  · exact .inl h
  · exact .inr ⟨q, h1, h2, Nat.lt_of_lt_of_le h3 (Nat.le_add_right _ _), h4⟩
set_option maxHeartbeats 4000000 in
theorem place_sfn (h : Hand) (hk : HandOk h) (c : Chord) (hf : FitC c) (h14 : c.down.length ≤ 14) (pos : Int) (hp : 1 ≤ pos ∧ pos ≤ h.top) : ∀ (k : Nat) (F : List Int) (L : List Grip) (m : Mm) (v : V) (j : List V), F.length + k = c.down.length → PreF h c pos F →
    L.length ≤ 201 → (k = 0 → L.length ≤ 200 ∧ j = []) → PlSt h c m L v → FgR m v F j →
    SFn Try.prog Gd 104 [vint pos, .ptr 3 0, .ptr 1 0, .ptr 0 0, .ptr 2 0, .ptr 4 0] m (PlPost h c m.next F ((L ++ fitT h c pos k F).take 201))
  | 0, F, L, m, v, j, hl, hF, hL, h0, hs, hv => by
    obtain ⟨hL2, rfl⟩ := h0 rfl
    have htop := hk.top
    have hfit := hF.leaf hp (by omega)
    have SP := spans_fn h hk c hf F (by omega)
    refine SFn.of_vxS k_hand_grips_1_b (by simp) ?_
    have hlen := fg_len hv
    simp only [pureSem, vint] at hlen
    have o0 := hs.o0
    have o1 := hs.o1
    obtain ⟨tok, o2, hap⟩ := hs.o2
    have o3 := hs.o3
    have o4 := hs.o4
    have nxm := hs.nx
    have n0 : 0 < m.next := by omega
    have n1 : 1 < m.next := by omega
    have n2 : 2 < m.next := by omega
    have n3 : 3 < m.next := by omega
    have n4 : 4 < m.next := by omega
    have e1 : ((F.length : Int) == (c.down.length : Int)) = true := by simp; omega
    have hs0 := Hid.mk hs
    have hv0 := Hid.mk hv
    have hl0 := Hid.mk hl
    clear hs hv hl hp htop nxm
    unfold c_hand_grips_1_b
    unfold Hand.val Chord.val Chord.cells at SP
    rw [fitT, hfit]
    have hfl : F.length ≤ 14 := by have := hl0.out; omega
    replace hfl := Hid.mk hfl
    -- the row of numbers as a call sees it
    have SV : ∀ m' : Mm, (∀ q, q < m.next → m'.obj q = m.obj q) → Vw m' allS v (tIs F) := by
      intro m' hm'
      rcases hv0.out with ⟨rfl, rfl, _⟩ | ⟨q, rfl, hq5, hqn, ho⟩
      · exact .sl _ _ _
      · rw [List.append_nil] at ho
        exact .gsl rfl (by rw [hm' q hqn]; exact ho) (Vws.of_dry (vint_dry F)) (vint_one F)
    have CL : ∀ m' : Mm, (∀ q, q < m.next → m'.obj q = m.obj q) → SFn Try.prog Gd 106 [v] m' fun r' m'' => r' = tIs F ∧ m'' = m' := by
      intro m' hm'
      have hfl := hfl.out
      rcases hv0.out with ⟨rfl, rfl, _⟩ | ⟨q, rfl, hq5, hqn, ho⟩
      · have := clone_fn [] (by simp)
        exact fun E w ca hG hm hv => this m' E w ca hG hm hv.norm
      · rw [List.append_nil] at ho
        by_cases hF0 : F = []
        · subst hF0
          exact clone_m0 (by rw [hm' q hqn]; exact ho)
        · exact clone_m (by omega) hF0 (by rw [hm' q hqn]; exact ho)
    repeat' (with_reducible first | refine x_ops ?_ | refine wk ?_ | ((first | refine gd1 ?_ ?_ | refine gd2 ?_ ?_ | refine gd3 ?_ ?_) <;> (first | exact @False.elim _ | intro hc)))
    refine x_lend allS SP rfl ?_ ?_
    · (simp only [go_sem, Nat.reduceAdd, Nat.reduceEqDiff, Nat.reduceLT, Nat.reduceLeDiff, Nat.reduceMul, Nat.reduceSub, Nat.reducePow, Nat.reduceDiv, Nat.reduceMod, Nat.reduceBEq, Int.reduceBEq, Int.reduceLT, reduceIte, V.norms, V.norm, tIs, tBs, tPs, *])
      exact .cons vw_hand (.cons vw_chord (.cons (SV _ fun _ _ => rfl) .nil))
    cases hsp : spnB h c F
    · rw [if_neg (by simp), List.append_nil, List.take_of_length_le (by omega)]
      repeat' (with_reducible first | refine x_ops ?_ | refine wk ?_ | ((first | refine gd1 ?_ ?_ | refine gd2 ?_ ?_ | refine gd3 ?_ ?_) <;> (first | exact @False.elim _ | intro hc)))
      exact finS_ret vv ⟨rfl, Nat.le_refl _, v, [], hs0.out, hv0.out, fun _ => rfl⟩
    · rw [if_pos rfl, List.take_of_length_le (by simp; omega)]
      repeat' (with_reducible first | refine x_ops ?_ | refine wk ?_ | ((first | refine gd1 ?_ ?_ | refine gd2 ?_ ?_ | refine gd3 ?_ ?_) <;> (first | exact @False.elim _ | intro hc)))
      refine x_callM [v] vw (fun m' hm' => CL m' fun q hq => hm' q hq) ?_
      repeat' (with_reducible first | refine x_ops ?_ | refine wk ?_ | ((first | refine gd1 ?_ ?_ | refine gd2 ?_ ?_ | refine gd3 ?_ ?_) <;> (first | exact @False.elim _ | intro hc)))
      refine x_appb (xs := L.flatMap Grip.cells) (ys := Grip.cells ⟨pos, F⟩) vw vw (hap.mono (fun _ _ _ => rfl) (Nat.le_add_right _ _)) (gs_len L) rfl (by omega) (by unfold Go.maxLen; omega) (by show m.next + 6 < m.next + 8; omega) ?_
      intro tok' m' hap' hn' hbox hobj
      replace hn' : m'.next = m.next + 8 := hn'
      have q0 := hbox 0 _ _ o0 (by show ¬ 0 = m.next + 6; omega)
      have q1 := hbox 1 _ _ o1 (by show ¬ 1 = m.next + 6; omega)
      have q2 := hbox 2 _ _ o2 (by show ¬ 2 = m.next + 6; omega)
      have q3 := hbox 3 _ _ o3 (by show ¬ 3 = m.next + 6; omega)
      have q4 := hbox 4 _ _ o4 (by show ¬ 4 = m.next + 6; omega)
      have hv1 : FgR (m'.put 2 (.box [.sl (L.length + 1) (L.flatMap Grip.cells ++ Grip.cells ⟨pos, F⟩) tok'] 38)) v F [] := by
        rcases hv0.out with h1 | ⟨q, h1, h2, h3, h4⟩
        · exact .inl h1
        · exact .inr ⟨q, h1, h2, by rw [put_next]; omega, by rw [put_obj, if_neg (by omega)]; exact hbox q _ _ h4 (by show ¬ q = m.next + 6; omega)⟩
      replace hv1 := Hid.mk hv1
      clear hbox hobj hap o0 o1 o2 o3 o4
      repeat' (with_reducible first | refine x_ops ?_ | refine wk ?_ | ((first | refine gd1 ?_ ?_ | refine gd2 ?_ ?_ | refine gd3 ?_ ?_) <;> (first | exact @False.elim _ | intro hc)))
      refine finS_ret vv ⟨rfl, ?_, v, [], ⟨?_, ?_, ⟨tok', ?_, ?_⟩, ?_, ?_, ?_⟩, hv1.out, fun _ => rfl⟩
      · rw [put_next]; omega
      · ((refine ve ?_; try exact True.intro)); exact q0
      · ((refine ve ?_; try exact True.intro)); exact q1
      · ((refine ve ?_; try exact True.intro)); simp
      · rw [List.length_append]
        rcases hap' with h1 | ⟨t, h1, h2, h3⟩
        · exact .inl h1
        · exact .inr ⟨t, h1, h2, by rw [put_obj, if_neg (fun e => by subst e; rw [q2] at h3; cases h3)]; exact h3⟩
      · ((refine ve ?_; try exact True.intro)); exact q3
      · ((refine ve ?_; try exact True.intro)); exact q4
      · rw [put_next]; omega
  | k + 1, F, L, m, v, j, hl, hF, hL, h0, hs, hv => by
    have IH := place_sfn h hk c hf h14 pos hp k
    have htop := hk.top
    have hn4 := hk.n4
    have nxt0 := hs.nx
    clear h0
    refine SFn.of_vxS k_hand_grips_1_b (by simp) ?_
    have hlen := fg_len hv
    simp only [pureSem, vint] at hlen
    have o0 := hs.o0
    have o1 := hs.o1
    obtain ⟨tok, o2, hap⟩ := hs.o2
    have o3 := hs.o3
    have o4 := hs.o4
    have n3 : 3 < m.next := by omega
    have e1 : ((F.length : Int) == (c.down.length : Int)) = false := by simp; omega
    have hlt : F.length < c.down.length := by omega
    have cF : (F.length : Int) < (c.down.length : Int) := by omega
    have gF := pls_at1 hlt
    have gL := pls_len c.down
    have gT := pls_take hlt
    have gT2 : F.length * 2 + 2 ≤ c.down.length * 2 := by omega
    have RF := fun f hf => reach_fn h hk pos f (c.down.getD F.length (0, 0)).2 (by omega) hf
    have cb2 : Hid (∀ {A B : Prop}, A → B → A) := ⟨fun a _ => a⟩
    have hs0 := Hid.mk hs
    have hv0 := Hid.mk hv
    have hl0 := Hid.mk hl
    have hlt0 := Hid.mk hlt
    have hfl : Hid (F.length ≤ 14) := ⟨by omega⟩
    clear hs hl hlt nxt0 hap o2
    rw [fitT_succ]
    unfold c_hand_grips_1_b
    unfold Hand.val at RF
    repeat' (with_reducible first | refine x_ops ?_ | refine wk ?_ | ((first | refine gd1 ?_ ?_ | refine gd2 ?_ ?_ | refine gd3 ?_ ?_) <;> (first | exact @False.elim _ | intro hc)))
    clear hlen o3 o0 o1 o4 e1 n3
    refine x_loopW w_hand_grips_1_b_p14 (by kernel_rfl) h.low.length (fun f t m' => t 8 = vint ((f + 1 : Nat) : Int) ∧ m.next ≤ m'.next ∧ ∃ v j, PlSt h c m' ((L ++ fitS h c pos k F f).take 201) v ∧ FgR m' v F j) ?_ ?_
    · refine ⟨vv, Nat.le_refl _, v, j, ?_, hv0.out⟩
      rw [show fitS h c pos k F 0 = [] from rfl, List.append_nil, List.take_of_length_le hL]
      exact hs0.out
    clear hs0 hv0 hv
    rintro f t m1 hfk ⟨h8, hnx1, v1, j1, hs, hv⟩
    have o0 := hs.o0
    have o1 := hs.o1
    obtain ⟨tok, o2, hap⟩ := hs.o2
    have o3 := hs.o3
    have o4 := hs.o4
    have nxm := hs.nx
    have n0 : 0 < m1.next := by omega
    have n1 : 1 < m1.next := by omega
    have n2 : 2 < m1.next := by omega
    have n3 : 3 < m1.next := by omega
    have hlen := fg_len hv
    simp only [pureSem, vint] at hlen
    have hs0 := Hid.mk hs
    have hv0 := Hid.mk hv
    have hLf := tk_len (L ++ fitS h c pos k F f)
    clear hs hv
    by_cases hfn : f < h.low.length
    case neg =>
      have hfe : f = h.low.length := by omega
      subst hfe
      have c1 : ¬ ((h.low.length + 1 : Nat) : Int) ≤ (h.low.length : Int) := by omega
      clear hfk hfn
      repeat' (with_reducible first | refine x_ops ?_ | refine wk ?_ | ((first | refine gd1 ?_ ?_ | refine gd2 ?_ ?_ | refine gd3 ?_ ?_) <;> (first | exact @False.elim _ | intro hc)))
      exact ⟨.inl rfl, .tup [], vv, rfl, hnx1, v1, j1, hs0.out, hv0.out, fun e => absurd e (Nat.ne_of_lt hlt0.out)⟩
    have c1 : ((f + 1 : Nat) : Int) ≤ (h.low.length : Int) := by omega
    obtain ⟨Lf, hLe⟩ : ∃ Lf, Lf = (L ++ fitS h c pos k F f).take 201 := ⟨_, rfl⟩
    rw [← hLe] at hs0 hLf o2 hap
    by_cases hg : Lf.length ≤ 200
    case neg =>
      have c2 : ¬ (Lf.length : Int) ≤ 200 := by omega
      have hfull : Lf = (L ++ fitS h c pos k F h.low.length).take 201 := by
        obtain ⟨B, hB⟩ := fitS_le h c pos k F (Nat.le_of_lt hfn)
        rw [hLe] at hg ⊢
        rw [hB, ← List.append_assoc]
        exact tk_full hg
      rw [← hfull]
      replace hLe := Hid.mk hLe
      replace hfull := Hid.mk hfull
      clear hg
      repeat' (with_reducible first | refine x_ops ?_ | refine wk ?_ | ((first | refine gd1 ?_ ?_ | refine gd2 ?_ ?_ | refine gd3 ?_ ?_) <;> (first | exact @False.elim _ | intro hc)))
      exact ⟨.inl rfl, .tup [], vv, rfl, hnx1, v1, j1, hs0.out, hv0.out, fun e => absurd e (Nat.ne_of_lt hlt0.out)⟩
    have c2 : (Lf.length : Int) ≤ 200 := by omega
    have R2 := RF f hfn
    have w2 := w_add1 (k := f + 1) (by omega)
    have hLs : (L ++ fitS h c pos k F (f + 1)).take 201 = (Lf ++ fitT h c pos k (F ++ [((f + 1 : Nat) : Int)])).take 201 := by
      rw [fitS_succ, ← List.append_assoc, hLe]
      rw [hLe] at hg
      exact (tk_more hg).symm
    have skip : fitT h c pos k (F ++ [((f + 1 : Nat) : Int)]) = [] → (L ++ fitS h c pos k F (f + 1)).take 201 = Lf := fun e => by rw [hLs, e, List.append_nil, List.take_of_length_le hLf]
    replace hLs := Hid.mk hLs
    replace skip := Hid.mk skip
    replace hLe := Hid.mk hLe
    replace hg := Hid.mk hg
    replace hLf := Hid.mk hLf
    replace hfn := Hid.mk hfn
    clear RF hfk
    cases hr : rchB h pos f (c.down.getD F.length (0, 0)).2
    · rw [hr] at R2
      have e9 := Hid.mk (skip.out (fitT_reach hlt0.out hr))
      clear hr
      repeat' (with_reducible first | refine x_ops ?_ | refine wk ?_ | (with_reducible refine xc (R2) ?_) | ((first | refine gd1 ?_ ?_ | refine gd2 ?_ ?_ | refine gd3 ?_ ?_) <;> (first | exact @False.elim _ | intro hc)))
      exact nx hfn.out ⟨vv, hnx1, v1, j1, by rw [e9.out]; exact hs0.out, hv0.out⟩
    rw [hr] at R2
    replace hr := Hid.mk hr
    repeat' (with_reducible first | refine x_ops ?_ | refine wk ?_ | (with_reducible refine xc (R2) ?_) | ((first | refine gd1 ?_ ?_ | refine gd2 ?_ ?_ | refine gd3 ?_ ?_) <;> (first | exact @False.elim _ | intro hc)))
    refine x_loopF w_hand_grips_1_b_p6 (by kernel_rfl) F.length (fun q t => t 54 = vint (q : Int) ∧ ∀ i, i < q → agrB (c.down.getD i (0, 0)) (c.down.getD F.length (0, 0)) (F.getD i 0) ((f + 1 : Nat) : Int) = true) ?_ ?_
    · exact ⟨vv, fun i h => by omega⟩
    rintro q t2 hq ⟨h54, hJ⟩
    replace hJ := Hid.mk hJ
    by_cases hqF : q < F.length
    · obtain ⟨qq, rfl, hq5, hqn, hoq⟩ : ∃ qq, v1 = .gsl qq F.length 1 ∧ 5 ≤ qq ∧ qq < m1.next ∧ m1.obj qq = some (.box (F.map vint ++ j1) 3) := by
        rcases hv0.out with ⟨_, h1, _⟩ | h1
        · subst h1; simp at hqF
        · exact h1
      have g1 : (F.map vint ++ j1)[q]? = some (V.lit (.int .i64 (F.getD q 0))) := by rw [List.getElem?_append_left (by simpa using hqF)]; exact ints_at hqF
      have g2 := pls_take (l := c.down) (k := q) (by omega)
      have g3 : q * 2 + 2 ≤ c.down.length * 2 := by omega
      have c3 : (q : Int) < (F.length : Int) := by omega
      have c4 : (q : Int) < (c.down.length : Int) := by omega
      have w3 := w_add1 (k := q) (by omega)
      have AG := agree_fn (c.down.getD q (0, 0)) (c.down.getD F.length (0, 0)) (F.getD q 0) ((f + 1 : Nat) : Int)
      unfold plE at AG
      clear hq5
      cases ha : agrB (c.down.getD q (0, 0)) (c.down.getD F.length (0, 0)) (F.getD q 0) ((f + 1 : Nat) : Int)
      · rw [ha] at AG
        have e9 := Hid.mk (skip.out (fitT_agree (k := k) hlt0.out hqF ha))
        clear ha
        repeat' (with_reducible first | refine x_ops ?_ | refine wk ?_ | (with_reducible refine xc (AG) ?_) | ((first | refine gd1 ?_ ?_ | refine gd2 ?_ ?_ | refine gd3 ?_ ?_) <;> (first | exact @False.elim _ | intro hc)))
        exact nx hfn.out ⟨vv, hnx1, _, j1, by rw [e9.out]; exact hs0.out, hv0.out⟩
      · rw [ha] at AG
        replace ha := Hid.mk ha
        repeat' (with_reducible first | refine x_ops ?_ | refine wk ?_ | (with_reducible refine xc (AG) ?_) | ((first | refine gd1 ?_ ?_ | refine gd2 ?_ ?_ | refine gd3 ?_ ?_) <;> (first | exact @False.elim _ | intro hc)))
        refine nf hqF ⟨vv, fun i h => ?_⟩ rfl
        by_cases hi : i = q
        · subst hi; exact ha.out
        · exact hJ.out i (by omega)
    · have hqe : q = F.length := by omega
      subst hqe
      have c3 : ¬ (F.length : Int) < (F.length : Int) := by omega
      have hP := Hid.mk (hF.snoc hfn.out hr.out hJ.out)
      clear hqF hq hJ
      repeat' (with_reducible first | refine x_ops ?_ | refine wk ?_ | ((first | refine gd1 ?_ ?_ | refine gd2 ?_ ?_ | refine gd3 ?_ ?_) <;> (first | exact @False.elim _ | intro hc)))
      refine x_appF (v := v1) (F := F) (r := j1) (a := ((f + 1 : Nat) : Int)) vw (hv0.out.grow 5) vw (by have := hfl.out; omega) (by show 5 ≤ m1.next + 3; omega) (by show m1.next + 3 < m1.next + 5; omega) ?_
      intro m2 hF2 hn2 ho2 hr2
      replace hn2 : m2.next = m1.next + 5 := hn2
      have hs2 : PlSt h c m2 Lf v1 := hs0.out.frame (by omega) ho2 (fun j n e z hj hjr => hr2 j n e z (by show j ≠ m1.next + 3; omega) hjr)
      have q3 := hs2.o3
      have q4 := hs2.o4
      have q34 : 4 < m2.next := by omega
      replace hn2 := Hid.mk hn2
      have hs3 := Hid.mk (hs2.put3 (.gsl (m1.next + 3) (F.length + 1) 1))
      have hF3 : FgR (m2.put 3 (.box [.gsl (m1.next + 3) (F.length + 1) 1] 22)) (.gsl (m1.next + 3) (F.length + 1) 1) (F ++ [((f + 1 : Nat) : Int)]) [] := by
        rcases hF2 with ⟨h1, _⟩ | ⟨q, h1, h2, h3, h4⟩
        · cases h1
        · exact .inr ⟨q, h1, h2, h3, by rw [put_obj, if_neg (by omega)]; exact h4⟩
      replace hF3 := Hid.mk hF3
      clear hs2 ho2 hr2 hF2 hlen o0 o1 o2 o3 o4 hap n0 n1 n2 n3
      repeat' (with_reducible first | refine x_ops ?_ | refine wk ?_ | ((first | refine gd1 ?_ ?_ | refine gd2 ?_ ?_ | refine gd3 ?_ ?_) <;> (first | exact @False.elim _ | intro hc)))
      have hkl : F.length + 1 + k = c.down.length := by have := hl0.out; omega
      refine x_callv (f := 104) (cs := [.ptr 3 0, .ptr 1 0, .ptr 0 0, .ptr 2 0, .ptr 4 0]) (Post := PlPost h c m2.next (F ++ [((f + 1 : Nat) : Int)]) ((Lf ++ fitT h c pos k (F ++ [((f + 1 : Nat) : Int)])).take 201)) vw kr ?_ ?_ ?_
      · (simp only [go_sem, Nat.reduceAdd, Nat.reduceEqDiff, Nat.reduceLT, Nat.reduceLeDiff, Nat.reduceMul, Nat.reduceSub, Nat.reducePow, Nat.reduceDiv, Nat.reduceMod, Nat.reduceBEq, Int.reduceBEq, Int.reduceLT, reduceIte, V.norms, V.norm, tIs, tBs, tPs, *])
        exact IH (F ++ [((f + 1 : Nat) : Int)]) Lf (m2.put 3 (.box [.gsl (m1.next + 3) (F.length + 1) 1] 22)) (.gsl (m1.next + 3) (F.length + 1) 1) [] (by simp; omega) hP.out hLf.out (fun _ => ⟨hg.out, rfl⟩) hs3.out hF3.out
      · obtain ⟨m', h1, h2, h3⟩ := hs3.out.other ((Lf ++ fitT h c pos k (F ++ [((f + 1 : Nat) : Int)])).take 201) hF3.out
        exact ⟨_, m', rfl, h3, _, _, h1, h2, fun _ => rfl⟩
      rintro r m4 ⟨rfl, hnx4, v4, j4, hs4, hv4, _⟩
      obtain ⟨qq, rfl, hq5, hqn, hoq⟩ : ∃ qq, v4 = .gsl qq (F.length + 1) 1 ∧ 5 ≤ qq ∧ qq < m4.next ∧ m4.obj qq = some (.box (F.map vint ++ (vint ((f + 1 : Nat) : Int) :: j4)) 3) := by
        rcases hv4 with ⟨_, h1, _⟩ | ⟨q, h1, h2, h3, h4⟩
        · simp at h1
        · exact ⟨q, by rw [h1]; simp, h2, h3, by rw [h4]; simp⟩
      have p3 := hs4.o3
      have n3 : 3 < m4.next := by omega
      have hsl : vslc 1 false true (.gsl qq (F.length + 1) 1) [.lit (.int .i64 (F.length : Int))] = some (.gsl qq F.length 1) := by
        simp only [vslc, bnds, Bool.false_eq_true, if_false, if_true]
        rw [if_pos ⟨Int.le_refl _, Int.natCast_nonneg _, by omega⟩]
        rfl
      have hs5 := Hid.mk (hs4.put3 (.gsl qq F.length 1))
      have hF5 : FgR (m4.put 3 (.box [.gsl qq F.length 1] 22)) (.gsl qq F.length 1) F (vint ((f + 1 : Nat) : Int) :: j4) := .inr ⟨qq, rfl, hq5, hqn, by rw [put_obj, if_neg (by omega)]; exact hoq⟩
      replace hF5 := Hid.mk hF5
      have hnx5 : m.next ≤ m4.next := by have := hn2.out; omega
      clear hs4 hv4 q3 q4 hq5 hoq
      repeat' (with_reducible first | refine x_ops ?_ | refine wk ?_ | ((first | refine gd1 ?_ ?_ | refine gd2 ?_ ?_ | refine gd3 ?_ ?_) <;> (first | exact @False.elim _ | intro hc)))
      exact nx hfn.out ⟨vv, hnx5, _, _, by rw [hLs.out]; exact hs5.out, hF5.out⟩
end Go.Proofs.Ytojjdkoglhecbaa
namespace Go.Proofs.Ytojjdkoglhecbaa
open Go.RowKit
set_option linter.unusedSimpArgs false
set_option linter.unusedVariables false

theorem chord_len {c : Chord} (hc : ChordOk c) : c.down.length ≤ 14 := by
  have key : ∀ i, i < c.down.length → (i : Int) + 1 ≤ (c.down.getD i (0, 0)).1 := by
    intro i
    induction i with
    | zero => intro h0; have := (hc.each 0 h0).1; omega
    | succ i ih => intro h1; have := ih (by omega); have := hc.rise i h1; omega
  rcases Nat.eq_zero_or_pos c.down.length with h0 | h0
  · omega
  · have h1 := key (c.down.length - 1) (by omega)
    have h2 := (hc.each (c.down.length - 1) (by omega)).1
    omega
set_option maxHeartbeats 2000000 in
theorem grips_fn (h : Hand) (hk : HandOk h) (c : Chord) (hf : FitC c) (hc : ChordOk c) : Fn Try.prog Gd 71 [h.val, c.val] (tGs ((grpA h c).take 201)) := by
  refine Fn.of_vx0 k_hand_grips (by simp) (by rw [V.pures, pure_hand, V.pures, pure_chord]; rfl) ?_
  have htop := hk.top
  have h14 := chord_len hc
  unfold c_hand_grips Hand.val Chord.val Chord.cells tGs
  repeat' (with_reducible first | refine x_ops ?_ | refine wk ?_ | ((first | refine gd1 ?_ ?_ | refine gd2 ?_ ?_ | refine gd3 ?_ ?_) <;> (first | exact @False.elim _ | intro hc)))
  refine x_loopW w_hand_grips_p3 (by kernel_rfl) h.top.toNat (fun p t m => t 7 = vint ((p + 1 : Nat) : Int) ∧ ∃ v j, PlSt h c m ((fitP h c p).take 201) v ∧ FgR m v [] j ∧ (0 = c.down.length → j = [])) ?_ ?_
  · exact ⟨vv, .sl 0 [] .exact, [], ⟨vv, vv, ⟨.exact, vv, .inl rfl⟩, vv, vv, by ((refine ve ?_; try exact True.intro)); first | done | omega⟩, .inl ⟨rfl, rfl, rfl⟩, fun _ => rfl⟩
  rintro p t m hp ⟨h7, v, j, hs, hv, hj⟩
  have o2 := hs.o2
  obtain ⟨tok, o2, hap⟩ := o2
  have o4 := hs.o4
  have o0 := hs.o0
  have nxm := hs.nx
  have n0 : 0 < m.next := by omega
  have n2 : 2 < m.next := by omega
  have n4 : 4 < m.next := by omega
  have hs0 := Hid.mk hs
  have hv0 := Hid.mk hv
  have hj0 := Hid.mk hj
  clear hs hv hj hap
  by_cases hpt : p < h.top.toNat
  case neg =>
    have hpe : p = h.top.toNat := by omega
    subst hpe
    have c1 : ¬ ((h.top.toNat + 1 : Nat) : Int) ≤ h.top := by omega
    unfold grpA
    generalize (fitP h c h.top.toNat).take 201 = L at *
    repeat' (with_reducible first | refine x_ops ?_ | refine wk ?_ | ((first | refine gd1 ?_ ?_ | refine gd2 ?_ ?_ | refine gd3 ?_ ?_) <;> (first | exact @False.elim _ | intro hc)))
    exact finV_ret vv (.sl _ _ _)
  have c1 : ((p + 1 : Nat) : Int) ≤ h.top := by omega
  have w1 := w_add1 (k := p + 1) (by omega)
  have hL : (fitP h c (p + 1)).take 201 = ((fitP h c p).take 201 ++ fitT h c ((p + 1 : Nat) : Int) c.down.length []).take 201 := by
    rw [fitP_succ]
    by_cases hg : ((fitP h c p).take 201).length ≤ 200
    · exact (tk_more hg).symm
    · rw [← tk_full hg, List.take_append_of_le_length (by omega), List.take_of_length_le (tk_len _)]
  replace hL := Hid.mk hL
  clear o2
  have PS := place_sfn h hk c hf h14 ((p + 1 : Nat) : Int) (by omega) c.down.length [] ((fitP h c p).take 201) m v j (by simp) (fun i hi => by simp at hi) (tk_len _)
    (fun e => ⟨by have := fitP0_len (h := h) e p; rw [List.length_take]; omega, hj0.out e.symm⟩) hs0.out hv0.out
  repeat' (with_reducible first | refine x_ops ?_ | refine wk ?_ | ((first | refine gd1 ?_ ?_ | refine gd2 ?_ ?_ | refine gd3 ?_ ?_) <;> (first | exact @False.elim _ | intro hc)))
  refine x_callv (f := 104) (cs := [.ptr 3 0, .ptr 1 0, .ptr 0 0, .ptr 2 0, .ptr 4 0]) (Post := PlPost h c m.next [] (((fitP h c p).take 201 ++ fitT h c ((p + 1 : Nat) : Int) c.down.length []).take 201)) vw kr ?_ ?_ ?_
  · (simp only [go_sem, Nat.reduceAdd, Nat.reduceEqDiff, Nat.reduceLT, Nat.reduceLeDiff, Nat.reduceMul, Nat.reduceSub, Nat.reducePow, Nat.reduceDiv, Nat.reduceMod, Nat.reduceBEq, Int.reduceBEq, Int.reduceLT, reduceIte, V.norms, V.norm, tIs, tBs, tPs, *]); exact PS
  · obtain ⟨m', h1, h2, h3⟩ := hs0.out.other (((fitP h c p).take 201 ++ fitT h c ((p + 1 : Nat) : Int) c.down.length []).take 201) hv0.out
    exact ⟨_, m', rfl, h3, _, _, h1, h2, fun e => hj0.out e⟩
  rintro r m4 ⟨rfl, hnx4, v4, j4, hs4, hv4, hj4⟩
  have hs5 := Hid.mk hs4
  have hv5 := Hid.mk hv4
  have hj5 := Hid.mk hj4
  clear hs4 hv4 hj4 PS
  repeat' (with_reducible first | refine x_ops ?_ | refine wk ?_ | ((first | refine gd1 ?_ ?_ | refine gd2 ?_ ?_ | refine gd3 ?_ ?_) <;> (first | exact @False.elim _ | intro hc)))
  exact nx hpt ⟨vv, v4, j4, by rw [hL.out]; exact hs5.out, hv5.out, hj5.out⟩
/-- What Grips answers. -/
noncomputable def grR (h : Hand) (c : Chord) : List Grip × Int :=
  if chkE h = 0 then (if rgtB c = true then (if (grpA h c).length ≤ 200 then (grpA h c, 0) else ([], 2)) else ([], 1)) else ([], 60)
theorem rgt_ok {c : Chord} (h : rgtB c = true) : ChordOk c := by unfold rgtB at h; simpa using h
end Go.Proofs.Ytojjdkoglhecbaa
namespace Go.Proofs.Ytojjdkoglhecbaa
open Go.RowKit
set_option linter.unusedSimpArgs false
set_option linter.unusedVariables false

section
variable {P : Program} {G : Ground}
/-- A call with memory, its arguments as they are. -/
theorem x_scallR {base i : Nat} {d : Option Nat} {f : FuncId} {xs : List Opd} {l : List VI} {s : St} {K : St → Prop} {Post : V → Mm → Prop} (vs : List V) (hv : xs.map s.ev = vs) (hf : SFn P G f vs s.m Post) (hne : ∃ r m', Post r m')
    (h : ∀ r m', Post r m' → goR P G base (some ⟨putT s.t d r, m'⟩) l (i + 1) K) : vrun P G base i (⟨d, none, .call f, xs, none⟩ :: l) s K := by
  subst hv
  rw [vrun]
  unfold vstep VI.on
  simp only [if_true, sem, callSem]
  exact ⟨_, Post, .inl rfl, hf, hne, fun r m' hP => goR_vrun l (i + 1) _ (h r m' hP)⟩
/-- An append to a row of this call's own, in any order. -/
theorem x_appO {base i : Nat} {d : Option Nat} {e : TypeId} {size bytes : Nat} {x y : Opd} {l : List VI} {s : St} {K : St → Prop} {n j t : Nat} {xs ys : List V} {k2 : Tok} {md : Option (List Nat)} (hx : s.ev x = .sl n xs (.own t)) (hy : s.ev y = .sl j ys k2) (hok : ownOk md base t = true) (ho : s.m.obj t = some (.row n e size))
    (h1 : xs.length = n * size) (h2 : ys.length = j * size) (h3 : (n + j) * bytes ≤ 140737488355328) (h4 : n + j ≤ maxLen)
    (h : goR P G base (some ⟨putT s.t d (.sl (n + j) (xs ++ ys) (.own t)), s.m.put t (.row (n + j) e size)⟩) l (i + 1) K) : vrun P G base i (⟨d, none, .app e size bytes, [x, y], md⟩ :: l) s K := by
  rw [vrun]
  unfold vstep VI.on
  simp only [if_true, List.map_cons, List.map_nil, hx, hy, sem, ho]
  refine ⟨h1, h2, h3, h4, hok, ?_, ?_, ?_, goR_vrun l (i + 1) _ h⟩ <;> first | rfl | trivial
/-- An append to a slice that may grow: what is left as it was. -/
theorem x_appc {base i : Nat} {d : Option Nat} {e : TypeId} {size bytes : Nat} {x y : Opd} {l : List VI} {s : St} {K : St → Prop} {n j : Nat} {xs ys : List V} {k k2 : Tok} (hx : s.ev x = .sl n xs k) (hy : s.ev y = .sl j ys k2) (hap : Apb s.m k n e size)
    (h1 : xs.length = n * size) (h2 : ys.length = j * size) (h3 : (n + j) * bytes ≤ 140737488355328) (h4 : n + j ≤ maxLen) (h0 : base + i < s.m.next)
    (h : ∀ k' m', Apb m' k' (n + j) e size → m'.next = s.m.next → (∀ q, q ≠ base + i → k ≠ .own q → m'.obj q = s.m.obj q) → (∀ q, k' = .own q → q = base + i ∨ k = .own q) → goR P G base (some ⟨putT s.t d (.sl (n + j) (xs ++ ys) k'), m'⟩) l (i + 1) K) :
    vrun P G base i (⟨d, none, .app e size bytes, [x, y], none⟩ :: l) s K := by
  rw [vrun]
  unfold vstep VI.on
  simp only [if_true, List.map_cons, List.map_nil, hx, hy, sem]
  refine ⟨h1, h2, h3, h4, ?_⟩
  rcases hap with rfl | ⟨t, rfl, ht, ho⟩
  · exact goR_vrun l (i + 1) _ (h _ _ (.inr ⟨base + i, rfl, h0, if_pos rfl⟩) rfl (fun q hne _ => if_neg hne) (fun q hq => .inl (by injection hq with hq; exact hq.symm)))
  · simp only [ho]
    exact ⟨rfl, trivial, trivial, trivial, goR_vrun l (i + 1) _ (h _ _ (.inr ⟨t, rfl, ht, if_pos rfl⟩) rfl (fun q _ hne => if_neg fun e => hne (by rw [e])) (fun q hq => .inr hq))⟩
end

/-- A list of grips that may grow goes through a call. -/
def ExPost (m : Mm) (tok : Tok) (L : List Grip) (r : V) (m' : Mm) : Prop :=
  ∃ tok', r = .sl L.length (L.flatMap Grip.cells) tok' ∧ Apb m' tok' L.length 53 2 ∧ m.next ≤ m'.next ∧ (∀ q, q < m.next → tok ≠ .own q → m'.obj q = m.obj q) ∧ ∀ q, q < m.next → tok' = .own q → tok = .own q
theorem ExPost.some (m : Mm) (tok : Tok) (L : List Grip) : ∃ r m', ExPost m tok L r m' :=
  ⟨_, m, .exact, rfl, .inl rfl, Nat.le_refl _, fun _ _ _ => rfl, fun q _ h => by cases h⟩
theorem ExPost.back {m m1 m' : Mm} {tok : Tok} {L : List Grip} {r : V} (h : ExPost m tok L r m') (hn : m1.next ≤ m.next) (ho : ∀ q, q < m1.next → m.obj q = m1.obj q) : ExPost m1 tok L r m' := by
  obtain ⟨tok', h1, h2, h3, h4, h5⟩ := h
  exact ⟨tok', h1, h2, Nat.le_trans hn h3, fun q hq hne => (h4 q (by omega) hne).trans (ho q hq), fun q hq => h5 q (by omega)⟩
theorem allB_succ (n : Nat) (p : Nat → Bool) : allB (n + 1) p = (allB n p && p n) := by simp [allB, List.range_succ]

set_option maxHeartbeats 4000000 in
theorem rext_sfn (h : Hand) (hk : HandOk h) (c : Chord) (hf : FitC c) (hc : ChordOk c) (pos : Int) (hp : 1 ≤ pos ∧ pos ≤ h.top) : ∀ (k : Nat) (F : List Int) (L : List Grip) (m : Mm) (tk tok : Tok), F.length + k = c.down.length → PreR h c pos F →
    L.length ≤ 201 → (k = 0 → L.length ≤ 200) → Apb m tok L.length 53 2 →
    SFn Try.prog Gd 109 [h.val, c.val, vint pos, .sl F.length (F.map vint) tk, .sl L.length (L.flatMap Grip.cells) tok] m (ExPost m tok ((L ++ fitT h c pos k F).take 201))
  | 0, F, L, m, tk, tok, hl, hF, hL, h0, hap => by
    have hL2 := h0 rfl
    have h14 := chord_len hc
    have hfit := hF.leaf hk hc hp (by omega)
    refine SFn.of_vxS k_theorboref06_extend (by simp) ?_
    rw [fitT, if_pos hfit, List.take_of_length_le (by simp; omega)]
    have e1 : ((F.length : Int) == (c.down.length : Int)) = true := by simp; omega
    have n0 : m.next < m.next + 3 := by omega
    have n1 : m.next + 1 < m.next + 3 := by omega
    have hFl : F.length ≤ 14 := by omega
    have hap0 := Hid.mk hap
    clear hl hap
    unfold c_theorboref06_extend Hand.val Chord.val Chord.cells
    repeat' (with_reducible first | refine x_ops ?_ | refine wk ?_ | ((first | refine gd1 ?_ ?_ | refine gd2 ?_ ?_ | refine gd3 ?_ ?_) <;> (first | exact @False.elim _ | intro hc)))
    refine x_appE (xs := []) (n := 0) (j := F.length) (ys := F.map vint) vw vw rfl (by simp) (by omega) (by unfold Go.maxLen; omega) ?_
    repeat' (with_reducible first | refine x_ops ?_ | refine wk ?_ | ((first | refine gd1 ?_ ?_ | refine gd2 ?_ ?_ | refine gd3 ?_ ?_) <;> (first | exact @False.elim _ | intro hc)))
    refine x_appc (n := L.length) (j := 1) (xs := L.flatMap Grip.cells) (ys := Grip.cells ⟨pos, F⟩) (k := tok) vw vw (hap0.out.mono (fun q hq _ => by (simp only [put_obj]; repeat rw [if_neg (by omega)])) (by simp only [put_next]; omega)) (gs_len L) rfl (by omega) (by unfold Go.maxLen; omega) (by simp only [put_next]; omega) ?_
    intro k' m' hap' hn' hkeep hown
    replace hn' : m'.next = m.next + 11 := hn'
    repeat' (with_reducible first | refine x_ops ?_ | refine wk ?_ | ((first | refine gd1 ?_ ?_ | refine gd2 ?_ ?_ | refine gd3 ?_ ?_) <;> (first | exact @False.elim _ | intro hc)))
    refine finS_ret vv ⟨k', ?_, ?_, ?_, ?_, ?_⟩
    · rw [List.length_append, List.flatMap_append]; simp
    · rw [List.length_append]; exact hap'
    · ((refine ve ?_; try exact True.intro)); omega
    · intro q hq hne
      exact (hkeep q (by omega) hne).trans (by (simp only [put_obj]; repeat rw [if_neg (by omega)]))
    · intro q hq hk'
      rcases hown q hk' with h1 | h1
      · omega
      · exact h1
  | k + 1, F, L, m, tk, tok, hl, hF, hL, h0, hap => by
    have IH := rext_sfn h hk c hf hc pos hp k
    have htop := hk.top
    have hn4 := hk.n4
    have h14 := chord_len hc
    clear h0
    refine SFn.of_vxS k_theorboref06_extend (by simp) ?_
    have e1 : ((F.length : Int) == (c.down.length : Int)) = false := by simp; omega
    have hlt : F.length < c.down.length := by omega
    have cF : (F.length : Int) < (c.down.length : Int) := by omega
    have gF := pls_at1 hlt
    have gL := pls_len c.down
    have n0 : m.next < m.next + 3 := by omega
    have n1 : m.next + 1 < m.next + 3 := by omega
    have hfr := hc.each F.length hlt
    have RF := fun v => rreach_fn h hk pos v (c.down.getD F.length (0, 0)).2 (by omega) (by omega)
    have RA := fun (q : Nat) (hq : q < F.length) (v : Int) => rapart_fn h hk c hf q F.length hq hlt (F.getD q 0) v (by
      have := (hF q hq).1
      rw [rrchB, Bool.and_eq_true, Bool.and_eq_true, decide_eq_true_eq, decide_eq_true_eq] at this
      exact this.1)
    have hFl : Hid (F.length ≤ 14) := ⟨by omega⟩
    have hlt0 := Hid.mk hlt
    have hl0 := Hid.mk hl
    have hap0 := Hid.mk hap
    clear hl hap hlt hfr
    rw [fitT_succ]
    unfold c_theorboref06_extend Hand.val Chord.val Chord.cells
    unfold Hand.val at RF RA
    unfold Chord.val Chord.cells at RA
    repeat' (with_reducible first | refine x_ops ?_ | refine wk ?_ | ((first | refine gd1 ?_ ?_ | refine gd2 ?_ ?_ | refine gd3 ?_ ?_) <;> (first | exact @False.elim _ | intro hc)))
    clear n0 n1 e1
    refine x_loopW w_theorboref06_extend_p11 (by kernel_rfl) h.low.length (fun f t m' => t 12 = vint ((f + 1 : Nat) : Int) ∧ ExPost m tok ((L ++ fitS h c pos k F f).take 201) (t 4) m' ∧ m.next + 3 ≤ m'.next ∧
      m'.obj m.next = some (.box [tIs h.low, tIs h.high, tBs h.barre, vint h.top, vint h.jump, vint h.shift, vint h.lift, vint h.bar, vint h.stretch, vint h.slide] 25) ∧ m'.obj (m.next + 1) = some (.box [tPs c.down, tIs c.held, tIs c.opn] 47)) ?_ ?_
    · refine ⟨vv, ⟨tok, ?_, ?_, ?_, ?_, fun q _ h => h⟩, ?_, ?_, ?_⟩
      · rw [show fitS h c pos k F 0 = [] from rfl, List.append_nil, List.take_of_length_le hL]; exact vv
      · rw [show fitS h c pos k F 0 = [] from rfl, List.append_nil, List.take_of_length_le hL]
        exact hap0.out.mono (fun q hq _ => by (simp only [put_obj]; repeat rw [if_neg (by omega)])) (by simp only [put_next]; omega)
      · simp only [put_next]; omega
      · intro q hq hne; (simp only [put_obj]; repeat rw [if_neg (by omega)])
      · simp only [put_next]; omega
      · exact vv
      · exact vv
    rintro f t m1 hfk ⟨h12, ⟨tk1, h4, hap, hnx, hkeep, hown⟩, hnm, o0, o1⟩
    have n0 : m.next < m1.next := by omega
    have n1 : m.next + 1 < m1.next := by omega
    have hLf := tk_len (L ++ fitS h c pos k F f)
    have hap1 := Hid.mk hap
    have hkeep1 := Hid.mk hkeep
    have hown1 := Hid.mk hown
    clear hap hkeep hown
    by_cases hfn : f < h.low.length
    case neg =>
      have hfe : f = h.low.length := by omega
      subst hfe
      have c1 : ¬ ((h.low.length + 1 : Nat) : Int) ≤ (h.low.length : Int) := by omega
      clear hfk hfn
      generalize (L ++ fitS h c pos k F h.low.length).take 201 = L1 at *
      repeat' (with_reducible first | refine x_ops ?_ | refine wk ?_ | ((first | refine gd1 ?_ ?_ | refine gd2 ?_ ?_ | refine gd3 ?_ ?_) <;> (first | exact @False.elim _ | intro hc)))
      exact finS_ret vv ⟨tk1, rfl, hap1.out, hnx, hkeep1.out, hown1.out⟩
    have c1 : ((f + 1 : Nat) : Int) ≤ (h.low.length : Int) := by omega
    have w2 := w_add1 (k := f + 1) (by omega)
    obtain ⟨Lf, hLe⟩ : ∃ Lf, Lf = (L ++ fitS h c pos k F f).take 201 := ⟨_, rfl⟩
    rw [← hLe] at h4 hap1 hLf
    have R1 := RF ((f + 1 : Nat) : Int)
    have A1 := fun q hq => RA q hq ((f + 1 : Nat) : Int)
    have hS : (L ++ fitS h c pos k F (f + 1)) = (L ++ fitS h c pos k F f) ++ fitT h c pos k (F ++ [((f + 1 : Nat) : Int)]) := by rw [fitS_succ, List.append_assoc]
    have full : ¬ Lf.length ≤ 200 → (L ++ fitS h c pos k F (f + 1)).take 201 = Lf := fun hg => by rw [hS, hLe]; rw [hLe] at hg; exact (tk_full hg).symm
    have more : Lf.length ≤ 200 → (L ++ fitS h c pos k F (f + 1)).take 201 = (Lf ++ fitT h c pos k (F ++ [((f + 1 : Nat) : Int)])).take 201 := fun hg => by rw [hS, hLe]; rw [hLe] at hg; exact (tk_more hg).symm
    have none' : fitT h c pos k (F ++ [((f + 1 : Nat) : Int)]) = [] → (L ++ fitS h c pos k F (f + 1)).take 201 = Lf := fun e => by rw [hS, e, List.append_nil, hLe]
    replace full := Hid.mk full
    replace more := Hid.mk more
    replace none' := Hid.mk none'
    replace hLe := Hid.mk hLe
    replace hfn := Hid.mk hfn
    clear RF RA hfk hS
    obtain ⟨b0, hb0⟩ : ∃ b, b = rrchB h pos ((f + 1 : Nat) : Int) (c.down.getD F.length (0, 0)).2 := ⟨_, rfl⟩
    rw [← hb0] at R1
    replace hb0 := Hid.mk hb0
    repeat' (with_reducible first | refine x_ops ?_ | refine wk ?_ | (with_reducible refine xc (R1) ?_) | ((first | refine gd1 ?_ ?_ | refine gd2 ?_ ?_ | refine gd3 ?_ ?_) <;> (first | exact @False.elim _ | intro hc)))
    refine x_loopF w_theorboref06_extend_p4 (by kernel_rfl) F.length (fun q t => t 14 = vint (q : Int) ∧ t 13 = vbool (b0 && allB q fun i => aptB h c i F.length (F.getD i 0) ((f + 1 : Nat) : Int))) ?_ ?_
    · exact ⟨vv, by rw [show allB 0 (fun i => aptB h c i F.length (F.getD i 0) ((f + 1 : Nat) : Int)) = true from rfl, Bool.and_true]; exact vv⟩
    rintro q t2 hq ⟨h14', h13⟩
    by_cases hqF : q < F.length
    · have g1 := ints_at hqF
      have c3 : (q : Int) < (F.length : Int) := by omega
      have w3 := w_add1 (k := q) (by omega)
      have A2 := A1 q hqF
      have hsu := Hid.mk (allB_succ q fun i => aptB h c i F.length (F.getD i 0) ((f + 1 : Nat) : Int))
      cases hb : (b0 && allB q fun i => aptB h c i F.length (F.getD i 0) ((f + 1 : Nat) : Int))
      · rw [hb] at h13
        replace hb := Hid.mk hb
        clear A1 A2
        repeat' (with_reducible first | refine x_ops ?_ | refine wk ?_ | ((first | refine gd1 ?_ ?_ | refine gd2 ?_ ?_ | refine gd3 ?_ ?_) <;> (first | exact @False.elim _ | intro hc)))
        refine nf hqF ⟨vv, ?_⟩ rfl
        rw [hsu.out, ← Bool.and_assoc, hb.out]; exact vv
      · rw [hb] at h13
        replace hb := Hid.mk hb
        generalize hap' : aptB h c q F.length (F.getD q 0) ((f + 1 : Nat) : Int) = b1 at *
        clear A1
        repeat' (with_reducible first | refine x_ops ?_ | refine wk ?_ | (with_reducible refine xc (A2) ?_) | ((first | refine gd1 ?_ ?_ | refine gd2 ?_ ?_ | refine gd3 ?_ ?_) <;> (first | exact @False.elim _ | intro hc)))
        refine nf hqF ⟨vv, ?_⟩ rfl
        rw [hsu.out, ← Bool.and_assoc, hb.out]; exact vv
    have hqe : q = F.length := by omega
    subst hqe
    have c3 : ¬ (F.length : Int) < (F.length : Int) := by omega
    clear hqF hq A1
    obtain ⟨b, hb⟩ : ∃ b, b = (b0 && allB F.length fun i => aptB h c i F.length (F.getD i 0) ((f + 1 : Nat) : Int)) := ⟨_, rfl⟩
    rw [← hb] at h13
    have hbt : b = true ↔ (rrchB h pos ((f + 1 : Nat) : Int) (c.down.getD F.length (0, 0)).2 = true ∧ ∀ k, k < F.length → AptP h c k F.length (F.getD k 0) ((f + 1 : Nat) : Int)) := by
      rw [hb, hb0.out, Bool.and_eq_true, allB_iff]
      exact ⟨fun hh => ⟨hh.1, fun k hk => apt_true.1 (hh.2 k hk)⟩, fun hh => ⟨hh.1, fun k hk => apt_true.2 (hh.2 k hk)⟩⟩
    replace hbt := Hid.mk hbt
    clear hb
    cases b
    · have e9 := Hid.mk (none'.out (fitT_bad (k := k) hk hc hlt0.out fun hh => by have := hbt.out.2 hh; cases this))
      repeat' (with_reducible first | refine x_ops ?_ | refine wk ?_ | ((first | refine gd1 ?_ ?_ | refine gd2 ?_ ?_ | refine gd3 ?_ ?_) <;> (first | exact @False.elim _ | intro hc)))
      exact nx hfn.out ⟨vv, ⟨tk1, by rw [e9.out]; exact vw, by rw [e9.out]; exact hap1.out, hnx, hkeep1.out, hown1.out⟩, hnm, o0, o1⟩
    by_cases hg : Lf.length ≤ 200
    case neg =>
      have c2 : ¬ (Lf.length : Int) ≤ 200 := by omega
      have e9 := Hid.mk (full.out hg)
      clear hg
      repeat' (with_reducible first | refine x_ops ?_ | refine wk ?_ | ((first | refine gd1 ?_ ?_ | refine gd2 ?_ ?_ | refine gd3 ?_ ?_) <;> (first | exact @False.elim _ | intro hc)))
      exact nx hfn.out ⟨vv, ⟨tk1, by rw [e9.out]; exact vw, by rw [e9.out]; exact hap1.out, hnx, hkeep1.out, hown1.out⟩, hnm, o0, o1⟩
    have c2 : (Lf.length : Int) ≤ 200 := by omega
    have e9 := Hid.mk (more.out hg)
    have hP := Hid.mk (hF.snoc (hbt.out.1 rfl).1 (hbt.out.1 rfl).2)
    replace hg := Hid.mk hg
    have hk0 : Hid (tk1 ≠ .own m.next ∧ tk1 ≠ .own (m.next + 1)) := ⟨by
      rcases hap1.out with h1 | ⟨t, h1, _, h3⟩
      · rw [h1]; exact ⟨(fun e => by cases e), (fun e => by cases e)⟩
      · rw [h1]; exact ⟨(fun e => by injection e with e; subst e; rw [o0] at h3; cases h3), (fun e => by injection e with e; subst e; rw [o1] at h3; cases h3)⟩⟩
    repeat' (with_reducible first | refine x_ops ?_ | refine wk ?_ | ((first | refine gd1 ?_ ?_ | refine gd2 ?_ ?_ | refine gd3 ?_ ?_) <;> (first | exact @False.elim _ | intro hc)))
    refine x_appE (xs := []) (n := 0) (j := F.length) (ys := F.map vint) vw vw rfl (by simp) (by have := hFl.out; omega) (by have := hFl.out; unfold Go.maxLen; omega) ?_
    repeat' (with_reducible first | refine x_ops ?_ | refine wk ?_ | ((first | refine gd1 ?_ ?_ | refine gd2 ?_ ?_ | refine gd3 ?_ ?_) <;> (first | exact @False.elim _ | intro hc)))
    refine x_appO (t := m1.next + 4) (n := F.length) (j := 1) (xs := F.map vint) (ys := [vint ((f + 1 : Nat) : Int)]) vw vw (by simp [ownOk]) vw (by simp) rfl (by have := hFl.out; omega) (by have := hFl.out; unfold Go.maxLen; omega) ?_
    repeat' (with_reducible first | refine x_ops ?_ | refine wk ?_ | ((first | refine gd1 ?_ ?_ | refine gd2 ?_ ?_ | refine gd3 ?_ ?_) <;> (first | exact @False.elim _ | intro hc)))
    refine x_scallR (Post := ExPost m1 tk1 ((Lf ++ fitT h c pos k (F ++ [((f + 1 : Nat) : Int)])).take 201)) [h.val, c.val, vint pos, .sl (F.length + 1) (F.map vint ++ [vint ((f + 1 : Nat) : Int)]) (.own (m1.next + 4)), .sl Lf.length (Lf.flatMap Grip.cells) tk1] ?_ ?_ (ExPost.some _ _ _) ?_
    · simp only [Hand.val, Chord.val, Chord.cells]; exact vw
    · have IH2 := fun mm => IH (F ++ [((f + 1 : Nat) : Int)]) Lf mm (.own (m1.next + 4)) tk1 (by simp; have := hl0.out; omega) hP.out hLf (fun _ => hg.out)
      rw [List.length_append, List.map_append] at IH2
      refine SFn.mono (IH2 _ (hap1.out.mono (fun q hq _ => by (simp only [put_obj]; repeat rw [if_neg (by omega)])) (by simp only [put_next]; omega))) fun r m' hPo => hPo.back (by simp only [put_next]; omega) (fun q hq => by (simp only [put_obj]; repeat rw [if_neg (by omega)]))
    rintro r m4 ⟨tk2, rfl, hap4, hn4', hkeep4, hown4⟩
    have p0 := (hkeep4 _ n0 hk0.out.1).trans o0
    have p1 := (hkeep4 _ n1 hk0.out.2).trans o1
    have hkeep5 : ∀ q, q < m.next → tok ≠ .own q → m4.obj q = m.obj q := fun q hq hne => (hkeep4 q (by omega) fun e => hne (hown1.out q hq e)).trans (hkeep1.out q hq hne)
    have hown5 : ∀ q, q < m.next → tk2 = .own q → tok = .own q := fun q hq e => hown1.out q hq (hown4 q (by omega) e)
    replace hkeep5 := Hid.mk hkeep5
    replace hown5 := Hid.mk hown5
    replace hap4 := Hid.mk hap4
    have hn5 : m.next ≤ m4.next := by omega
    have hn6 : m.next + 3 ≤ m4.next := by omega
    clear hkeep4 hown4 o0 o1 hk0
    repeat' (with_reducible first | refine x_ops ?_ | refine wk ?_ | ((first | refine gd1 ?_ ?_ | refine gd2 ?_ ?_ | refine gd3 ?_ ?_) <;> (first | exact @False.elim _ | intro hc)))
    exact nx hfn.out ⟨vv, ⟨tk2, by rw [e9.out]; exact vv, by rw [e9.out]; exact hap4.out, hn5, hkeep5.out, hown5.out⟩, hn6, p0, p1⟩
end Go.Proofs.Ytojjdkoglhecbaa
namespace Go.Proofs.Ytojjdkoglhecbaa
open Go.RowKit
set_option linter.unusedSimpArgs false
set_option linter.unusedVariables false

set_option maxHeartbeats 2000000 in
theorem rall_fn (h : Hand) (hk : HandOk h) (c : Chord) (hf : FitC c) (hc : ChordOk c) : Fn Try.prog Gd 72 [h.val, c.val] (tGs ((grpA h c).take 201)) := by
  refine Fn.of_vx0 k_theorboref06_all (by simp) (by rw [V.pures, pure_hand, V.pures, pure_chord]; rfl) ?_
  have htop := hk.top
  unfold c_theorboref06_all Hand.val Chord.val Chord.cells tGs
  repeat' (with_reducible first | refine x_ops ?_ | refine wk ?_ | ((first | refine gd1 ?_ ?_ | refine gd2 ?_ ?_ | refine gd3 ?_ ?_) <;> (first | exact @False.elim _ | intro hc)))
  refine x_loopW w_theorboref06_all_p3 (by kernel_rfl) h.top.toNat (fun p t m => t 6 = vint ((p + 1 : Nat) : Int) ∧ (∃ tok, t 5 = .sl ((fitP h c p).take 201).length (((fitP h c p).take 201).flatMap Grip.cells) tok ∧ Apb m tok ((fitP h c p).take 201).length 53 2) ∧ 2 ≤ m.next ∧
      m.obj 0 = some (.box [tIs h.low, tIs h.high, tBs h.barre, vint h.top, vint h.jump, vint h.shift, vint h.lift, vint h.bar, vint h.stretch, vint h.slide] 25) ∧ m.obj 1 = some (.box [tPs c.down, tIs c.held, tIs c.opn] 47)) ?_ ?_
  · exact ⟨vv, ⟨.exact, vv, .inl rfl⟩, by ((refine ve ?_; try exact True.intro)); first | done | omega, vv, vv⟩
  rintro p t m hp ⟨h6, ⟨tk, h5, hap⟩, hn, o0, o1⟩
  have n0 : 0 < m.next := by omega
  have n1 : 1 < m.next := by omega
  have hap0 := Hid.mk hap
  clear hap
  by_cases hpt : p < h.top.toNat
  case neg =>
    have hpe : p = h.top.toNat := by omega
    subst hpe
    have c1 : ¬ ((h.top.toNat + 1 : Nat) : Int) ≤ h.top := by omega
    unfold grpA
    generalize (fitP h c h.top.toNat).take 201 = L at *
    repeat' (with_reducible first | refine x_ops ?_ | refine wk ?_ | ((first | refine gd1 ?_ ?_ | refine gd2 ?_ ?_ | refine gd3 ?_ ?_) <;> (first | exact @False.elim _ | intro hc)))
    exact finV_ret vv (.sl _ _ _)
  have c1 : ((p + 1 : Nat) : Int) ≤ h.top := by omega
  have w1 := w_add1 (k := p + 1) (by omega)
  have hL : (fitP h c (p + 1)).take 201 = ((fitP h c p).take 201 ++ fitT h c ((p + 1 : Nat) : Int) c.down.length []).take 201 := by
    rw [fitP_succ]
    by_cases hg : ((fitP h c p).take 201).length ≤ 200
    · exact (tk_more hg).symm
    · rw [← tk_full hg, List.take_append_of_le_length (by omega), List.take_of_length_le (tk_len _)]
  replace hL := Hid.mk hL
  have PS := rext_sfn h hk c hf hc ((p + 1 : Nat) : Int) (by omega) c.down.length [] ((fitP h c p).take 201) m .exact tk (by simp) (fun i hi => by simp at hi) (tk_len _)
    (fun e => by have := fitP0_len (h := h) e p; rw [List.length_take]; omega) hap0.out
  have hk0 : Hid (tk ≠ .own 0 ∧ tk ≠ .own 1) := ⟨by
    rcases hap0.out with h1 | ⟨t, h1, _, h3⟩
    · rw [h1]; exact ⟨(fun e => by cases e), (fun e => by cases e)⟩
    · rw [h1]; exact ⟨(fun e => by injection e with e; subst e; rw [o0] at h3; cases h3), (fun e => by injection e with e; subst e; rw [o1] at h3; cases h3)⟩⟩
  repeat' (with_reducible first | refine x_ops ?_ | refine wk ?_ | ((first | refine gd1 ?_ ?_ | refine gd2 ?_ ?_ | refine gd3 ?_ ?_) <;> (first | exact @False.elim _ | intro hc)))
  refine x_scallR (Post := ExPost m tk (((fitP h c p).take 201 ++ fitT h c ((p + 1 : Nat) : Int) c.down.length []).take 201)) [h.val, c.val, vint ((p + 1 : Nat) : Int), .sl 0 [] .exact, .sl ((fitP h c p).take 201).length (((fitP h c p).take 201).flatMap Grip.cells) tk] ?_ PS (ExPost.some _ _ _) ?_
  · simp only [Hand.val, Chord.val, Chord.cells]; exact vw
  rintro r m4 ⟨tk2, rfl, hap4, hn4, hkeep4, hown4⟩
  have p0 := (hkeep4 _ n0 hk0.out.1).trans o0
  have p1 := (hkeep4 _ n1 hk0.out.2).trans o1
  have hn5 : 2 ≤ m4.next := by omega
  replace hap4 := Hid.mk hap4
  clear hkeep4 hown4 PS o0 o1
  repeat' (with_reducible first | refine x_ops ?_ | refine wk ?_ | ((first | refine gd1 ?_ ?_ | refine gd2 ?_ ?_ | refine gd3 ?_ ?_) <;> (first | exact @False.elim _ | intro hc)))
  exact nx hpt ⟨vv, ⟨tk2, by rw [hL.out]; exact vv, by rw [hL.out]; exact hap4.out⟩, hn5, p0, p1⟩
set_option maxHeartbeats 1000000 in
theorem rGrips_fn (h : Hand) (c : Chord) (hf : FitC c) : Fn Try.prog Gd 33 [h.val, c.val] (.tup [tGs (grR h c).1, vint (grR h c).2]) := by
  refine Fn.of_vx0 k_theorboref06_Grips (by simp) (by rw [V.pures, pure_hand, V.pures, pure_chord]; rfl) ?_
  have C1 := rcheck_fn h
  have C2 := good_fn c hf
  unfold grR
  unfold c_theorboref06_Grips Hand.val Chord.val Chord.cells tGs
  by_cases he : chkE h = 0
  case neg =>
    rw [if_neg he]
    rw [chk_bad he] at C1
    clear he
    unfold Hand.val at C1
    repeat' (with_reducible first | refine x_ops ?_ | refine wk ?_ | (with_reducible refine xc (C1) ?_) | ((first | refine gd1 ?_ ?_ | refine gd2 ?_ ?_ | refine gd3 ?_ ?_) <;> (first | exact @False.elim _ | intro hc)))
    exact finV_ret vv (.tup (.cons (.sl _ _ _) (.cons (.lit _) .nil)))
  have hk := chk_ok he
  rw [if_pos he]
  rw [he] at C1
  clear he
  cases hr : rgtB c
  · rw [hr] at C2
    rw [if_neg (by simp)]
    clear hr hk
    unfold Hand.val at C1
    unfold Chord.val Chord.cells at C2
    repeat' (with_reducible first | refine x_ops ?_ | refine wk ?_ | (with_reducible refine xc (C1) ?_) | (with_reducible refine xc (C2) ?_) | ((first | refine gd1 ?_ ?_ | refine gd2 ?_ ?_ | refine gd3 ?_ ?_) <;> (first | exact @False.elim _ | intro hc)))
    exact finV_ret vv (.tup (.cons (.sl _ _ _) (.cons (.lit _) .nil)))
  rw [hr] at C2
  rw [if_pos rfl]
  have C3 := rall_fn h hk c hf (rgt_ok hr)
  clear hr hk
  unfold Hand.val at C1 C3
  unfold Chord.val Chord.cells at C2 C3
  unfold tGs at C3
  by_cases hl : (grpA h c).length ≤ 200
  · rw [if_pos hl]
    rw [List.take_of_length_le (by omega)] at C3
    have c1 : ¬ (200 : Int) < ((grpA h c).length : Int) := by omega
    clear hl
    generalize grpA h c = L at *
    repeat' (with_reducible first | refine x_ops ?_ | refine wk ?_ | (with_reducible refine xc (C1) ?_) | (with_reducible refine xc (C2) ?_) | (with_reducible refine xc (C3) ?_) | ((first | refine gd1 ?_ ?_ | refine gd2 ?_ ?_ | refine gd3 ?_ ?_) <;> (first | exact @False.elim _ | intro hc)))
    exact finV_ret vv (.tup (.cons (.sl _ _ _) (.cons (.lit _) .nil)))
  · rw [if_neg hl]
    have c1 : (200 : Int) < (((grpA h c).take 201).length : Int) := by rw [List.length_take]; omega
    clear hl
    generalize (grpA h c).take 201 = L at *
    repeat' (with_reducible first | refine x_ops ?_ | refine wk ?_ | (with_reducible refine xc (C1) ?_) | (with_reducible refine xc (C2) ?_) | (with_reducible refine xc (C3) ?_) | ((first | refine gd1 ?_ ?_ | refine gd2 ?_ ?_ | refine gd3 ?_ ?_) <;> (first | exact @False.elim _ | intro hc)))
    exact finV_ret vv (.tup (.cons (.sl _ _ _) (.cons (.lit _) .nil)))

theorem gs_at0 {l : List Grip} {k : Nat} (h : k < l.length) : (l.flatMap Grip.cells)[k * 2]? = some (V.lit (.int .i64 (l.getD k noG).pos)) := by
  have := flat_at (j := 0) gs_l noG h (by decide); rw [Nat.add_zero] at this; rw [this]; rfl
theorem gs_at1 {l : List Grip} {k : Nat} (h : k < l.length) : (l.flatMap Grip.cells)[k * 2 + 1]? = some (tIs (l.getD k noG).fingers) := by
  rw [flat_at (j := 1) gs_l noG h (by decide)]; rfl
deriving instance DecidableEq for Grip
/-- The same grips. -/
theorem samegrips_fn (a b : List Grip) (ha : FitsG a) : Fn Try.prog Gd 34 [tGs a, tGs b] (vbool (decide (a = b))) := by
  refine Fn.of_vx0 k_theorbolaw06_SameGrips (by simp) (by rw [V.pures, pure_tGs, V.pures, pure_tGs]; rfl) ?_
  have hal := ha.1
  unfold c_theorbolaw06_SameGrips tGs
  by_cases hab : a.length = b.length
  case neg =>
    have hab' : ((a.length : Int) == (b.length : Int)) = false := by simp; omega
    repeat' (with_reducible first | refine x_ops ?_ | refine wk ?_ | ((first | refine gd1 ?_ ?_ | refine gd2 ?_ ?_ | refine gd3 ?_ ?_) <;> (first | exact @False.elim _ | intro hc)))
    exact finV_lit vv (by rw [decide_eq_false]; rintro rfl; exact hab rfl)
  have hab' : ((a.length : Int) == (a.length : Int)) = true := by simp
  have hab2 := hab.symm
  clear hab
  repeat' (with_reducible first | refine x_ops ?_ | refine wk ?_ | ((first | refine gd1 ?_ ?_ | refine gd2 ?_ ?_ | refine gd3 ?_ ?_) <;> (first | exact @False.elim _ | intro hc)))
  refine x_loopF w_theorbolaw06_SameGrips_p5 (by kernel_rfl) a.length (fun k t => t 5 = vint (k : Int) ∧ ∀ i, i < k → a.getD i noG = b.getD i noG) ?_ ?_
  · exact ⟨vv, fun i h => by omega⟩
  rintro k t hk ⟨h5, hI⟩
  by_cases hlt : k < a.length
  · have g1 := gs_at0 hlt
    have g2 := gs_at0 (l := b) (k := k) (by omega)
    have g3 := gs_at1 hlt
    have g4 := gs_at1 (l := b) (k := k) (by omega)
    have g5 := gs_len a
    have g6 := gs_len b
    have c2 : (k : Int) < (a.length : Int) := by omega
    have w2 := w_add1 (k := k) (by omega)
    have SI := sameints_fn (a.getD k noG).fingers (b.getD k noG).fingers (by have := ha.at k; omega)
    have hlast : Hid (a.getD k noG = b.getD k noG ↔ (a.getD k noG).pos = (b.getD k noG).pos ∧ (a.getD k noG).fingers = (b.getD k noG).fingers) := ⟨by
      constructor
      · intro e; rw [e]; exact ⟨rfl, rfl⟩
      · intro ⟨e1, e2⟩
        cases ha' : a.getD k noG; cases hb' : b.getD k noG
        rw [ha', hb'] at e1 e2; simp only at e1 e2; rw [e1, e2]⟩
    have bad : Hid (a.getD k noG ≠ b.getD k noG → decide (a = b) = false) := ⟨fun hne => by rw [decide_eq_false]; rintro rfl; exact hne rfl⟩
    by_cases hp : (a.getD k noG).pos = (b.getD k noG).pos
    · by_cases hq : (a.getD k noG).fingers = (b.getD k noG).fingers
      · rw [decide_eq_true hq] at SI
        have hgood := Hid.mk (hlast.out.2 ⟨hp, hq⟩)
        have hp' : ((a.getD k noG).pos == (b.getD k noG).pos) = true := by rw [hp]; simp
        clear hp hq
        repeat' (with_reducible first | refine x_ops ?_ | refine wk ?_ | (with_reducible refine xc (SI) ?_) | ((first | refine gd1 ?_ ?_ | refine gd2 ?_ ?_ | refine gd3 ?_ ?_) <;> (first | exact @False.elim _ | intro hc)))
        refine nf (by omega) ⟨vv, fun i h => ?_⟩ rfl
        by_cases hi : i = k
        · subst hi; exact hgood.out
        · exact hI i (by omega)
      · rw [decide_eq_false hq] at SI
        have hp' : ((a.getD k noG).pos == (b.getD k noG).pos) = true := by rw [hp]; simp
        have hb := Hid.mk (bad.out fun e => hq (hlast.out.1 e).2)
        clear hp hq
        repeat' (with_reducible first | refine x_ops ?_ | refine wk ?_ | (with_reducible refine xc (SI) ?_) | ((first | refine gd1 ?_ ?_ | refine gd2 ?_ ?_ | refine gd3 ?_ ?_) <;> (first | exact @False.elim _ | intro hc)))
        exact finV_lit vv (by rw [hb.out])
    · have hp' : ((a.getD k noG).pos == (b.getD k noG).pos) = false := by simpa using hp
      have hb := Hid.mk (bad.out fun e => hp (hlast.out.1 e).1)
      clear hp
      repeat' (with_reducible first | refine x_ops ?_ | refine wk ?_ | (with_reducible refine xc (SI) ?_) | ((first | refine gd1 ?_ ?_ | refine gd2 ?_ ?_ | refine gd3 ?_ ?_) <;> (first | exact @False.elim _ | intro hc)))
      exact finV_lit vv (by rw [hb.out])
  · have c1 : ¬ ((k : Int) < (a.length : Int)) := by omega
    repeat' (with_reducible first | refine x_ops ?_ | refine wk ?_ | ((first | refine gd1 ?_ ?_ | refine gd2 ?_ ?_ | refine gd3 ?_ ?_) <;> (first | exact @False.elim _ | intro hc)))
    refine finV_lit vv ?_
    rw [decide_eq_true]
    refine List.ext_getElem hab2.symm fun i h1 h2 => ?_
    have := hI i (by omega)
    simpa [List.getD_eq_getElem?_getD, h1, h2] using this
end Go.Proofs.Ytojjdkoglhecbaa
namespace Go.Proofs.Ytojjdkoglhecbaa
open Go.RowKit
set_option maxRecDepth 100000

abbrev c_hand_weave_b_p1 : VC := (.seq (.ops 0 [oo 19 .mv [.t 6], oo 4 .mv [(.c (.lit (.pointer none)))], oo 5 .mv [.t 19]]) .ret)
abbrev c_hand_weave_b_p2 : VC := (.seq (.ops 0 [oo 17 .mv [.t 6], oo 18 (.bin .neq) [.t 17, kk 0]]) (.cond (.t 18) c_hand_weave_b_p1 .skip))
abbrev c_hand_weave_b_p3 : VC := (.seq (.ops 0 [oo 4 .mv [(.c (.lit (.pointer none)))], oo 5 .mv [kk 2]]) .ret)
abbrev c_hand_weave_b_p4 : VC := (.ops 8 [oo 42 .mv [.t 11], oo 43 (.ldA 10) [.t 2], oo 44 (.ldA 3) [.t 9], oo 45 (.ldA 2) [.t 13], oo 46 (.call 81) [.t 43, .t 44, .t 45], oo 47 (.mksl 1 1 [li 0] [(0, 1)]) [.t 46], oo 48 (.app 3 1 8) [.t 42, .t 47], oo 11 .mv [.t 48]])
abbrev c_hand_weave_b_p5 : VC := (.ops 0 [oo 49 (.bin .add) [.t 38, kk 1], oo 38 .mv [.t 49]])
abbrev c_hand_weave_b_p6 : VC := (.seq (.block 3 (.seq (.ops 4 [oo 40 (.ixA 2) [.t 36, .t 38], oo 41 (.ldA 2) [.t 40], ⟨(some 13), none, (.alloc 53 [li 0, (.sl 0 [] .exact)]), [], none⟩, ⟨none, none, (.st 2), [.t 13, .t 41], none⟩]) c_hand_weave_b_p4)) c_hand_weave_b_p5)
abbrev c_hand_weave_b_p7 : VC := (.seq (.ops 0 [oo 39 (.bin .lss) [.t 38, .t 37]]) (.seq (.cond (.t 39) .skip (.exit 2)) c_hand_weave_b_p6))
@[go_sem] abbrev w_hand_weave_b_p7 : Nat := 1125625028945920
abbrev c_hand_weave_b_p9 : VC := (.ops 11 [oo 60 .mv [.t 7], oo 61 .mv [.t 7], oo 62 .nilck [.t 61], oo 63 (.fldA 12) [.t 62], oo 64 .ld1 [.t 63], oo 65 .mv [.t 11], ⟨(some 66), none, (.mksl 1 1 [(.sl 0 [] .exact)] [(0, 1)]), [.t 65], none⟩, oo 67 (.appM 22 1 24) [.t 64, .t 66], oo 68 .nilck [.t 60], oo 69 (.fldA 12) [.t 68], ⟨none, none, (.st 1), [.t 69, .t 67], none⟩])
abbrev c_hand_weave_b_p10 : VC := (.seq (.ops 11 [oo 50 .mv [.t 7], oo 51 .mv [.t 7], oo 52 .nilck [.t 51], oo 53 (.fldA 11) [.t 52], oo 54 .ld1 [.t 53], oo 55 .mv [.t 10], ⟨(some 56), none, (.mksl 1 1 [(.sl 0 [] .exact)] [(0, 1)]), [.t 55], none⟩, oo 57 (.appM 38 1 24) [.t 54, .t 56], oo 58 .nilck [.t 50], oo 59 (.fldA 11) [.t 58], ⟨none, none, (.st 1), [.t 59, .t 57], none⟩]) c_hand_weave_b_p9)
abbrev c_hand_weave_b_p11 : VC := (.seq (.seq (.ops 0 [oo 36 .mv [.t 10], oo 37 .len [.t 36], oo 38 .mv [kk 0]]) (.block 2 (.loop c_hand_weave_b_p7))) c_hand_weave_b_p10)
abbrev c_hand_weave_b_p12 : VC := (.seq (.ops 0 [oo 11 .mv [(.c (.sl 0 [] .exact))]]) c_hand_weave_b_p11)
abbrev c_hand_weave_b_p13 : VC := (.seq (.seq (.ops 0 [oo 33 .mv [.t 10], oo 34 .len [.t 33], oo 35 (.bin .gtr) [.t 34, kk 200]]) (.cond (.t 35) c_hand_weave_b_p3 .skip)) c_hand_weave_b_p12)
abbrev c_hand_weave_b_p14 : VC := (.seq (.ops 0 [oo 30 (.ldA 10) [.t 2], oo 31 (.ldA 3) [.t 9], oo 32 (.call 71) [.t 30, .t 31], oo 10 .mv [.t 32]]) c_hand_weave_b_p13)
abbrev c_hand_weave_b_p15 : VC := (.ops 0 [oo 70 (.bin .add) [.t 26, kk 1], oo 26 .mv [.t 70]])
abbrev c_hand_weave_b_p16 : VC := (.seq (.block 1 (.seq (.ops 4 [oo 28 (.ixA 3) [.t 24, .t 26], oo 29 (.ldA 3) [.t 28], ⟨(some 9), none, (.alloc 47 [(.sl 0 [] .exact), (.sl 0 [] .exact), (.sl 0 [] .exact)]), [], none⟩, ⟨none, none, (.st 3), [.t 9, .t 29], none⟩]) c_hand_weave_b_p14)) c_hand_weave_b_p15)
abbrev c_hand_weave_b_p17 : VC := (.seq (.ops 0 [oo 27 (.bin .lss) [.t 26, .t 25]]) (.seq (.cond (.t 27) .skip (.exit 0)) c_hand_weave_b_p16))
@[go_sem] abbrev w_hand_weave_b_p17 : Nat := 2361183241434755509808
abbrev c_hand_weave_b_p19 : VC := (.seq (.ops 0 [oo 73 .mv [.t 7], oo 4 .mv [.t 73], oo 5 .mv [kk 0]]) .ret)
abbrev c_hand_weave_b_p20 : VC := (.seq (.ops 0 [oo 71 .mv [.t 7], oo 72 (.call 103) [.t 71]]) c_hand_weave_b_p19)
abbrev c_hand_weave_b_p21 : VC := (.seq (.seq (.ops 0 [oo 24 .mv [.t 1], oo 25 .len [.t 24], oo 26 .mv [kk 0]]) (.block 0 (.loop c_hand_weave_b_p17))) c_hand_weave_b_p20)
abbrev c_hand_weave_b_p22 : VC := (.seq (.ops 5 [oo 20 (.ldA 10) [.t 2], oo 21 .mv [.t 1], ⟨(some 22), none, (.build [(.sl 0 [] .exact), (.sl 0 [] .exact), (.sl 0 [] .exact), li 0, li 0, li 0, li 0, li 0, li 0, li 0, (.sl 0 [] .exact), (.sl 0 [] .exact), (.sl 0 [] .exact), (.sl 0 [] .exact)] [(0, 10), (10, 1)]), [.t 20, .t 21], none⟩, oo 23 (.box 123) [.t 22], oo 7 .mv [.t 23]]) c_hand_weave_b_p21)
abbrev c_hand_weave_b_p23 : VC := (.seq (.seq (.ops 0 [oo 14 (.ldA 10) [.t 2], oo 15 .mv [.t 1], oo 16 (.call 102) [.t 14, .t 15], oo 6 .mv [.t 16]]) c_hand_weave_b_p2) c_hand_weave_b_p22)
def c_hand_weave_b : VC := (.seq (.ops 3 [oo 2 (.box 25) [.t 0], oo 4 .mv [(.c (.lit (.pointer none)))], oo 5 .mv [kk 0]]) c_hand_weave_b_p23)
theorem k_hand_weave_b : Comp Try.prog (fun n => [57,1000057,67,1000067].contains n) gtab 69 74 c_hand_weave_b [.t 4, .t 5] := ⟨⟨Try.f69, _, Try.func69, rfl, rfl, kr, kr⟩⟩
abbrev c_hand_net_settle_p1 : VC := (.ops 0 [oo 46 .ld1 [.t 4], ⟨none, none, (.st 1), [.t 5, .t 46], none⟩])
abbrev c_hand_net_settle_p2 : VC := (.ops 17 [od 52 .ld1 [.t 1] [], oo 53 .nilck [.t 52], oo 54 (.fldA 13) [.t 53], od 55 .ld1 [.t 54] [0, 1, 2], od 56 .ld1 [.t 2] [], od 57 .ld1 [.t 1] [], oo 58 .nilck [.t 57], oo 59 (.fldA 13) [.t 58], od 60 .ld1 [.t 59] [5, 6, 7], od 61 .ld1 [.t 2] [], oo 62 (.ixA 1) [.t 60, .t 61], od 63 .ld1 [.t 62] [5, 6, 7, 8, 9, 10], od 64 .ld1 [.t 5] [], oo 65 (.mksl 1 1 [li 0] [(0, 1)]) [.t 64], od 66 (.app 3 1 8) [.t 63, .t 65] [5, 6, 7, 8, 9, 10, 11, 12, 13], oo 67 (.ixA 1) [.t 55, .t 56], ⟨none, none, (.st 1), [.t 67, .t 66], none⟩])
def c_hand_net_settle_p3 : VC := (.seq (.ops 0 [oo 47 .ld1 [.t 1], oo 48 .ld1 [.t 2], oo 49 .mv [.t 3], oo 50 (.mkfn 131) [.t 4, .t 1, .t 2, .t 5], oo 51 (.call 88) [.t 47, .t 48, .t 49, .t 50]]) c_hand_net_settle_p2)
abbrev c_hand_net_settle_p4 : VC := (.seq (.seq (.ops 0 [od 38 .ld1 [.t 2] [], od 39 .ld1 [.t 1] [], oo 40 .nilck [.t 39], oo 41 (.fldA 10) [.t 40], od 42 .ld1 [.t 41] [1, 2, 3], oo 43 .len [.t 42], oo 44 (.bin .sub) [.t 43, kk 1], oo 45 (.bin .eql) [.t 38, .t 44]]) (.cond (.t 45) c_hand_net_settle_p1 .skip)) c_hand_net_settle_p3)
abbrev c_hand_net_settle_p5 : VC := (.seq (.ops 2 [oo 5 (.alloc 3 [li 0]) [], ⟨none, none, (.st 1), [.t 5, kk (-1)], none⟩]) c_hand_net_settle_p4)
abbrev c_hand_net_settle_p6 : VC := (.ops 0 [oo 68 (.bin .add) [.t 33, kk 1], oo 33 .mv [.t 68]])
abbrev c_hand_net_settle_p7 : VC := (.seq (.block 3 (.seq (.ops 6 [oo 35 .mv [.t 33], oo 36 (.ixA 1) [.t 31, .t 33], oo 37 .ld1 [.t 36], oo 4 (.alloc 3 [li 0]) [], oo 3 .mv [.t 35], ⟨none, none, (.st 1), [.t 4, .t 37], none⟩]) c_hand_net_settle_p5)) c_hand_net_settle_p6)
abbrev c_hand_net_settle_p8 : VC := (.seq (.ops 0 [oo 34 (.bin .lss) [.t 33, .t 32]]) (.seq (.cond (.t 34) .skip (.exit 2)) c_hand_net_settle_p7))
@[go_sem] abbrev w_hand_net_settle_p8 : Nat := 590295810350115717176
abbrev c_hand_net_settle_p10 : VC := (.ops 2 [oo 2 (.alloc 3 [li 0]) [], ⟨none, none, (.st 1), [.t 2, .t 69], none⟩])
abbrev c_hand_net_settle_p11 : VC := (.ops 0 [oo 23 .ld1 [.t 2], oo 24 (.bin .sub) [.t 23, kk 1], ⟨none, none, (.st 1), [.t 2, .t 24], none⟩])
abbrev c_hand_net_settle_p12 : VC := (.seq (.seq (.ops 0 [oo 69 .ld1 [.t 2]]) c_hand_net_settle_p10) c_hand_net_settle_p11)
abbrev c_hand_net_settle_p13 : VC := (.seq (.block 1 (.seq (.ops 0 [od 25 .ld1 [.t 1] [], oo 26 .nilck [.t 25], oo 27 (.fldA 12) [.t 26], od 28 .ld1 [.t 27] [0, 1, 2], od 29 .ld1 [.t 2] [], oo 30 (.ixA 1) [.t 28, .t 29], oo 31 .ld1 [.t 30], oo 32 .len [.t 31], oo 33 .mv [kk 0]]) (.block 2 (.loop c_hand_net_settle_p8)))) c_hand_net_settle_p12)
abbrev c_hand_net_settle_p14 : VC := (.seq (.seq (.ops 0 [oo 21 .ld1 [.t 2], oo 22 (.bin .geq) [.t 21, kk 0]]) (.cond (.t 22) .skip (.exit 0))) c_hand_net_settle_p13)
@[go_sem] abbrev w_hand_net_settle_p14 : Nat := 1180591620717409206332
abbrev c_hand_net_settle_p16 : VC := (.seq (.ops 8 [oo 15 .ld1 [.t 1], oo 16 .nilck [.t 15], oo 17 (.fldA 10) [.t 16], oo 18 .ld1 [.t 17], oo 19 .len [.t 18], oo 20 (.bin .sub) [.t 19, kk 1], oo 2 (.alloc 3 [li 0]) [], ⟨none, none, (.st 1), [.t 2, .t 20], none⟩]) (.block 0 (.loop c_hand_net_settle_p14)))
abbrev c_hand_net_settle_p17 : VC := (.seq (.ops 10 [od 6 .ld1 [.t 1] [], od 7 .ld1 [.t 1] [], oo 8 .nilck [.t 7], oo 9 (.fldA 10) [.t 8], od 10 .ld1 [.t 9] [1, 2, 3], oo 11 .len [.t 10], ⟨(some 12), none, (.mk 22 1 24 [(.sl 0 [] .exact)]), [.t 11, .t 11], (some [1, 2, 3, 4, 5])⟩, oo 13 .nilck [.t 6], oo 14 (.fldA 13) [.t 13], ⟨none, none, (.st 1), [.t 14, .t 12], none⟩]) c_hand_net_settle_p16)
def c_hand_net_settle : VC := (.seq (.ops 1 [oo 1 (.box 104) [.t 0]]) c_hand_net_settle_p17)
theorem k_hand_net_settle : Comp Try.prog nobx gtab 103 70 c_hand_net_settle [] := ⟨⟨Try.f103, _, Try.func103, rfl, rfl, kr, kr⟩⟩
abbrev c_hand_net_settle_1_p1 : VC := (.ops 0 [oo 31 .mv [.t 8], ⟨none, none, (.st 1), [.t 5, .t 31], none⟩])
abbrev c_hand_net_settle_1_p2 : VC := (.seq (.ops 0 [oo 24 .ld1 [.t 5], oo 25 (.bin .eql) [.t 24, kk (-1)], oo 26 .mv [.t 25], og 27 26 false .mv [.t 8], og 28 26 false .ld1 [.t 5], og 29 26 false (.bin .lss) [.t 27, .t 28], oo 30 .pick [.t 26, (.c (.lit (.bool true))), .t 29]]) (.cond (.t 30) c_hand_net_settle_1_p1 .skip))
def c_hand_net_settle_1 : VC := (.seq (.ops 0 [od 9 .ld1 [.t 2] [], oo 10 .mv [.t 1], oo 11 (.bin .add) [.t 9, .t 10], od 12 .ld1 [.t 3] [], oo 13 .nilck [.t 12], oo 14 (.fldA 13) [.t 13], od 15 .ld1 [.t 14] [3, 4, 5], od 16 .ld1 [.t 4] [], oo 17 (.bin .add) [.t 16, kk 1], oo 18 (.ixA 1) [.t 15, .t 17], od 19 .ld1 [.t 18] [3, 4, 5, 6, 7, 8, 9], oo 20 .mv [.t 0], oo 21 (.ixA 1) [.t 19, .t 20], od 22 .ld1 [.t 21] [3, 4, 5, 6, 7, 8, 9, 10, 11, 12], oo 23 (.bin .add) [.t 11, .t 22], oo 8 .mv [.t 23]]) c_hand_net_settle_1_p2)
theorem k_hand_net_settle_1 : Comp Try.prog nobx gtab 131 32 c_hand_net_settle_1 [] := ⟨⟨Try.f131, _, Try.func131, rfl, rfl, kr, kr⟩⟩
abbrev c_hand_net_ways_p1 : VC := (.ops 0 [oo 45 .mv [.t 3], oo 46 .mv [.t 8], oo 47 .mv [.t 10], oo 48 .callv [.t 45, .t 46, .t 47]])
abbrev c_hand_net_ways_p2 : VC := (.seq (.ops 0 [oo 44 .mv [.t 11]]) (.cond (.t 44) c_hand_net_ways_p1 .skip))
abbrev c_hand_net_ways_p3 : VC := (.seq (.ops 0 [oo 37 .mv [.t 0], oo 38 .mv [.t 1], oo 39 .mv [.t 2], oo 40 .mv [.t 8], oo 41 (.call 94) [.t 37, .t 38, .t 39, .t 40], oo 36 .mv [.t 41], oo 42 (.ext 0) [.t 36], oo 43 (.ext 1) [.t 36], oo 10 .mv [.t 42], oo 11 .mv [.t 43]]) c_hand_net_ways_p2)
abbrev c_hand_net_ways_p4 : VC := (.seq (.seq (.ops 0 [oo 34 .mv [.t 9], oo 35 (.bin .eql) [.t 34, kk (-1)]]) (.cond (.t 35) (.exit 1) .skip)) c_hand_net_ways_p3)
abbrev c_hand_net_ways_p5 : VC := (.ops 0 [oo 49 (.bin .add) [.t 29, kk 1], oo 29 .mv [.t 49]])
abbrev c_hand_net_ways_p6 : VC := (.seq (.block 1 (.seq (.ops 0 [oo 31 .mv [.t 29], oo 32 (.ixA 1) [.t 27, .t 29], oo 33 .ld1 [.t 32], oo 8 .mv [.t 31], oo 9 .mv [.t 33]]) c_hand_net_ways_p4)) c_hand_net_ways_p5)
abbrev c_hand_net_ways_p7 : VC := (.seq (.ops 0 [oo 30 (.bin .lss) [.t 29, .t 28]]) (.seq (.cond (.t 30) .skip (.exit 0)) c_hand_net_ways_p6))
@[go_sem] abbrev w_hand_net_ways_p7 : Nat := 1125899369975552
abbrev c_hand_net_ways_p9 : VC := (.seq (.ops 0 [oo 20 .mv [.t 0], oo 21 .nilck [.t 20], oo 22 (.fldA 13) [.t 21], oo 23 .ld1 [.t 22], oo 24 .mv [.t 1], oo 25 (.bin .add) [.t 24, kk 1], oo 26 (.ixA 1) [.t 23, .t 25], oo 27 .ld1 [.t 26], oo 28 .len [.t 27], oo 29 .mv [kk 0]]) (.block 0 (.loop c_hand_net_ways_p7)))
def c_hand_net_ways : VC := (.seq (.seq (.ops 0 [oo 12 .mv [.t 1], oo 13 .mv [.t 0], oo 14 .nilck [.t 13], oo 15 (.fldA 10) [.t 14], oo 16 .ld1 [.t 15], oo 17 .len [.t 16], oo 18 (.bin .sub) [.t 17, kk 1], oo 19 (.bin .eql) [.t 12, .t 18]]) (.cond (.t 19) .ret .skip)) c_hand_net_ways_p9)
theorem k_hand_net_ways : Comp Try.prog nobx gtab 88 50 c_hand_net_ways [] := ⟨⟨Try.f88, _, Try.func88, rfl, rfl, kr, kr⟩⟩
abbrev c_hand_net_step_p1 : VC := (.seq (.ops 0 [oo 10 .mv [.t 0], oo 11 .nilck [.t 10], oo 12 (.fldA 0) [.t 11], od 13 (.ldA 10) [.t 12] [0, 1, 2], oo 14 .mv [.t 0], oo 15 .nilck [.t 14], oo 16 (.fldA 10) [.t 15], od 17 .ld1 [.t 16] [4, 5, 6], oo 18 .mv [.t 1], oo 19 (.ixA 3) [.t 17, .t 18], od 20 (.ldA 3) [.t 19] [4, 5, 6, 7, 8, 9], oo 21 .mv [.t 0], oo 22 .nilck [.t 21], oo 23 (.fldA 11) [.t 22], od 24 .ld1 [.t 23] [11, 12, 13], oo 25 .mv [.t 1], oo 26 (.ixA 1) [.t 24, .t 25], od 27 .ld1 [.t 26] [11, 12, 13, 14, 15, 16], oo 28 .mv [.t 2], oo 29 (.ixA 2) [.t 27, .t 28], od 30 (.ldA 2) [.t 29] [11, 12, 13, 14, 15, 16, 17, 18, 19], oo 31 .mv [.t 0], oo 32 .nilck [.t 31], oo 33 (.fldA 10) [.t 32], od 34 .ld1 [.t 33] [21, 22, 23], oo 35 .mv [.t 1], oo 36 (.bin .add) [.t 35, kk 1], oo 37 (.ixA 3) [.t 34, .t 36], od 38 (.ldA 3) [.t 37] [21, 22, 23, 24, 25, 26, 27], oo 39 .mv [.t 0], oo 40 .nilck [.t 39], oo 41 (.fldA 11) [.t 40], od 42 .ld1 [.t 41] [29, 30, 31], oo 43 .mv [.t 1], oo 44 (.bin .add) [.t 43, kk 1], oo 45 (.ixA 1) [.t 42, .t 44], od 46 .ld1 [.t 45] [29, 30, 31, 32, 33, 34, 35], oo 47 .mv [.t 3], oo 48 (.ixA 2) [.t 46, .t 47], od 49 (.ldA 2) [.t 48] [29, 30, 31, 32, 33, 34, 35, 36, 37, 38], oo 50 (.call 83) [.t 13, .t 20, .t 30, .t 38, .t 49], oo 51 (.ext 0) [.t 50], oo 52 (.ext 1) [.t 50], oo 8 .mv [.t 51], oo 9 .mv [.t 52]]) .ret)
def c_hand_net_step : VC := (.seq (.ops 0 [oo 8 .mv [kk 0], oo 9 .mv [(.c (.lit (.bool false)))]]) c_hand_net_step_p1)
theorem k_hand_net_step : Comp Try.prog nobx gtab 94 53 c_hand_net_step [.t 8, .t 9] := ⟨⟨Try.f94, _, Try.func94, rfl, rfl, kr, kr⟩⟩
abbrev c_hand_net_only_p1 : VC := (.ops 0 [oo 34 .mv [.t 0], oo 35 (.call 103) [.t 34]])
abbrev c_hand_net_only_p2 : VC := (.seq (.ops 0 [oo 14 .mv [.t 0], oo 15 .nilck [.t 14], oo 16 (.fldA 12) [.t 15], od 17 .ld1 [.t 16] [0, 1, 2], oo 18 .mv [.t 1], oo 19 .mv [.t 0], oo 20 .nilck [.t 19], oo 21 (.fldA 0) [.t 20], od 22 (.ldA 10) [.t 21] [5, 6, 7], oo 23 .mv [.t 0], oo 24 .nilck [.t 23], oo 25 (.fldA 10) [.t 24], od 26 .ld1 [.t 25] [9, 10, 11], oo 27 .mv [.t 1], oo 28 (.ixA 3) [.t 26, .t 27], od 29 (.ldA 3) [.t 28] [9, 10, 11, 12, 13, 14], od 30 (.ldA 2) [.t 5] [], od 31 (.call 81) [.t 22, .t 29, .t 30] [5, 6, 7, 8, 9, 10, 11, 12, 13, 14, 15, 16], oo 32 (.mksl 1 1 [li 0] [(0, 1)]) [.t 31], oo 33 (.ixA 1) [.t 17, .t 18], ⟨none, none, (.st 1), [.t 33, .t 32], none⟩]) c_hand_net_only_p1)
abbrev c_hand_net_only_p3 : VC := (.seq (.ops 0 [oo 6 .mv [.t 0], oo 7 .nilck [.t 6], oo 8 (.fldA 11) [.t 7], od 9 .ld1 [.t 8] [0, 1, 2], oo 10 .mv [.t 1], od 11 (.ldA 2) [.t 5] [], ⟨(some 12), none, (.mksl 1 2 [li 0, (.sl 0 [] .exact)] [(0, 2)]), [.t 11], none⟩, oo 13 (.ixA 1) [.t 9, .t 10], ⟨none, none, (.st 1), [.t 13, .t 12], none⟩]) c_hand_net_only_p2)
def c_hand_net_only : VC := (.seq (.ops 1 [oo 5 (.box 53) [.t 2]]) c_hand_net_only_p3)
theorem k_hand_net_only : Comp Try.prog nobx gtab 79 36 c_hand_net_only [] := ⟨⟨Try.f79, _, Try.func79, rfl, rfl, kr, kr⟩⟩
end Go.Proofs.Ytojjdkoglhecbaa
namespace Go.Proofs.Ytojjdkoglhecbaa
open Go.RowKit
set_option maxRecDepth 100000

abbrev c_theorbolaw06_Heavy_p1 : VC := (.seq (.ops 0 [oo 4 .mv [(.c (.lit (.bool false)))]]) .ret)
abbrev c_theorbolaw06_Heavy_p2 : VC := (.seq (.ops 0 [oo 4 .mv [(.c (.lit (.bool true)))]]) .ret)
abbrev c_theorbolaw06_Heavy_p3 : VC := (.seq (.ops 0 [oo 4 .mv [(.c (.lit (.bool false)))]]) .ret)
abbrev c_theorbolaw06_Heavy_p4 : VC := (.ops 0 [oo 44 .mv [.t 8], oo 45 .len [.t 44], oo 6 .mv [.t 45]])
abbrev c_theorbolaw06_Heavy_p5 : VC := (.seq (.ops 0 [oo 38 .mv [.t 5], oo 39 .mv [.t 6], oo 40 .mv [.t 8], oo 41 .len [.t 40], oo 42 (.bin .mul) [.t 39, .t 41], oo 43 (.bin .add) [.t 38, .t 42], oo 5 .mv [.t 43]]) c_theorbolaw06_Heavy_p4)
abbrev c_theorbolaw06_Heavy_p6 : VC := (.seq (.seq (.ops 0 [oo 36 .mv [.t 9], oo 37 (.bin .neq) [.t 36, kk 0]]) (.cond (.t 37) c_theorbolaw06_Heavy_p3 .skip)) c_theorbolaw06_Heavy_p5)
abbrev c_theorbolaw06_Heavy_p7 : VC := (.ops 0 [oo 25 .mv [.t 7], oo 26 (.bin .add) [.t 25, kk 1], oo 7 .mv [.t 26]])
abbrev c_theorbolaw06_Heavy_p8 : VC := (.seq (.block 1 (.seq (.ops 0 [od 28 (.ldA 10) [.t 2] [], oo 29 .mv [.t 1], oo 30 .mv [.t 7], oo 31 (.ixA 3) [.t 29, .t 30], od 32 (.ldA 3) [.t 31] [1, 2, 3], oo 33 (.call 33) [.t 28, .t 32], oo 27 .mv [.t 33], oo 34 (.ext 0) [.t 27], oo 35 (.ext 1) [.t 27], oo 8 .mv [.t 34], oo 9 .mv [.t 35]]) c_theorbolaw06_Heavy_p6)) c_theorbolaw06_Heavy_p7)
abbrev c_theorbolaw06_Heavy_p9 : VC := (.seq (.seq (.ops 0 [oo 21 .mv [.t 7], oo 22 .mv [.t 1], oo 23 .len [.t 22], oo 24 (.bin .lss) [.t 21, .t 23]]) (.cond (.t 24) .skip (.exit 0))) c_theorbolaw06_Heavy_p8)
@[go_sem] abbrev w_theorbolaw06_Heavy_p9 : Nat := 70368742081520
abbrev c_theorbolaw06_Heavy_p11 : VC := (.seq (.ops 0 [oo 46 .mv [.t 5], oo 47 (.bin .gtr) [.t 46, kk 6000], oo 4 .mv [.t 47]]) .ret)
abbrev c_theorbolaw06_Heavy_p12 : VC := (.seq (.seq (.ops 0 [oo 7 .mv [kk 0]]) (.block 0 (.loop c_theorbolaw06_Heavy_p9))) c_theorbolaw06_Heavy_p11)
abbrev c_theorbolaw06_Heavy_p13 : VC := (.seq (.ops 0 [oo 5 .mv [kk 0], oo 6 .mv [kk 0]]) c_theorbolaw06_Heavy_p12)
abbrev c_theorbolaw06_Heavy_p14 : VC := (.seq (.seq (.ops 0 [oo 18 .mv [.t 1], oo 19 .len [.t 18], oo 20 (.bin .gtr) [.t 19, kk 24]]) (.cond (.t 20) c_theorbolaw06_Heavy_p2 .skip)) c_theorbolaw06_Heavy_p13)
abbrev c_theorbolaw06_Heavy_p15 : VC := (.seq (.seq (.ops 0 [oo 10 (.ldA 10) [.t 2], oo 11 (.call 25) [.t 10], oo 12 (.bin .neq) [.t 11, kk 0], oo 13 .mv [.t 12], og 14 13 false .mv [.t 1], og 15 13 false (.call 27) [.t 14], og 16 13 false (.bin .neq) [.t 15, kk 0], oo 17 .pick [.t 13, (.c (.lit (.bool true))), .t 16]]) (.cond (.t 17) c_theorbolaw06_Heavy_p1 .skip)) c_theorbolaw06_Heavy_p14)
def c_theorbolaw06_Heavy : VC := (.seq (.ops 2 [oo 2 (.box 25) [.t 0], oo 4 .mv [(.c (.lit (.bool false)))]]) c_theorbolaw06_Heavy_p15)
theorem k_theorbolaw06_Heavy : Comp Try.prog nobx gtab 29 48 c_theorbolaw06_Heavy [.t 4] := ⟨⟨Try.f29, _, Try.func29, rfl, rfl, kr, kr⟩⟩
end Go.Proofs.Ytojjdkoglhecbaa
namespace Go.Proofs.Ytojjdkoglhecbaa
open Go.RowKit
set_option linter.unusedSimpArgs false
set_option linter.unusedVariables false

theorem mem_getD {α : Type} {l : List α} {k : Nat} (d : α) (hk : k < l.length) : l.getD k d ∈ l := by
  rw [List.getD_eq_getElem?_getD, List.getElem?_eq_getElem hk]; exact List.getElem_mem hk
/-- A net: a sequence that is valid, with grips of each chord that fit it. -/
structure NetOk (h : Hand) (l : List Chord) (Gs : List (List Grip)) : Prop where
  hk : HandOk h
  fits : Fits l
  seq : SeqOk l
  len : l.length ≤ 400
  gl : Gs.length = l.length
  fit : ∀ i, i < l.length → ∀ g ∈ Gs.getD i [], FitG h (l.getD i noC) g
  cnt : ∀ i, (Gs.getD i []).length ≤ 200

theorem NetOk.at {h : Hand} {l : List Chord} {Gs : List (List Grip)} (hn : NetOk h l Gs) {i k : Nat} (hi : i < l.length) (hk : k < (Gs.getD i []).length) : FitG h (l.getD i noC) ((Gs.getD i []).getD k noG) :=
  hn.fit i hi _ (mem_getD _ hk)
/-- What is known of a grip that fits. -/
theorem NetOk.grip {h : Hand} {l : List Chord} {Gs : List (List Grip)} (hn : NetOk h l Gs) {i k : Nat} (hi : i < l.length) (hk : k < (Gs.getD i []).length) :
    (1 ≤ ((Gs.getD i []).getD k noG).pos ∧ ((Gs.getD i []).getD k noG).pos ≤ 18) ∧ ((Gs.getD i []).getD k noG).fingers.length = (l.getD i noC).down.length := by
  have h1 := hn.at hi hk
  have h2 := hn.hk.top
  have h3 := h1.pos
  exact ⟨⟨h3.1, by omega⟩, h1.len⟩

/-- The least cost from a grip to the end, by the steps to the first m grips of the next chord (-1: there is none). -/
noncomputable def bsU (h : Hand) (a : Chord) (g : Grip) (b : Chord) (K : List Grip) (N : List Int) : Nat → Int
  | 0 => -1
  | m + 1 => if N.getD m 0 = -1 then bsU h a g b K N m else if (stepR h a g b (K.getD m noG)).2 = true then
      (if bsU h a g b K N m = -1 ∨ ownC h a g + stepC h a g b (K.getD m noG) + N.getD m 0 < bsU h a g b K N m then ownC h a g + stepC h a g b (K.getD m noG) + N.getD m 0 else bsU h a g b K N m)
    else bsU h a g b K N m
/-- The element of a grip. -/
noncomputable def rsE (h : Hand) (l : List Chord) (Gs : List (List Grip)) (i : Nat) (N : List Int) (g : Grip) : Int :=
  if i + 1 = l.length then ownC h (l.getD i noC) g else bsU h (l.getD i noC) g (l.getD (i + 1) noC) (Gs.getD (i + 1) []) N (Gs.getD (i + 1) []).length
/-- The last j rows. -/
noncomputable def rsU (h : Hand) (l : List Chord) (Gs : List (List Grip)) : Nat → List Int
  | 0 => []
  | j + 1 => (Gs.getD (l.length - 1 - j) []).map (rsE h l Gs (l.length - 1 - j) (rsU h l Gs j))
/-- The row of a chord. -/
noncomputable def rsT (h : Hand) (l : List Chord) (Gs : List (List Grip)) (i : Nat) : List Int := rsU h l Gs (l.length - i)
/-- The whole table. -/
noncomputable def rsA (h : Hand) (l : List Chord) (Gs : List (List Grip)) : List (List Int) := (List.range l.length).map (rsT h l Gs)

section
variable {h : Hand} {l : List Chord} {Gs : List (List Grip)}
theorem rsT_eq {i : Nat} (hi : i < l.length) : rsT h l Gs i = (Gs.getD i []).map (rsE h l Gs i (rsT h l Gs (i + 1))) := by
  rw [rsT, show l.length - i = (l.length - (i + 1)) + 1 by omega, rsU, show l.length - 1 - (l.length - (i + 1)) = i by omega]
  rfl
theorem rsT_len {i : Nat} (hi : i < l.length) : (rsT h l Gs i).length = (Gs.getD i []).length := by rw [rsT_eq hi, List.length_map]
theorem getD_map {α β : Type} (f : α → β) (l : List α) (d : α) (e : β) {k : Nat} (hk : k < l.length) : (l.map f).getD k e = f (l.getD k d) := by
  simp [List.getD_eq_getElem?_getD, List.getElem?_map, List.getElem?_eq_getElem hk]
theorem rsT_at {i k : Nat} (hi : i < l.length) (hk : k < (Gs.getD i []).length) : (rsT h l Gs i).getD k 0 = rsE h l Gs i (rsT h l Gs (i + 1)) ((Gs.getD i []).getD k noG) := by
  rw [rsT_eq hi, getD_map _ _ noG _ hk]
theorem rsA_len : (rsA h l Gs).length = l.length := by simp [rsA]
theorem rsA_at {i : Nat} (hi : i < l.length) : (rsA h l Gs).getD i [] = rsT h l Gs i := by
  rw [rsA, List.getD_eq_getElem?_getD, List.getElem?_map, List.getElem?_range hi]; rfl

/-- A number of a table, with n chords to go. -/
def InT (n : Nat) (x : Int) : Prop := x = -1 ∨ (0 ≤ x ∧ x ≤ 509000 * n)
theorem bsU_bound {n : Nat} {a : Chord} {g : Grip} {b : Chord} {K : List Grip} {N : List Int} (ho : 0 ≤ ownC h a g ∧ ownC h a g ≤ 404000) (hN : ∀ m, m < K.length → InT n (N.getD m 0))
    (hs : ∀ m, m < K.length → 0 ≤ stepC h a g b (K.getD m noG) ∧ stepC h a g b (K.getD m noG) ≤ 105000) : ∀ {m : Nat}, m ≤ K.length → InT (n + 1) (bsU h a g b K N m)
  | 0, _ => .inl rfl
  | m + 1, hm => by
    have ih := bsU_bound ho hN hs (m := m) (by omega)
    have h1 := hN m (by omega)
    have h2 := hs m (by omega)
    rw [bsU]
    split
    · exact ih
    · rename_i hne
      split
      · split
        · rcases h1 with h1 | h1
          · exact absurd h1 hne
          · exact .inr ⟨by omega, by omega⟩
        · exact ih
      · exact ih
theorem own_bound (hk : HandOk h) {c : Chord} (hc : ChordOk c) {g : Grip} (hp : 1 ≤ g.pos ∧ g.pos ≤ 18) : 0 ≤ ownC h c g ∧ ownC h c g ≤ 404000 := by
  have n4 := hk.n4
  have ho := ownU_bound hk hc hp (k := h.low.length) (Nat.le_refl _)
  rw [ownC]; omega
theorem rsT_bound (hn : NetOk h l Gs) : ∀ (j i : Nat), l.length - i = j → i < l.length → ∀ k, k < (Gs.getD i []).length → InT j ((rsT h l Gs i).getD k 0)
  | 0, i, hj, hi => by omega
  | j + 1, i, hj, hi => by
    intro k hk
    rw [rsT_at hi hk, rsE]
    have hg := hn.grip hi hk
    have ho := own_bound hn.hk (hn.seq i hi).1 hg.1
    split
    · exact .inr ⟨ho.1, by omega⟩
    · have hi1 : i + 1 < l.length := by omega
      exact bsU_bound ho (fun m hm => rsT_bound hn j (i + 1) (by omega) hi1 m hm) (fun m hm => stepC_bound hn.hk hg.1 (hn.grip hi1 hm).1) (Nat.le_refl _)
end

/-- What the search says of its arguments. -/
noncomputable def wvE (h : Hand) (l : List Chord) : Int := if bothE h l = 0 then (if ∀ k, k < l.length → (grpA h (l.getD k noC)).length ≤ 200 then 0 else 2) else bothE h l
/-- All grips of all chords. -/
noncomputable def tabG (h : Hand) (l : List Chord) : List (List Grip) := l.map (grpA h)
theorem tabG_at {h : Hand} {l : List Chord} {k : Nat} (hk : k < l.length) : (tabG h l).getD k [] = grpA h (l.getD k noC) := getD_map _ _ _ _ hk
theorem wv_ok {h : Hand} {l : List Chord} (hw : wvE h l = 0) : bothE h l = 0 ∧ ∀ k, k < l.length → (grpA h (l.getD k noC)).length ≤ 200 := by
  rw [wvE] at hw
  split at hw
  · rename_i hb
    split at hw
    · rename_i h1; exact ⟨hb, h1⟩
    · cases hw
  · rename_i hb; exact absurd hw hb
theorem wv_net {h : Hand} {l : List Chord} (hl : Fits l) (hw : wvE h l = 0) : NetOk h l (tabG h l) := by
  obtain ⟨hb, h1⟩ := wv_ok hw
  obtain ⟨hk, h4, hs⟩ := both_ok hb
  refine ⟨hk, hl, hs, h4, List.length_map _, fun i hi g hg => ?_, fun i => ?_⟩
  · rw [tabG_at hi] at hg; exact grpA_mem.1 hg
  · by_cases hi : i < l.length
    · rw [tabG_at hi]; exact h1 i hi
    · rw [List.getD_eq_getElem?_getD, List.getElem?_eq_none (by rw [tabG, List.length_map]; omega)]; simp
/-- The own costs. -/
noncomputable def owR (h : Hand) (l : List Chord) (Gs : List (List Grip)) (i : Nat) : List Int := (Gs.getD i []).map (ownC h (l.getD i noC))
noncomputable def owA (h : Hand) (l : List Chord) (Gs : List (List Grip)) : List (List Int) := (List.range l.length).map (owR h l Gs)
theorem owR_len (h : Hand) (l : List Chord) (Gs : List (List Grip)) (i : Nat) : (owR h l Gs i).length = (Gs.getD i []).length := List.length_map _
theorem owA_len (h : Hand) (l : List Chord) (Gs : List (List Grip)) : (owA h l Gs).length = l.length := by simp [owA]
theorem owA_at {h : Hand} {l : List Chord} {Gs : List (List Grip)} {i : Nat} (hi : i < l.length) : (owA h l Gs).getD i [] = owR h l Gs i := by
  rw [owA, List.getD_eq_getElem?_getD, List.getElem?_map, List.getElem?_range hi]; rfl
theorem owR_at {h : Hand} {l : List Chord} {Gs : List (List Grip)} {i k : Nat} (hk : k < (Gs.getD i []).length) : (owR h l Gs i).getD k 0 = ownC h (l.getD i noC) ((Gs.getD i []).getD k noG) := by
  rw [owR, getD_map _ _ noG _ hk]

/-! ### As values -/
def tGss (l : List (List Grip)) : V := .sl l.length (l.map tGs) .no
def tIss (l : List (List Int)) : V := .sl l.length (l.map tIs) .no
theorem pure_tGss (l : List (List Grip)) : (tGss l).pure = true := by rw [tGss, V.pure]; intro t h; cases h
theorem pure_tIss (l : List (List Int)) : (tIss l).pure = true := by rw [tIss, V.pure]; intro t h; cases h
/-- A net's cells. -/
def netC (h : Hand) (l : List Chord) (gv ov rv : V) : List V := [tIs h.low, tIs h.high, tBs h.barre, vint h.top, vint h.jump, vint h.shift, vint h.lift, vint h.bar, vint h.stretch, vint h.slide, tCs l, gv, ov, rv]
/-- A net that stands. -/
noncomputable def netE (h : Hand) (l : List Chord) (Gs : List (List Grip)) : V := .ept (netC h l (tGss Gs) (tIss (owA h l Gs)) (tIss (rsA h l Gs))) 0
theorem gss_at {l : List (List Grip)} {k : Nat} (hk : k < l.length) : (l.map tGs)[k]? = some (tGs (l.getD k [])) := by
  rw [List.getElem?_map, List.getD_eq_getElem?_getD, List.getElem?_eq_getElem hk]; rfl
theorem iss_at {l : List (List Int)} {k : Nat} (hk : k < l.length) : (l.map tIs)[k]? = some (tIs (l.getD k [])) := by
  rw [List.getElem?_map, List.getD_eq_getElem?_getD, List.getElem?_eq_getElem hk]; rfl
theorem gss_at' {l : List (List Grip)} {k : Nat} (hk : k < l.length) : (l.map tGs)[k]? = some (.sl (l.getD k []).length ((l.getD k []).flatMap Grip.cells) .no) := gss_at hk
theorem iss_at' {l : List (List Int)} {k : Nat} (hk : k < l.length) : (l.map tIs)[k]? = some (.sl (l.getD k []).length ((l.getD k []).map vint) .no) := iss_at hk
theorem put_same (m : Mm) (i : Nat) (a : AObj) : (m.put i a).obj i = some a := if_pos rfl
theorem put_other (m : Mm) {i q : Nat} (a : AObj) (h : q ≠ i) : (m.put i a).obj q = m.obj q := if_neg h
end Go.Proofs.Ytojjdkoglhecbaa
namespace Go.Proofs.Ytojjdkoglhecbaa
open Go.RowKit

theorem NetOk.follows {h : Hand} {l : List Chord} {Gs : List (List Grip)} (hn : NetOk h l Gs) {i : Nat} (hi : i + 1 < l.length) : Fol (l.getD i noC) (l.getD (i + 1) noC) := by
  have := (hn.seq (i + 1) hi).2 (by omega)
  rwa [Nat.add_sub_cancel] at this

set_option maxHeartbeats 1000000 in
theorem netstep_fn {h : Hand} {l : List Chord} {Gs : List (List Grip)} (hn : NetOk h l Gs) {ov rv : V} (ho : V.pures [ov, rv] = true) {i k m : Nat} (hi : i + 1 < l.length) (hk : k < (Gs.getD i []).length) (hm : m < (Gs.getD (i + 1) []).length) :
    Fn Try.prog Gd 94 [.ept (netC h l (tGss Gs) ov rv) 0, vint i, vint k, vint m]
      (.tup [vint (stepR h (l.getD i noC) ((Gs.getD i []).getD k noG) (l.getD (i + 1) noC) ((Gs.getD (i + 1) []).getD m noG)).1, vbool (stepR h (l.getD i noC) ((Gs.getD i []).getD k noG) (l.getD (i + 1) noC) ((Gs.getD (i + 1) []).getD m noG)).2]) := by
  refine Fn.of_vx0 k_hand_net_step (by simp) (by simp [V.pures, V.pure, vint]) ?_
  have hi0 : i < l.length := by omega
  have a1 := hn.grip hi0 hk
  have a2 := hn.grip hi hm
  have C1 := step_fn h hn.hk (l.getD i noC) (l.getD (i + 1) noC) (hn.seq i hi0).1 (hn.seq (i + 1) hi).1 (hn.follows hi) (hn.fits.at i) (hn.fits.at (i + 1)) _ _ a1.2 a2.2 a1.1 a2.1
  have h4 := hn.len
  have g1 := chs_take hi0
  have g2 := chs_take hi
  have g3 := chs_len l
  have c1 : i * 3 + 3 ≤ l.length * 3 := by omega
  have c2 : (i + 1) * 3 + 3 ≤ l.length * 3 := by omega
  have c3 : (i : Int) < (l.length : Int) := by omega
  have c4 : ((i + 1 : Nat) : Int) < (l.length : Int) := by omega
  have gl := hn.gl
  have g4 := gss_at (l := Gs) (k := i) (by omega)
  have g5 := gss_at (l := Gs) (k := i + 1) (by omega)
  have g6 := gs_take hk
  have g7 := gs_take hm
  have g8 := gs_len (Gs.getD i [])
  have g9 := gs_len (Gs.getD (i + 1) [])
  have c5 : k * 2 + 2 ≤ (Gs.getD i []).length * 2 := by omega
  have c6 : m * 2 + 2 ≤ (Gs.getD (i + 1) []).length * 2 := by omega
  have c7 : (k : Int) < ((Gs.getD i []).length : Int) := by omega
  have c8 : (m : Int) < ((Gs.getD (i + 1) []).length : Int) := by omega
  have w1 := w_add1 (k := i) (by omega)
  clear hi0 a1 a2 h4 hi hk hm hn
  unfold c_hand_net_step netC tGss tCs tGs
  unfold Hand.val Chord.val Chord.cells Grip.val Grip.cells at C1
  unfold tGs at g4 g5
  repeat' (with_reducible first | refine x_ops ?_ | refine wk ?_ | (with_reducible refine xc (C1) ?_) | ((first | refine gd1 ?_ ?_ | refine gd2 ?_ ?_ | refine gd3 ?_ ?_) <;> (first | exact @False.elim _ | intro hc)))
  exact finV_dry rfl vv

/-- A slice, what is known of its room forgotten. -/
def fgt : V → V
  | .sl n xs _ => .sl n xs .no
  | v => v
/-- Rows of a table that is being filled. -/
def Rows (L : List V) : Prop := ∀ v ∈ L, ∃ n xs tok, v = .sl n xs tok
theorem vws_rows {m : Mm} {S : Nat → Bool} : ∀ {L : List V}, Rows L → Vws m S L (L.map fgt)
  | [], _ => .nil
  | v :: L, h => by
    obtain ⟨n, xs, tok, rfl⟩ := h v (List.mem_cons_self ..)
    exact .cons (.sl _ _ _) (vws_rows fun u hu => h u (List.mem_cons_of_mem _ hu))
theorem fgt_one {L : List V} (h : Rows L) : (L.map fgt).all V.one = true := by
  rw [List.all_eq_true]
  intro v hv
  obtain ⟨u, hu, rfl⟩ := List.mem_map.1 hv
  obtain ⟨n, xs, tok, rfl⟩ := h u hu
  rfl
theorem rows_tGs (L : List (List Grip)) : Rows (L.map tGs) := fun v hv => by
  obtain ⟨g, _, rfl⟩ := List.mem_map.1 hv; exact ⟨_, _, _, rfl⟩
theorem rows_tIs (L : List (List Int)) : Rows (L.map tIs) := fun v hv => by
  obtain ⟨g, _, rfl⟩ := List.mem_map.1 hv; exact ⟨_, _, _, rfl⟩
theorem fgt_tGs (L : List (List Grip)) : (L.map tGs).map fgt = L.map tGs := by
  rw [List.map_map]; exact List.map_congr_left fun g _ => rfl
theorem fgt_tIs (L : List (List Int)) : (L.map tIs).map fgt = L.map tIs := by
  rw [List.map_map]; exact List.map_congr_left fun g _ => rfl

/-- A net in memory. -/
structure NetM (h : Hand) (l : List Chord) (Gs : List (List Grip)) (b gq oq rq : Nat) (rows : List V) (M : Mm) : Prop where
  b : M.obj b = some (.box (netC h l (.gsl gq l.length 1) (.gsl oq l.length 1) (.bsl rq 0 l.length l.length)) 123)
  g : M.obj gq = some (.box (Gs.map tGs) 38)
  o : M.obj oq = some (.box ((owA h l Gs).map tIs) 22)
  r : M.obj rq = some (.box rows 22)
  rows : Rows rows
theorem vw_net {h : Hand} {l : List Chord} {Gs : List (List Grip)} (gl : Gs.length = l.length) {b gq oq rq : Nat} {rows : List V} {M : Mm} (hm : NetM h l Gs b gq oq rq rows M) :
    Vw M allS (.ptr b 0) (.ept (netC h l (tGss Gs) (tIss (owA h l Gs)) (.sl l.length (rows.map fgt) .no)) 0) := by
  refine .ptr rfl hm.b ?_ ?_
  · have hg : Vw M allS (.gsl gq l.length 1) (tGss Gs) := by
      rw [tGss, gl]
      exact .gsl rfl hm.g (by have := vws_rows (m := M) (S := allS) (rows_tGs Gs); rwa [fgt_tGs] at this) (by have := fgt_one (rows_tGs Gs); rwa [fgt_tGs] at this)
    have ho : Vw M allS (.gsl oq l.length 1) (tIss (owA h l Gs)) := by
      rw [tIss, owA_len]
      exact .gsl rfl hm.o (by have := vws_rows (m := M) (S := allS) (rows_tIs (owA h l Gs)); rwa [fgt_tIs] at this) (by have := fgt_one (rows_tIs (owA h l Gs)); rwa [fgt_tIs] at this)
    have hr : Vw M allS (.bsl rq 0 l.length l.length) (.sl l.length (rows.map fgt) .no) := .bsl rfl hm.r (vws_rows hm.rows) (fgt_one hm.rows)
    exact .cons (.sl _ _ _) (.cons (.sl _ _ _) (.cons (.sl _ _ _) (.cons (.lit _) (.cons (.lit _) (.cons (.lit _) (.cons (.lit _) (.cons (.lit _) (.cons (.lit _) (.cons (.lit _) (.cons (.sl _ _ _) (.cons hg (.cons ho (.cons hr .nil)))))))))))))
  · rfl
theorem pure_fgt {n : Nat} {L : List V} (v : List (List Int)) : V.pures [tIss v, .sl n L .no] = true := by
  rw [V.pures, pure_tIss, V.pures, V.pures, V.pure]
  · rfl
  · intro t h; cases h

set_option maxHeartbeats 2000000 in
/-- THE WAYS from a grip, in memory: what is called for each of them is a function value that takes J from one to the next. -/
theorem ways_sfn {h : Hand} {l : List Chord} {Gs : List (List Grip)} (hn : NetOk h l Gs) {i k : Nat} (hi : i < l.length) (hk : k < (Gs.getD i []).length) (b gq oq rq : Nat) (rows : List V) (N : List Int) (f : FuncId) (cs : List V) (hc : callable Try.prog f = true)
    (J : Nat → Mm → Prop) (m : Mm) (hN : i + 1 < l.length → N.length = (Gs.getD (i + 1) []).length ∧ ∃ tok, rows[i + 1]? = some (.sl N.length (N.map vint) tok))
    (hM : ∀ j M, J j M → NetM h l Gs b gq oq rq rows M) (h0 : J 0 m) (hJ : ∀ j, j ≤ N.length → ∃ M, J j M)
    (hF : ∀ j M, J j M → i + 1 < l.length → j < N.length → ¬ N.getD j 0 = -1 → (stepR h (l.getD i noC) ((Gs.getD i []).getD k noG) (l.getD (i + 1) noC) ((Gs.getD (i + 1) []).getD j noG)).2 = true →
      SFn Try.prog Gd f (vint j :: vint (stepR h (l.getD i noC) ((Gs.getD i []).getD k noG) (l.getD (i + 1) noC) ((Gs.getD (i + 1) []).getD j noG)).1 :: cs) M fun r M' => r = .tup [] ∧ J (j + 1) M')
    (hS : ∀ j M, J j M → i + 1 < l.length → j < N.length → (N.getD j 0 = -1 ∨ (stepR h (l.getD i noC) ((Gs.getD i []).getD k noG) (l.getD (i + 1) noC) ((Gs.getD (i + 1) []).getD j noG)).2 = false) → J (j + 1) M) :
    SFn Try.prog Gd 88 [.ptr b 0, vint i, vint k, .fn f cs] m fun r M => r = .tup [] ∧ J (if i + 1 = l.length then 0 else N.length) M := by
  refine SFn.of_vxS k_hand_net_ways (by simp) ?_
  have h4 := hn.len
  have hm0 := hM 0 m h0
  have o1 := hm0.b
  have w1 : IntKind.i64.wrap ((l.length : Int) - 1) = (l.length : Int) - 1 := w_in (by omega)
  unfold c_hand_net_ways
  unfold netC tCs at o1
  by_cases hlast : i + 1 = l.length
  · rw [if_pos hlast]
    have e1 : ((i : Int) == (l.length : Int) - 1) = true := by rw [beq_iff_eq]; omega
    replace h0 := Hid.mk h0
    clear hF hS hM hJ hm0 hN
    repeat' (with_reducible first | refine x_ops ?_ | refine wk ?_ | ((first | refine gd1 ?_ ?_ | refine gd2 ?_ ?_ | refine gd3 ?_ ?_) <;> (first | exact @False.elim _ | intro hc)))
    exact finS_ret vv ⟨rfl, h0.out⟩
  rw [if_neg hlast]
  have hi1 : i + 1 < l.length := by omega
  obtain ⟨hNl, tok, hrow⟩ := hN hi1
  have e1 : ((i : Int) == (l.length : Int) - 1) = false := by rw [beq_eq_false_iff_ne]; omega
  have w2 := w_add1 (k := i) (by omega)
  have c1 : ((i + 1 : Nat) : Int) < (l.length : Int) := by omega
  have o2 := hm0.r
  have hcnt := hn.cnt (i + 1)
  replace hNl := Hid.mk hNl
  have NS := fun j (hj : j < N.length) => netstep_fn hn (pure_fgt (n := l.length) (L := rows.map fgt) (owA h l Gs)) (i := i) (k := k) (m := j) hi1 hk (by have := hNl.out; omega)
  replace hlast := Hid.mk hlast
  replace hm0 := Hid.mk hm0
  have h00 := Hid.mk h0
  have gl := Hid.mk hn.gl
  clear hN h0
  repeat' (with_reducible first | refine x_ops ?_ | refine wk ?_ | ((first | refine gd1 ?_ ?_ | refine gd2 ?_ ?_ | refine gd3 ?_ ?_) <;> (first | exact @False.elim _ | intro hc)))
  refine x_loopW w_hand_net_ways_p7 (by kernel_rfl) N.length (fun j t M => t 29 = vint (j : Int) ∧ J j M) ?_ ?_
  · exact ⟨vv, h00.out⟩
  clear o1 o2 hm0 h00
  rintro j t M hj ⟨h29, hJM⟩
  by_cases hjl : j < N.length
  case neg =>
    have hje : j = N.length := by omega
    subst hje
    have c2 : ¬ (N.length : Int) < (N.length : Int) := by omega
    replace hJM := Hid.mk hJM
    clear hF hS hM hJ NS hjl
    repeat' (with_reducible first | refine x_ops ?_ | refine wk ?_ | ((first | refine gd1 ?_ ?_ | refine gd2 ?_ ?_ | refine gd3 ?_ ?_) <;> (first | exact @False.elim _ | intro hc)))
    exact ⟨.inl rfl, .tup [], vv, rfl, hJM.out⟩
  have c2 : (j : Int) < (N.length : Int) := by omega
  have g1 := ints_at hjl
  have w3 := w_add1 (k := j) (by have := hNl.out; omega)
  have NSj := NS j hjl
  have hmj := Hid.mk (hM j M hJM)
  have hSj := Hid.mk (hS j M hJM hi1 hjl)
  have hFj := Hid.mk (hF j M hJM hi1 hjl)
  obtain ⟨M9, hM9⟩ := hJ (j + 1) (by omega)
  replace hM9 := Hid.mk hM9
  replace hjl := Hid.mk hjl
  clear hF hS hM hJ NS hJM hj
  by_cases hno : N.getD j 0 = -1
  · have e2 : (N.getD j 0 == -1) = true := by rw [hno]; rfl
    have hnx := Hid.mk (hSj.out (.inl hno))
    clear hno NSj
    repeat' (with_reducible first | refine x_ops ?_ | refine wk ?_ | ((first | refine gd1 ?_ ?_ | refine gd2 ?_ ?_ | refine gd3 ?_ ?_) <;> (first | exact @False.elim _ | intro hc)))
    exact nx hjl.out ⟨vv, hnx.out⟩
  have e2 : (N.getD j 0 == -1) = false := by rw [beq_eq_false_iff_ne]; exact hno
  replace hno := Hid.mk hno
  repeat' (with_reducible first | refine x_ops ?_ | refine wk ?_ | ((first | refine gd1 ?_ ?_ | refine gd2 ?_ ?_ | refine gd3 ?_ ?_) <;> (first | exact @False.elim _ | intro hc)))
  refine x_lend allS NSj rfl ?_ ?_
  · (simp only [go_sem, Nat.reduceAdd, Nat.reduceEqDiff, Nat.reduceLT, Nat.reduceLeDiff, Nat.reduceMul, Nat.reduceSub, Nat.reducePow, Nat.reduceDiv, Nat.reduceMod, Nat.reduceBEq, Int.reduceBEq, Int.reduceLT, reduceIte, V.norms, V.norm, tIs, tBs, tPs, *])
    exact .cons (vw_net gl.out hmj.out) (.cons (.lit _) (.cons (.lit _) (.cons (.lit _) .nil)))
  clear NSj
  generalize hst : stepR h (l.getD i noC) ((Gs.getD i []).getD k noG) (l.getD (i + 1) noC) ((Gs.getD (i + 1) []).getD j noG) = st at *
  obtain ⟨sn, sb⟩ := st
  dsimp only at *
  cases sb
  · have hnx := Hid.mk (hSj.out (.inr rfl))
    clear hst
    repeat' (with_reducible first | refine x_ops ?_ | refine wk ?_ | ((first | refine gd1 ?_ ?_ | refine gd2 ?_ ?_ | refine gd3 ?_ ?_) <;> (first | exact @False.elim _ | intro hc)))
    exact nx hjl.out ⟨vv, hnx.out⟩
  have hFj' := hFj.out hno.out rfl
  replace hst := Hid.mk hst
  repeat' (with_reducible first | refine x_ops ?_ | refine wk ?_ | ((first | refine gd1 ?_ ?_ | refine gd2 ?_ ?_ | refine gd3 ?_ ?_) <;> (first | exact @False.elim _ | intro hc)))
  refine x_callv (f := f) (cs := cs) (Post := fun r M' => r = .tup [] ∧ J (j + 1) M') vw hc ?_ ⟨_, M9, rfl, hM9.out⟩ ?_
  · (simp only [go_sem, Nat.reduceAdd, Nat.reduceEqDiff, Nat.reduceLT, Nat.reduceLeDiff, Nat.reduceMul, Nat.reduceSub, Nat.reducePow, Nat.reduceDiv, Nat.reduceMod, Nat.reduceBEq, Int.reduceBEq, Int.reduceLT, reduceIte, V.norms, V.norm, tIs, tBs, tPs, *]); exact hFj'
  rintro r M' ⟨rfl, hJ'⟩
  replace hJ' := Hid.mk hJ'
  repeat' (with_reducible first | refine x_ops ?_ | refine wk ?_ | ((first | refine gd1 ?_ ?_ | refine gd2 ?_ ?_ | refine gd3 ?_ ?_) <;> (first | exact @False.elim _ | intro hc)))
  exact nx hjl.out ⟨vv, hJ'.out⟩

set_option maxHeartbeats 1000000 in
/-- What settle does at a way. -/
theorem settle1_sfn {h : Hand} {l : List Chord} {gv ov : V} {b rq cb nb ib bb : Nat} {rows : List V} {N : List Int} {i j : Nat} {c s p : Int} {tok : Tok} {M : Mm}
    (h1 : M.obj cb = some (.box [vint c] 3)) (h2 : M.obj nb = some (.box [.ptr b 0] 104)) (h3 : M.obj ib = some (.box [vint i] 3)) (h4 : M.obj bb = some (.box [vint p] 3))
    (h5 : M.obj b = some (.box (netC h l gv ov (.bsl rq 0 l.length l.length)) 123)) (h6 : M.obj rq = some (.box rows 22))
    (n1 : cb < M.next) (n2 : nb < M.next) (n3 : ib < M.next) (n4 : bb < M.next) (n5 : b < M.next) (n6 : rq < M.next)
    (hi : i + 1 < l.length) (hl : l.length ≤ 400) (hrow : rows[i + 1]? = some (.sl N.length (N.map vint) tok)) (hj : j < N.length)
    (hb : (0 ≤ c ∧ c ≤ 404000) ∧ (0 ≤ s ∧ s ≤ 105000) ∧ 0 ≤ N.getD j 0 ∧ N.getD j 0 ≤ 509000 * 400) :
    SFn Try.prog Gd 131 [vint j, vint s, .ptr cb 0, .ptr nb 0, .ptr ib 0, .ptr bb 0] M fun r M' => r = .tup [] ∧
      M' = if p = -1 ∨ c + s + N.getD j 0 < p then M.put bb (.box [vint (c + s + N.getD j 0)] 3) else M := by
  refine SFn.of_vxS k_hand_net_settle_1 (by simp) ?_
  unfold c_hand_net_settle_1
  unfold netC at h5
  have c1 : ((i + 1 : Nat) : Int) < (l.length : Int) := by omega
  have c2 : (j : Int) < (N.length : Int) := by omega
  have w1 := w_add1 (k := i) (by omega)
  have w2 : IntKind.i64.wrap (c + s) = c + s := w_in (by omega)
  have w3 : IntKind.i64.wrap (c + s + N.getD j 0) = c + s + N.getD j 0 := w_in (by omega)
  have g1 := ints_at hj
  clear hi hl hj hb
  generalize N.getD j 0 = nj at *
  by_cases hp : p = -1
  · have e1 : (p == -1) = true := by rw [hp]; rfl
    rw [if_pos (.inl hp)]
    clear hp
    repeat' (with_reducible first | refine x_ops ?_ | refine wk ?_ | ((first | refine gd1 ?_ ?_ | refine gd2 ?_ ?_ | refine gd3 ?_ ?_) <;> (first | exact @False.elim _ | intro hc)))
    exact ⟨.inl rfl, .tup [], vv, rfl, vv⟩
  have e1 : (p == -1) = false := by rw [beq_eq_false_iff_ne]; exact hp
  by_cases hlt : c + s + nj < p
  · rw [if_pos (.inr hlt)]
    clear hp
    repeat' (with_reducible first | refine x_ops ?_ | refine wk ?_ | ((first | refine gd1 ?_ ?_ | refine gd2 ?_ ?_ | refine gd3 ?_ ?_) <;> (first | exact @False.elim _ | intro hc)))
    all_goals first | exact ⟨.inl rfl, .tup [], vv, rfl, vv⟩ | skip
  · rw [if_neg (by rintro (h | h); exact hp h; exact hlt h)]
    clear hp
    repeat' (with_reducible first | refine x_ops ?_ | refine wk ?_ | ((first | refine gd1 ?_ ?_ | refine gd2 ?_ ?_ | refine gd3 ?_ ?_) <;> (first | exact @False.elim _ | intro hc)))
    all_goals first | exact ⟨.inl rfl, .tup [], vv, rfl, rfl⟩ | skip
end Go.Proofs.Ytojjdkoglhecbaa
namespace Go.Proofs.Ytojjdkoglhecbaa
open Go.RowKit

section
variable {P : Program} {G : Ground}
/-- What is not needed of slots and memory is forgotten. -/
theorem x_genM {a : VC} {Q : VX → St → Prop} {s : St} (F : (Nat → V) → Mm → Prop) (h0 : F s.t s.m) (h : ∀ t m, F t m → a.vx P G Q ⟨t, m⟩) : a.vx P G Q s := h s.t s.m h0
end
theorem set_eq {α : Type} {L : List α} {i : Nat} (hi : i < L.length) (v : α) : L.set i v = L.take i ++ v :: L.drop (i + 1) := by
  rw [List.set_eq_take_append_cons_drop, if_pos hi]
theorem rows_set {L : List V} (h : Rows L) (i : Nat) (n : Nat) (xs : List V) (tok : Tok) : Rows (L.set i (.sl n xs tok)) := fun v hv => by
  rcases List.mem_or_eq_of_mem_set hv with h1 | h1
  · exact h v h1
  · exact ⟨_, _, _, h1⟩

set_option maxHeartbeats 4000000 in
/-- One element of the table. -/
theorem settle_elem {h : Hand} {l : List Chord} {Gs : List (List Grip)} (hn : NetOk h l Gs) {i k : Nat} (hi : i < l.length) (hk : k < (Gs.getD i []).length) {b gq oq rq nb ib cb bb n1 : Nat} {rows : List V} {L : List Int} {tok : Tok} {t : Nat → V} {M : Mm}
    (s1 : t 1 = .ptr nb 0) (s2 : t 2 = .ptr ib 0) (s3 : t 3 = vint k) (s4 : t 4 = .ptr cb 0) (s5 : t 5 = .ptr bb 0)
    (hm : NetM h l Gs b gq oq rq rows M) (o1 : M.obj nb = some (.box [.ptr b 0] 104)) (o2 : M.obj ib = some (.box [vint i] 3)) (o4 : M.obj cb = some (.box [vint (ownC h (l.getD i noC) ((Gs.getD i []).getD k noG))] 3))
    (o5 : M.obj bb = some (.box [vint (if i + 1 = l.length then ownC h (l.getD i noC) ((Gs.getD i []).getD k noG) else -1)] 3))
    (hlo : nb < n1 ∧ ib < n1 ∧ b < n1 ∧ gq < n1 ∧ oq < n1 ∧ rq < n1) (hhi : n1 ≤ cb ∧ cb < bb ∧ bb < M.next) (hlen : rows.length = l.length)
    (hrow : rows[i]? = some (.sl L.length (L.map vint) tok)) (hL : L.length ≤ 200) (hap : Apb M tok L.length 3 1)
    (hnext : i + 1 < l.length → ∃ tok, rows[i + 1]? = some (.sl (rsT h l Gs (i + 1)).length ((rsT h l Gs (i + 1)).map vint) tok)) :
    (c_hand_net_settle_p3).vx Try.prog Gd (fun e s' => e = .nrm ∧ ∃ tok', Apb s'.m tok' (L.length + 1) 3 1 ∧
      s'.m.obj rq = some (.box (rows.set i (.sl (L.length + 1) ((L ++ [rsE h l Gs i (rsT h l Gs (i + 1)) ((Gs.getD i []).getD k noG)]).map vint) tok')) 22) ∧
      M.next ≤ s'.m.next ∧ (∀ q, q < M.next → q ≠ rq → q ≠ bb → tok ≠ .own q → s'.m.obj q = M.obj q) ∧ ∀ q, tok' = .own q → M.next ≤ q ∨ tok = .own q) ⟨t, M⟩ := by
  have hr := rsE h l Gs i (rsT h l Gs (i + 1)) ((Gs.getD i []).getD k noG)
  have hg := hn.grip hi hk
  have hown := own_bound hn.hk (hn.seq i hi).1 hg.1
  let val : Nat → Int := fun j => if i + 1 = l.length then ownC h (l.getD i noC) ((Gs.getD i []).getD k noG) else bsU h (l.getD i noC) ((Gs.getD i []).getD k noG) (l.getD (i + 1) noC) (Gs.getD (i + 1) []) (rsT h l Gs (i + 1)) j
  let J : Nat → Mm → Prop := fun j M' => M.next ≤ M'.next ∧ (∀ q, q < M.next → q ≠ bb → M'.obj q = M.obj q) ∧ M'.obj bb = some (.box [vint (val j)] 3)
  have hJ0 : J 0 M := ⟨Nat.le_refl _, fun _ _ _ => rfl, by rw [o5]; show _ = some (AObj.box [vint (if i + 1 = l.length then _ else _)] _); split <;> rfl⟩
  have hnet : ∀ j M', J j M' → NetM h l Gs b gq oq rq rows M' := by
    rintro j M' ⟨_, hf, _⟩
    exact ⟨by rw [hf b (by omega) (by omega)]; exact hm.b, by rw [hf gq (by omega) (by omega)]; exact hm.g, by rw [hf oq (by omega) (by omega)]; exact hm.o, by rw [hf rq (by omega) (by omega)]; exact hm.r, hm.rows⟩
  have W := ways_sfn hn hi hk b gq oq rq rows (rsT h l Gs (i + 1)) 131 [.ptr cb 0, .ptr nb 0, .ptr ib 0, .ptr bb 0] kr J M
    (fun hi1 => ⟨rsT_len hi1, hnext hi1⟩) hnet hJ0 (fun j _ => ⟨M.put bb (.box [vint (val j)] 3), Nat.le_refl _, fun q _ hq => if_neg hq, if_pos rfl⟩) ?_ ?_
  rotate_left
  · rintro j M' ⟨hn', hf, hb⟩ hi1 hj hne hst
    obtain ⟨tk, hrw⟩ := hnext hi1
    have hlen1 := rsT_len (h := h) (Gs := Gs) hi1
    have hsok : StepOk h (l.getD i noC) ((Gs.getD i []).getD k noG) (l.getD (i + 1) noC) ((Gs.getD (i + 1) []).getD j noG) := by
      by_cases hx : StepOk h (l.getD i noC) ((Gs.getD i []).getD k noG) (l.getD (i + 1) noC) ((Gs.getD (i + 1) []).getD j noG)
      · exact hx
      · rw [stepR_no hx] at hst; cases hst
    have hsb := stepC_bound hn.hk (a := l.getD i noC) (b := l.getD (i + 1) noC) hg.1 (hn.grip hi1 (k := j) (by omega)).1
    have hNb := rsT_bound hn _ (i + 1) rfl hi1 j (by omega)
    rw [stepR_ok hsok]
    have h4 := hn.len
    have hNb' : 0 ≤ (rsT h l Gs (i + 1)).getD j 0 ∧ (rsT h l Gs (i + 1)).getD j 0 ≤ 509000 * 400 := by
      rcases hNb with h1 | h1
      · exact absurd h1 hne
      · exact ⟨h1.1, by omega⟩
    have S1 := settle1_sfn (h := h) (l := l) (gv := .gsl gq l.length 1) (ov := .gsl oq l.length 1) (b := b) (rq := rq) (cb := cb) (nb := nb) (ib := ib) (bb := bb) (rows := rows) (N := rsT h l Gs (i + 1)) (i := i) (j := j)
      (c := ownC h (l.getD i noC) ((Gs.getD i []).getD k noG)) (s := stepC h (l.getD i noC) ((Gs.getD i []).getD k noG) (l.getD (i + 1) noC) ((Gs.getD (i + 1) []).getD j noG)) (p := val j) (tok := tk) (M := M')
      (by rw [hf cb (by omega) (by omega)]; exact o4) (by rw [hf nb (by omega) (by omega)]; exact o1) (by rw [hf ib (by omega) (by omega)]; exact o2) hb (hnet j M' ⟨hn', hf, hb⟩).b (hnet j M' ⟨hn', hf, hb⟩).r
      (by omega) (by omega) (by omega) (by omega) (by omega) (by omega) hi1 h4 hrw hj ⟨hown, hsb, hNb'⟩
    refine S1.mono ?_
    rintro r M2 ⟨rfl, rfl⟩
    refine ⟨rfl, ?_⟩
    have hv : val (j + 1) = if val j = -1 ∨ ownC h (l.getD i noC) ((Gs.getD i []).getD k noG) + stepC h (l.getD i noC) ((Gs.getD i []).getD k noG) (l.getD (i + 1) noC) ((Gs.getD (i + 1) []).getD j noG) + (rsT h l Gs (i + 1)).getD j 0 < val j then
        ownC h (l.getD i noC) ((Gs.getD i []).getD k noG) + stepC h (l.getD i noC) ((Gs.getD i []).getD k noG) (l.getD (i + 1) noC) ((Gs.getD (i + 1) []).getD j noG) + (rsT h l Gs (i + 1)).getD j 0 else val j := by
      have e : ¬ i + 1 = l.length := by omega
      have v1 : val j = bsU h (l.getD i noC) ((Gs.getD i []).getD k noG) (l.getD (i + 1) noC) (Gs.getD (i + 1) []) (rsT h l Gs (i + 1)) j := if_neg e
      have v2 : val (j + 1) = bsU h (l.getD i noC) ((Gs.getD i []).getD k noG) (l.getD (i + 1) noC) (Gs.getD (i + 1) []) (rsT h l Gs (i + 1)) (j + 1) := if_neg e
      rw [v2, bsU, if_neg hne, if_pos (by rw [stepR_ok hsok])]
      simp only [v1]
    split
    · rename_i hc
      rw [if_pos hc] at hv
      exact ⟨hn', fun q hq hqb => by rw [put_obj, if_neg hqb]; exact hf q hq hqb, by rw [put_obj, if_pos rfl, hv]⟩
    · rename_i hc
      rw [if_neg hc] at hv
      exact ⟨hn', hf, by rw [hb, hv]⟩
  · rintro j M' ⟨hn', hf, hb⟩ hi1 hj hsk
    refine ⟨hn', hf, ?_⟩
    rw [hb]
    have e : ¬ i + 1 = l.length := by omega
    have hv : val (j + 1) = val j := by
      show (if i + 1 = l.length then _ else _) = (if i + 1 = l.length then _ else _)
      rw [if_neg e, if_neg e, bsU]
      rcases hsk with h1 | h1
      · rw [if_pos h1]
      · split
        · rfl
        · rw [if_neg (by rw [h1]; simp)]
    rw [hv]
  have hfin : val (if i + 1 = l.length then 0 else (rsT h l Gs (i + 1)).length) = rsE h l Gs i (rsT h l Gs (i + 1)) ((Gs.getD i []).getD k noG) := by
    by_cases e : i + 1 = l.length
    · rw [if_pos e]; show (if i + 1 = l.length then _ else _) = _; rw [if_pos e, rsE, if_pos e]
    · rw [if_neg e]; show (if i + 1 = l.length then _ else _) = _; rw [if_neg e, rsE, if_neg e, rsT_len (by omega)]
  have hJe : ∃ M', J (if i + 1 = l.length then 0 else (rsT h l Gs (i + 1)).length) M' := ⟨M.put bb (.box [vint _] 3), Nat.le_refl _, fun q _ hq => if_neg hq, if_pos rfl⟩
  have hgl := hn.gl
  have hiR : i + 1 ≤ rows.length := by omega
  have hcR : (i : Int) < (l.length : Int) := by omega
  have hset := fun v => set_eq (L := rows) (i := i) (by omega) v
  have b1 : (L.length + 1) * 8 ≤ 140737488355328 := by omega
  have b2 : L.length + 1 ≤ maxLen := by unfold maxLen; omega
  have hmm := Hid.mk hm
  have hbb5 := Hid.mk o5
  have hnz := hn
  clear hJ0 hnet hg hown hr o4 o5 hm hn hk hlen
  replace hJe := Hid.mk hJe
  replace hset := Hid.mk hset
  unfold c_hand_net_settle_p3
  repeat' (with_reducible first | refine x_ops ?_ | refine wk ?_ | ((first | refine gd1 ?_ ?_ | refine gd2 ?_ ?_ | refine gd3 ?_ ?_) <;> (first | exact @False.elim _ | intro hc)))
  refine x_scallR [.ptr b 0, vint i, vint k, .fn 131 [.ptr cb 0, .ptr nb 0, .ptr ib 0, .ptr bb 0]] vw W (by obtain ⟨M', h1⟩ := hJe.out; exact ⟨_, M', rfl, h1⟩) ?_
  rintro r M2 ⟨rfl, hn2, hf2, hb2⟩
  rw [hfin] at hb2
  clear W hfin hJe hnext
  have q1 : M2.obj nb = some (.box [.ptr b 0] 104) := by rw [hf2 nb (by omega) (by omega)]; exact o1
  have q2 : M2.obj ib = some (.box [vint i] 3) := by rw [hf2 ib (by omega) (by omega)]; exact o2
  have q3 := (hf2 b (by omega) (by omega)).trans hmm.out.b
  have q4 := (hf2 rq (by omega) (by omega)).trans hmm.out.r
  have l1 : nb < M2.next := by omega
  have l2 : ib < M2.next := by omega
  have l3 : b < M2.next := by omega
  have l4 : rq < M2.next := by omega
  have l5 : bb < M2.next := by omega
  unfold netC at q3
  generalize rsE h l Gs i (rsT h l Gs (i + 1)) ((Gs.getD i []).getD k noG) = re at *
  have x1 : ¬ rq = M2.next + 14 := by omega
  replace hn2 := Hid.mk hn2
  replace hf2 := Hid.mk hf2
  replace hi := Hid.mk hi
  replace hhi := Hid.mk hhi
  replace hlo := Hid.mk hlo
  replace hL := Hid.mk hL
  clear o1 o2 hgl
  rcases hap with rfl | ⟨t0, rfl, ht0, ho0⟩
  · repeat' (with_reducible first | refine x_ops ?_ | refine wk ?_ | ((first | refine gd1 ?_ ?_ | refine gd2 ?_ ?_ | refine gd3 ?_ ?_) <;> (first | exact @False.elim _ | intro hc)))
    refine x_appE (n := L.length) (xs := L.map vint) (j := 1) (ys := [vint re]) (k2 := .exact) vw vw (by rw [List.length_map]; omega) rfl b1 b2 ?_
    repeat' (with_reducible first | refine x_ops ?_ | refine wk ?_ | ((first | refine gd1 ?_ ?_ | refine gd2 ?_ ?_ | refine gd3 ?_ ?_) <;> (first | exact @False.elim _ | intro hc)))
    refine ⟨.own (M2.next + 14), .inr ⟨_, rfl, ?_, ?_⟩, ?_, ?_, ?_, ?_⟩
    · show M2.next + 14 < M2.next + 17; omega
    · rw [put_obj, if_neg (fun e => x1 e.symm), put_obj, if_pos rfl]
    · rw [hset.out]; simp [vint]
    · show M.next ≤ M2.next + 17; have := hn2.out; omega
    · intro q hq h1 h2 h3
      have := hn2.out
      rw [if_neg h1, if_neg (by omega)]
      exact hf2.out q hq h2
    · intro q hq; injection hq with hq; have := hn2.out; omega
  · have ht2 : t0 < M2.next := by have := hn2.out; omega
    have hb0 := hbb5.out
    have hne0 : t0 ≠ bb := by rintro rfl; rw [hb0] at ho0; cases ho0
    have hner : ¬ t0 = rq := by rintro rfl; rw [hmm.out.r] at ho0; cases ho0
    have ho2 : M2.obj t0 = some (.row L.length 3 1) := by rw [hf2.out t0 ht0 hne0]; exact ho0
    replace ht0 := Hid.mk ht0
    replace hne0 := Hid.mk hne0
    have hok : ownOk (some [5, 6, 7, 8, 9, 10, 11, 12, 13]) M2.next t0 = true := by simp [ownOk, ht2]
    clear ho0 hb0
    repeat' (with_reducible first | refine x_ops ?_ | refine wk ?_ | ((first | refine gd1 ?_ ?_ | refine gd2 ?_ ?_ | refine gd3 ?_ ?_) <;> (first | exact @False.elim _ | intro hc)))
    refine x_appO (n := L.length) (t := t0) (xs := L.map vint) (j := 1) (ys := [vint re]) (k2 := .exact) vw vw hok vw (by rw [List.length_map]; omega) rfl b1 b2 ?_
    clear ho2
    have hner' : ¬ rq = t0 := fun e => hner e.symm
    repeat' (with_reducible first | refine x_ops ?_ | refine wk ?_ | ((first | refine gd1 ?_ ?_ | refine gd2 ?_ ?_ | refine gd3 ?_ ?_) <;> (first | exact @False.elim _ | intro hc)))
    refine ⟨.own t0, .inr ⟨_, rfl, ?_, ?_⟩, ?_, ?_, ?_, ?_⟩
    · show t0 < M2.next + 17; omega
    · rw [put_obj, if_neg hner, put_obj, if_pos rfl]
    · rw [hset.out]; simp [vint]
    · show M.next ≤ M2.next + 17; have := hn2.out; omega
    · intro q hq h1 h2 h3
      rw [if_neg h1, if_neg (fun e => h3 (by rw [e]))]
      exact hf2.out q hq h2
    · intro q hq; exact .inr hq
end Go.Proofs.Ytojjdkoglhecbaa
namespace Go.Proofs.Ytojjdkoglhecbaa
open Go.RowKit

/-- Where settle stands, x chords from the end. -/
structure SetSt (h : Hand) (l : List Chord) (Gs : List (List Grip)) (m : Mm) (b rq nb : Nat) (gv ov : V) (x : Nat) (rows : List V) (M : Mm) : Prop where
  nx : m.next + 19 ≤ M.next
  nbo : M.obj nb = some (.box [.ptr b 0] 104)
  bo : M.obj b = some (.box (netC h l gv ov (.bsl rq 0 l.length l.length)) 123)
  ro : M.obj rq = some (.box rows 22)
  len : rows.length = l.length
  isr : Rows rows
  done : ∀ y, l.length ≤ y + x → y < l.length → ∃ tok, rows[y]? = some (.sl (rsT h l Gs y).length ((rsT h l Gs y).map vint) tok)
  rest : ∀ y, y + x < l.length → rows[y]? = some (.sl 0 [] .exact)
  fr : ∀ q, q < m.next → q ≠ b → M.obj q = m.obj q
/-- What settle leaves. -/
def SetPost (h : Hand) (l : List Chord) (Gs : List (List Grip)) (m : Mm) (b : Nat) (gv ov : V) (r : V) (m' : Mm) : Prop :=
  r = .tup [] ∧ m.next ≤ m'.next ∧ (∀ q, q < m.next → q ≠ b → m'.obj q = m.obj q) ∧ ∃ rq rows, m.next ≤ rq ∧ rq < m'.next ∧ m'.obj b = some (.box (netC h l gv ov (.bsl rq 0 l.length l.length)) 123) ∧
    m'.obj rq = some (.box rows 22) ∧ rows.length = l.length ∧ ∀ y, y < l.length → ∃ tok, rows[y]? = some (.sl (rsT h l Gs y).length ((rsT h l Gs y).map vint) tok)
/-- Where settle stands within a chord. -/
structure InSt (h : Hand) (l : List Chord) (Gs : List (List Grip)) (rq i : Nat) (rows : List V) (M0 : Mm) (k : Nat) (tok : Tok) (M : Mm) : Prop where
  nx : M0.next ≤ M.next
  ro : M.obj rq = some (.box (rows.set i (.sl k (((rsT h l Gs i).take k).map vint) tok)) 22)
  ap : Apb M tok k 3 1
  hi : ∀ q, tok = .own q → M0.next ≤ q
  fr : ∀ q, q < M0.next → q ≠ rq → M.obj q = M0.obj q
theorem set_same {α : Type} {L : List α} {i : Nat} {v : α} (h : L[i]? = some v) : L.set i v = L := by
  apply List.ext_getElem?
  intro j
  rw [List.getElem?_set]
  split
  · rename_i e; subst e
    split
    · exact h.symm
    · rename_i h2; rw [List.getElem?_eq_none (by omega)] at h; cases h
  · rfl
theorem take_get {l : List Int} {k : Nat} (hk : k < l.length) : l.take (k + 1) = l.take k ++ [l.getD k 0] := by
  rw [List.take_succ_eq_append_getElem hk, List.getD_eq_getElem?_getD, List.getElem?_eq_getElem hk]; rfl

set_option maxHeartbeats 4000000 in
theorem settle_sfn {h : Hand} {l : List Chord} {Gs : List (List Grip)} (hn : NetOk h l Gs) (m : Mm) {b gq oq : Nat} {gv ov rv : V} (hb : m.obj b = some (.box (netC h l gv ov rv) 123)) (hbn : b < m.next)
    (hg : 0 < l.length → (gv = .gsl gq l.length 1 ∧ ov = .gsl oq l.length 1) ∧ (m.obj gq = some (.box (Gs.map tGs) 38) ∧ m.obj oq = some (.box ((owA h l Gs).map tIs) 22)) ∧ (gq ≠ b ∧ oq ≠ b) ∧ gq < m.next ∧ oq < m.next) :
    SFn Try.prog Gd 103 [.ptr b 0] m (SetPost h l Gs m b gv ov) := by
  refine SFn.of_vxS k_hand_net_settle (by simp) ?_
  have h4 := hn.len
  have x0 : ¬ b = m.next := by omega
  have x1 : ∀ k, ¬ b = m.next + k := by omega
  have y0 : ¬ m.next = b := by omega
  have y1 : ∀ k, ¬ m.next + k = b := by omega
  have x2 : m.next < m.next + 1 := by omega
  have x3 : b < m.next + 1 := by omega
  have w1 : IntKind.i64.wrap ((l.length : Int) - 1) = (l.length : Int) - 1 := w_in (by omega)
  have k1 : (l.length : Int) * 24 ≤ 140737488355328 := by omega
  have k2 : (l.length : Int) ≤ 140737488355328 := by omega
  have hb0 := Hid.mk hb
  unfold c_hand_net_settle
  unfold netC tCs at hb
  replace h4 := Hid.mk h4
  replace hbn := Hid.mk hbn
  have hgg := Hid.mk hg
  clear hg
  repeat' (with_reducible first | refine x_ops ?_ | refine wk ?_ | ((first | refine gd1 ?_ ?_ | refine gd2 ?_ ?_ | refine gd3 ?_ ?_) <;> (first | exact @False.elim _ | intro hc)))
  refine x_gen (fun t => t 1 = .ptr m.next 0 ∧ t 2 = .ptr (m.next + 17) 0) ⟨vv, vv⟩ ?_
  rintro t0 ⟨ht1, ht2⟩
  refine x_loopW w_hand_net_settle_p14 (by kernel_rfl) l.length (fun x t M => ∃ ib rows, t 2 = .ptr ib 0 ∧ (m.next + 17 ≤ ib ∧ ib < M.next) ∧ M.obj ib = some (.box [vint ((l.length : Int) - 1 - x)] 3) ∧ SetSt h l Gs m b (m.next + 7) m.next gv ov x rows M) ?_ ?_
  · refine ⟨m.next + 17, List.replicate l.length (.sl 0 [] .exact), ht2, ⟨Nat.le_refl _, ?_⟩, ?_, ⟨?_, ?_, ?_, ?_, List.length_replicate, ?_, ?_, ?_, ?_⟩⟩
    · show m.next + 17 < m.next + 19; omega
    · ((refine ve ?_; try exact True.intro)); simp
    · show m.next + 19 ≤ m.next + 19; omega
    · simp only [go_sem, y0, y1]; simp
    · unfold netC tCs; simp only [go_sem, x0, x1]; simp [tIs, tBs]
    · simp only [go_sem, y0, y1]; simp
    · intro v hv; rw [List.mem_replicate] at hv; exact ⟨_, _, _, hv.2⟩
    · intro y h1 h2; omega
    · intro y hy; rw [List.getElem?_replicate, if_pos (by omega)]
    · intro q hq hqb; simp only [put_obj]; repeat rw [if_neg (by omega)]
  clear hb x1 y1 x2 x3
  rintro x t M hx ⟨ib, rows, h2, ⟨hi1, hi2⟩, hio, hs⟩
  have hnx := hs.nx
  have hnbo := hs.nbo
  have hbo := hs.bo
  have hne : ∀ q k, q < M.next → (q = M.next + k) = False := fun q k hq => by simp; omega
  have hne0 : ∀ q, q < M.next → (q = M.next) = False := fun q hq => by simp; omega
  have n1 : m.next < M.next := by omega
  have n2 : b < M.next := by have := hbn.out; omega
  have n3 : m.next + 7 < M.next := by omega
  unfold netC tCs at hbo
  by_cases hxl : x < l.length
  case neg =>
    have hxe : x = l.length := by omega
    subst hxe
    have c1 : ¬ (0 : Int) ≤ (l.length : Int) - 1 - (l.length : Int) := by omega
    replace hs := Hid.mk hs
    clear hne hne0
    repeat' (with_reducible first | refine x_ops ?_ | refine wk ?_ | ((first | refine gd1 ?_ ?_ | refine gd2 ?_ ?_ | refine gd3 ?_ ?_) <;> (first | exact @False.elim _ | intro hc)))
    exact ⟨.inl rfl, .tup [], vv, rfl, (by show m.next ≤ M.next; omega), hs.out.fr, m.next + 7, rows, by omega, n3, hs.out.bo, hs.out.ro, hs.out.len, fun y hy => hs.out.done y (by omega) hy⟩
  obtain ⟨i, hi⟩ : ∃ i : Nat, i + 1 + x = l.length := ⟨l.length - 1 - x, by omega⟩
  have ei : (l.length : Int) - 1 - (x : Int) = (i : Int) := by omega
  rw [ei] at hio
  have hil : i < l.length := by omega
  obtain ⟨⟨rfl, rfl⟩, ⟨og, oo_⟩, ⟨hgb, hob⟩, hgn, hon⟩ := hgg.out (by omega)
  have oG : M.obj gq = _ := (hs.fr gq hgn hgb).trans og
  have oO : M.obj oq = _ := (hs.fr oq hon hob).trans oo_
  have oR := hs.ro
  have c0 : (i : Int) < (l.length : Int) := by omega
  have g0 := iss_at (l := owA h l Gs) (k := i) (by rw [owA_len]; omega)
  rw [owA_at hil] at g0
  have hcnt := hn.cnt i
  have hol := owR_len h l Gs i
  replace hs := Hid.mk hs
  replace hi := Hid.mk hi
  clear og oo_ ei hgg
  repeat' (with_reducible first | refine x_ops ?_ | refine wk ?_ | ((first | refine gd1 ?_ ?_ | refine gd2 ?_ ?_ | refine gd3 ?_ ?_) <;> (first | exact @False.elim _ | intro hc)))
  refine x_gen (fun t => t 1 = .ptr m.next 0 ∧ t 2 = .ptr ib 0 ∧ t 31 = .sl (Gs.getD i []).length ((owR h l Gs i).map vint) .no ∧ t 32 = vint (Gs.getD i []).length ∧ t 33 = vint 0) ⟨vw, vw, vv, vv, vv⟩ ?_
  rintro t3 ⟨a1, a2, a31, a32, a33⟩
  clear ht1 ht2 h2
  have hri := hs.out.rest i (by have := hi.out; omega)
  refine x_loopW w_hand_net_settle_p8 (by kernel_rfl) (Gs.getD i []).length (fun k t M' => t 33 = vint (k : Int) ∧ ∃ tok, InSt h l Gs (m.next + 7) i rows M k tok M') ?_ ?_
  · exact ⟨a33, .exact, Nat.le_refl _, by rw [List.take_zero, List.map_nil, set_same hri]; exact oR, .inl rfl, fun q hq => by (cases hq), fun _ _ _ => rfl⟩
  rintro k t4 M' hk ⟨h33, tok, hin⟩
  by_cases hkl : k < (Gs.getD i []).length
  case neg =>
    have hke : k = (Gs.getD i []).length := by omega
    subst hke
    have c1 : ¬ ((Gs.getD i []).length : Int) < ((Gs.getD i []).length : Int) := by omega
    have b1 := (hin.fr ib hi2 (by omega)).trans hio
    have n4 : ib < M'.next := by have := hin.nx; omega
    have w2 : IntKind.i64.wrap ((i : Int) - 1) = (i : Int) - 1 := w_in (by omega)
    have m0 : ¬ ib = M'.next := by omega
    replace hin := Hid.mk hin
    have ex : (i : Int) - 1 = (l.length : Int) - 1 - ((x + 1 : Nat) : Int) := by have := hi.out; omega
    have hfull : ((rsT h l Gs i).take (Gs.getD i []).length) = rsT h l Gs i := List.take_of_length_le (by rw [rsT_len hil]; exact Nat.le_refl _)
    clear hne hne0 hkl hk
    have hnx' : M.next ≤ M'.next := hin.out.nx
    have old : ∀ (a c d : AObj) (k : Nat) (q : Nat), q < M'.next → (((Mm.put ⟨M'.obj, k⟩ M'.next a).put M'.next c).put M'.next d).obj q = M'.obj q := fun a c d k q hq => by
      simp only [put_obj]; repeat rw [if_neg (by omega)]
    replace ex := Hid.mk ex
    replace hfull := Hid.mk hfull
    repeat' (with_reducible first | refine x_ops ?_ | refine wk ?_ | ((first | refine gd1 ?_ ?_ | refine gd2 ?_ ?_ | refine gd3 ?_ ?_) <;> (first | exact @False.elim _ | intro hc)))
    refine nx hxl ⟨M'.next, rows.set i (.sl (Gs.getD i []).length (((rsT h l Gs i).take (Gs.getD i []).length).map vint) tok), vv, ⟨by omega, ?_⟩, ?_, ⟨?_, ?_, ?_, ?_, ?_, ?_, ?_, ?_, ?_⟩⟩
    · show M'.next < M'.next + 2; omega
    · rw [put_obj, if_pos rfl, ex.out]
    · show m.next + 19 ≤ M'.next + 2; omega
    · rw [show ∀ X : Mm, X.obj m.next = X.obj m.next from fun _ => rfl]
      exact (old _ _ _ _ m.next (by omega)).trans ((hin.out.fr m.next n1 (by omega)).trans hnbo)
    · exact (old _ _ _ _ b (by omega)).trans ((hin.out.fr b n2 (by have := hbn.out; omega)).trans hs.out.bo)
    · exact (old _ _ _ _ (m.next + 7) (by omega)).trans hin.out.ro
    · rw [List.length_set]; exact hs.out.len
    · exact rows_set hs.out.isr _ _ _ _
    · intro y h1 h2
      by_cases hyi : y = i
      · subst hyi
        refine ⟨tok, ?_⟩
        rw [List.getElem?_set_self (by rw [hs.out.len]; exact hil), hfull.out, rsT_len hil]
      · rw [List.getElem?_set_ne (fun e => hyi e.symm)]
        exact hs.out.done y (by have := hi.out; omega) h2
    · intro y hy
      rw [List.getElem?_set_ne (by have := hi.out; omega)]
      exact hs.out.rest y (by omega)
    · intro q hq hqb
      exact (old _ _ _ _ q (by omega)).trans ((hin.out.fr q (by omega) (by omega)).trans (hs.out.fr q hq hqb))
  have c1 : (k : Int) < ((Gs.getD i []).length : Int) := by omega
  have g1 := ints_at (l := owR h l Gs i) (k := k) (by rw [hol]; exact hkl)
  rw [owR_at hkl] at g1
  have w2 := w_add1 (k := k) (by omega)
  have hnx' : M.next ≤ M'.next := hin.nx
  have mb := fun q hq hqr => hin.fr q hq hqr
  have b1 := (mb ib hi2 (by omega)).trans hio
  have b2 := (mb m.next n1 (by omega)).trans hnbo
  have b3 := (mb b n2 (by have := hbn.out; omega)).trans hbo
  have key : ∀ (t5 : Nat → V) (M5 : Mm) (Q' : VX → St → Prop), (t5 1 = .ptr m.next 0 ∧ t5 2 = .ptr ib 0 ∧ t5 3 = vint k ∧ t5 4 = .ptr (M'.next + 3) 0 ∧ t5 5 = .ptr (M'.next + 6) 0) → M5.next = M'.next + 8 →
      M5.obj (M'.next + 3) = some (.box [vint (ownC h (l.getD i noC) ((Gs.getD i []).getD k noG))] 3) →
      M5.obj (M'.next + 6) = some (.box [vint (if i + 1 = l.length then ownC h (l.getD i noC) ((Gs.getD i []).getD k noG) else -1)] 3) → (∀ q, q < M'.next → M5.obj q = M'.obj q) →
      (∀ t6 M6, (∃ tok, InSt h l Gs (m.next + 7) i rows M (k + 1) tok M6) → Q' .nrm ⟨mix 295147764441864470528 t6 t5, M6⟩) → (c_hand_net_settle_p3).vx Try.prog Gd Q' ⟨t5, M5⟩ := by
    intro t5 M5 Q' ⟨f1, f2, f3, f4, f5⟩ fn fc fb fo hQ
    have hLk : ((rsT h l Gs i).take k).length = k := by rw [List.length_take, rsT_len hil]; omega
    have hlen := hs.out.len
    have hii := hi.out
    have hbn' := hbn.out
    have hrow0 : (rows.set i (.sl k (((rsT h l Gs i).take k).map vint) tok))[i]? = some (.sl k (((rsT h l Gs i).take k).map vint) tok) := List.getElem?_set_self (by omega)
    have lo : ∀ q, q < M.next → q ≠ m.next + 7 → M5.obj q = M.obj q := fun q hq hqr => (fo q (by omega)).trans (hin.fr q hq hqr)
    have E := settle_elem hn hil hkl (b := b) (gq := gq) (oq := oq) (rq := m.next + 7) (nb := m.next) (ib := ib) (cb := M'.next + 3) (bb := M'.next + 6) (n1 := M'.next)
      (rows := rows.set i (.sl k (((rsT h l Gs i).take k).map vint) tok)) (L := (rsT h l Gs i).take k) (tok := tok) (t := t5) (M := M5) f1 f2 f3 f4 f5
      ⟨(lo b n2 (by omega)).trans hs.out.bo, (lo gq (by omega) (by omega)).trans oG, (lo oq (by omega) (by omega)).trans oO, (fo _ (by omega)).trans hin.ro, rows_set hs.out.isr _ _ _ _⟩
      ((lo m.next n1 (by omega)).trans hnbo) ((lo ib hi2 (by omega)).trans hio) fc fb (by omega) (by omega) (by rw [List.length_set]; exact hlen)
      (by rw [hLk]; exact hrow0) (by omega) (by rw [hLk]; exact hin.ap.mono (fun t ht _ => fo t ht) (by omega))
      (fun hi1 => by rw [List.getElem?_set_ne (by omega)]; exact hs.out.done (i + 1) (by omega) hi1)
    rw [hLk] at E
    generalize hre : rsE h l Gs i (rsT h l Gs (i + 1)) ((Gs.getD i []).getD k noG) = re at E
    refine x_sum 295147764441864470528 kr (R := fun e t m' => e = .nrm ∧ ∃ tok', Apb m' tok' (k + 1) 3 1 ∧
      m'.obj (m.next + 7) = some (.box ((rows.set i (.sl k (((rsT h l Gs i).take k).map vint) tok)).set i (.sl (k + 1) (((rsT h l Gs i).take k ++ [re]).map vint) tok')) 22) ∧
      M5.next ≤ m'.next ∧ (∀ q, q < M5.next → q ≠ m.next + 7 → q ≠ M'.next + 6 → tok ≠ .own q → m'.obj q = M5.obj q) ∧ ∀ q, tok' = .own q → M5.next ≤ q ∨ tok = .own q) E ?_
    rintro e t' M6 ⟨rfl, tok', e1, e2, e3, e4, e5⟩
    refine hQ _ _ ⟨tok', by omega, ?_, e1, ?_, ?_⟩
    · rw [e2, List.set_set, take_get (by rw [rsT_len hil]; exact hkl), rsT_at hil hkl, hre]
    · intro q hq
      rcases e5 q hq with h1 | h1
      · omega
      · exact hin.hi q h1
    · intro q hq hqr
      exact (e4 q (by omega) hqr (by omega) (fun e => by have := hin.hi q e; omega)).trans ((fo q (by omega)).trans (hin.fr q hq hqr))
  have hn' : ∀ q k, q < M.next → (q = M'.next + k) = False := fun q k hq => by simp; omega
  have hl' : ∀ q k, q < M.next → (q < M'.next + k) = True := fun q k hq => by simp; omega
  replace hin := Hid.mk hin
  replace mb := Hid.mk mb
  replace hnx' := Hid.mk hnx'
  clear hne hne0 hio hnbo hbo oG oO oR hri
  by_cases hlast : i + 1 = l.length
  · have e1 : ((i : Int) == (l.length : Int) - 1) = true := by rw [beq_iff_eq]; omega
    rw [if_pos hlast] at key
    replace hlast := Hid.mk hlast
    replace key := Hid.mk key
    repeat' (with_reducible first | refine x_ops ?_ | refine wk ?_ | ((first | refine gd1 ?_ ?_ | refine gd2 ?_ ?_ | refine gd3 ?_ ?_) <;> (first | exact @False.elim _ | intro hc)))
    refine key.out _ _ _ ⟨vw, vw, vv, vv, vv⟩ rfl vv vv ?_ ?_
    · intro q hq; ((simp only [put_obj]; repeat rw [if_neg (by omega)]))
    rintro t6 M6 hM6
    replace hM6 := Hid.mk hM6
    repeat' (with_reducible first | refine x_ops ?_ | refine wk ?_ | ((first | refine gd1 ?_ ?_ | refine gd2 ?_ ?_ | refine gd3 ?_ ?_) <;> (first | exact @False.elim _ | intro hc)))
    exact nx hkl ⟨vv, hM6.out⟩
  · have e1 : ((i : Int) == (l.length : Int) - 1) = false := by rw [beq_eq_false_iff_ne]; omega
    rw [if_neg hlast] at key
    replace hlast := Hid.mk hlast
    replace key := Hid.mk key
    repeat' (with_reducible first | refine x_ops ?_ | refine wk ?_ | ((first | refine gd1 ?_ ?_ | refine gd2 ?_ ?_ | refine gd3 ?_ ?_) <;> (first | exact @False.elim _ | intro hc)))
    refine key.out _ _ _ ⟨vw, vw, vv, vv, vv⟩ rfl vv vv ?_ ?_
    · intro q hq; ((simp only [put_obj]; repeat rw [if_neg (by omega)]))
    rintro t6 M6 hM6
    replace hM6 := Hid.mk hM6
    repeat' (with_reducible first | refine x_ops ?_ | refine wk ?_ | ((first | refine gd1 ?_ ?_ | refine gd2 ?_ ?_ | refine gd3 ?_ ?_) <;> (first | exact @False.elim _ | intro hc)))
    exact nx hkl ⟨vv, hM6.out⟩
end Go.Proofs.Ytojjdkoglhecbaa
namespace Go.Proofs.Ytojjdkoglhecbaa
open Go.RowKit

/-- A net that weave has made. -/
def WvNet (h : Hand) (l : List Chord) (n0 b : Nat) (m' : Mm) : Prop :=
  ∃ gq oq rq rows gv ov, (n0 ≤ b ∧ b < m'.next) ∧ m'.obj b = some (.box (netC h l gv ov (.bsl rq 0 l.length l.length)) 123) ∧ (n0 ≤ rq ∧ rq < m'.next) ∧
    m'.obj rq = some (.box rows 22) ∧ rows.length = l.length ∧ (∀ y, y < l.length → ∃ tok, rows[y]? = some (.sl (rsT h l (tabG h l) y).length ((rsT h l (tabG h l) y).map vint) tok)) ∧
    (l.length = 0 → gv = .sl 0 [] .exact ∧ ov = .sl 0 [] .exact) ∧
    (0 < l.length → (gv = .gsl gq l.length 1 ∧ ov = .gsl oq l.length 1) ∧ (m'.obj gq = some (.box ((tabG h l).map tGs) 38) ∧ m'.obj oq = some (.box ((owA h l (tabG h l)).map tIs) 22)) ∧ (gq ≠ b ∧ oq ≠ b) ∧ (n0 ≤ gq ∧ n0 ≤ oq) ∧ gq < m'.next ∧ oq < m'.next)
/-- What weave leaves. -/
def WvPost (h : Hand) (l : List Chord) (m : Mm) (r : V) (m' : Mm) : Prop :=
  m.next ≤ m'.next ∧ (∀ q, q < m.next → m'.obj q = m.obj q) ∧ ((wvE h l = 0 ∧ ∃ b, r = .tup [.ptr b 0, vint 0] ∧ WvNet h l m.next b m') ∨ (wvE h l ≠ 0 ∧ r = .tup [.lit (.pointer none), vint (wvE h l)]))

/-- Where weave stands, with k chords done. -/
structure WvSt (h : Hand) (l : List Chord) (m : Mm) (b k : Nat) (gq oq : Nat) (gv ov : V) (M : Mm) : Prop where
  nx : b < M.next
  ho : M.obj m.next = some (.box [tIs h.low, tIs h.high, tBs h.barre, vint h.top, vint h.jump, vint h.shift, vint h.lift, vint h.bar, vint h.stretch, vint h.slide] 25)
  bo : M.obj b = some (.box (netC h l gv ov (.sl 0 [] .exact)) 123)
  z : k = 0 → gv = .sl 0 [] .exact ∧ ov = .sl 0 [] .exact
  s : 0 < k → (gv = .gsl gq k 1 ∧ ov = .gsl oq k 1) ∧ (M.obj gq = some (.box (((tabG h l).take k).map tGs) 38) ∧ M.obj oq = some (.box (((owA h l (tabG h l)).take k).map tIs) 22)) ∧ (b < gq ∧ b < oq ∧ gq ≠ oq) ∧ gq < M.next ∧ oq < M.next
  cnt : ∀ i, i < k → (grpA h (l.getD i noC)).length ≤ 200
  fr : ∀ q, q < m.next → M.obj q = m.obj q
theorem take_map_get {α : Type} (f : α → V) (L : List α) (d : α) {k : Nat} (hk : k < L.length) : (L.take (k + 1)).map f = (L.take k).map f ++ [f (L.getD k d)] := by
  rw [List.take_succ_eq_append_getElem hk, List.map_append, List.getD_eq_getElem?_getD, List.getElem?_eq_getElem hk]; rfl
theorem SetPost.some (h : Hand) (l : List Chord) (Gs : List (List Grip)) (m : Mm) {b : Nat} (hb : b < m.next) (gv ov : V) : ∃ r m', SetPost h l Gs m b gv ov r m' :=
  ⟨.tup [], ((⟨m.obj, m.next + 1⟩ : Mm).put m.next (.box ((rsA h l Gs).map tIs) 22)).put b (.box (netC h l gv ov (.bsl m.next 0 l.length l.length)) 123), rfl, Nat.le_succ _,
    fun q hq hqb => by simp only [put_obj]; rw [if_neg hqb, if_neg (by omega)], m.next, (rsA h l Gs).map tIs, Nat.le_refl _, Nat.lt_succ_self _, if_pos rfl, by rw [put_obj, if_neg (by omega), put_obj, if_pos rfl], by simp [rsA],
    fun y hy => ⟨.no, by rw [iss_at (by rw [rsA_len]; exact hy), rsA_at hy]; rfl⟩⟩

set_option maxHeartbeats 4000000 in
theorem weave_sfn (h : Hand) (l : List Chord) (hl : Fits l) (m : Mm) : SFn Try.prog Gd 69 [h.val, tCs l] m (WvPost h l m) := by
  refine SFn.of_vxS k_hand_weave_b (by simp) ?_
  have C1 := bothck_fn h l hl
  have x0 : ∀ q, q < m.next → (q = m.next) = False := fun q hq => by simp; omega
  unfold c_hand_weave_b Hand.val tCs
  unfold Hand.val tCs at C1
  by_cases he : bothE h l = 0
  case neg =>
    have e1 : (bothE h l == 0) = false := by rw [beq_eq_false_iff_ne]; exact he
    have hw : wvE h l = bothE h l := by rw [wvE, if_neg he]
    have hw0 := Hid.mk he
    replace hw := Hid.mk hw
    clear he
    repeat' (with_reducible first | refine x_ops ?_ | refine wk ?_ | (with_reducible refine xc (C1) ?_) | ((first | refine gd1 ?_ ?_ | refine gd2 ?_ ?_ | refine gd3 ?_ ?_) <;> (first | exact @False.elim _ | intro hc)))
    refine ⟨.inr rfl, .tup [.lit (.pointer none), vint (bothE h l)], vv, ?_, fun q hq => ?_, .inr ⟨by rw [hw.out]; exact hw0.out, by rw [hw.out]⟩⟩
    · show m.next ≤ m.next + 3; omega
    · simp only [put_obj]; rw [if_neg (by omega)]
  obtain ⟨hk, h4, hseq⟩ := both_ok he
  rw [he] at C1
  repeat' (with_reducible first | refine x_ops ?_ | refine wk ?_ | (with_reducible refine xc (C1) ?_) | ((first | refine gd1 ?_ ?_ | refine gd2 ?_ ?_ | refine gd3 ?_ ?_) <;> (first | exact @False.elim _ | intro hc)))
  refine x_gen (fun t => t 2 = .ptr m.next 0 ∧ t 7 = .ptr (m.next + 6) 0 ∧ t 24 = .sl l.length (l.flatMap Chord.cells) .no ∧ t 25 = vint l.length ∧ t 26 = vint 0) ⟨vv, vv, vv, vv, vv⟩ ?_
  rintro t0 ⟨a2, a7, a24, a25, a26⟩
  refine x_loopW w_hand_weave_b_p17 kr l.length (fun k t M => t 26 = vint (k : Int) ∧ ∃ gq oq gv ov, WvSt h l m (m.next + 6) k gq oq gv ov M) ?_ ?_
  · refine ⟨a26, 0, 0, .sl 0 [] .exact, .sl 0 [] .exact, ⟨?_, ?_, ?_, fun _ => ⟨rfl, rfl⟩, fun hz => by omega, fun i hi => by omega, fun q hq => ?_⟩⟩
    · show m.next + 6 < m.next + 8; omega
    · ((refine ve ?_; try exact True.intro)); simp [tIs, tBs]
    · unfold netC tCs; ((refine ve ?_; try exact True.intro)); simp [tIs, tBs]
    · simp only [put_obj]; repeat rw [if_neg (by omega)]
  rintro k t M hkl ⟨h26, gq, oq, gv, ov, hs⟩
  have hnx := hs.nx
  have hho := hs.ho
  have hbo := hs.bo
  have n0 : m.next < M.next := by omega
  by_cases hlt : k < l.length
  case neg =>
    have hke : k = l.length := by omega
    subst hke
    have c1 : ¬ (l.length : Int) < (l.length : Int) := by omega
    have hw : wvE h l = 0 := by rw [wvE, if_pos he, if_pos hs.cnt]
    have hn := wv_net hl hw
    have SS := settle_sfn hn M (b := m.next + 6) (gq := gq) (oq := oq) (gv := gv) (ov := ov) (rv := .sl 0 [] .exact) hbo hnx
      (fun hpos => by
        obtain ⟨s1, ⟨s2, s3⟩, s4, s5⟩ := hs.s hpos
        rw [List.take_of_length_le (by rw [tabG, List.length_map]; exact Nat.le_refl _)] at s2
        rw [List.take_of_length_le (by rw [owA_len]; exact Nat.le_refl _)] at s3
        exact ⟨s1, ⟨s2, s3⟩, ⟨by omega, by omega⟩, s5⟩)
    replace hs := Hid.mk hs
    replace hn := Hid.mk hn
    replace hw := Hid.mk hw
    have hx0 := Hid.mk x0
    clear hkl hlt hbo hho C1 x0
    repeat' (with_reducible first | refine x_ops ?_ | refine wk ?_ | ((first | refine gd1 ?_ ?_ | refine gd2 ?_ ?_ | refine gd3 ?_ ?_) <;> (first | exact @False.elim _ | intro hc)))
    refine x_scallR [.ptr (m.next + 6) 0] vw SS (SetPost.some h l _ M hnx gv ov) ?_
    rintro r M2 ⟨rfl, p1, p2, rq, rows, p3, p4, p5, p6, p7, p8⟩
    clear SS
    repeat' (with_reducible first | refine x_ops ?_ | refine wk ?_ | ((first | refine gd1 ?_ ?_ | refine gd2 ?_ ?_ | refine gd3 ?_ ?_) <;> (first | exact @False.elim _ | intro hc)))
    refine ⟨.inr rfl, .tup [.ptr (m.next + 6) 0, vint 0], vv, (by show m.next ≤ M2.next; omega), fun q hq => (p2 q (by omega) (by omega)).trans (hs.out.fr q hq), .inl ⟨hw.out, m.next + 6, rfl, gq, oq, rq, rows, gv, ov, ⟨by omega, (by show m.next + 6 < M2.next; omega)⟩, p5, ⟨by omega, p4⟩, p6, p7, p8, hs.out.z, fun hpos => ?_⟩⟩
    obtain ⟨s1, ⟨s2, s3⟩, s4, s5⟩ := hs.out.s hpos
    rw [List.take_of_length_le (by rw [tabG, List.length_map]; exact Nat.le_refl _)] at s2
    rw [List.take_of_length_le (by rw [owA_len]; exact Nat.le_refl _)] at s3
    exact ⟨s1, ⟨(p2 gq (by omega) (by omega)).trans s2, (p2 oq (by omega) (by omega)).trans s3⟩, ⟨by omega, by omega⟩, ⟨by omega, by omega⟩, (by show gq < M2.next; omega), (by show oq < M2.next; omega)⟩
  have hf := hl.at k
  have hc := (hseq k hlt).1
  have C2 := grips_fn h hk (l.getD k noC) hf hc
  have C3 := fun g hg hp => own_fn h hk (l.getD k noC) hc hf g hg hp
  have g1 := chs_take hlt
  have g2 := chs_len l
  have c1 : k * 3 + 3 ≤ l.length * 3 := by omega
  have c2 : (k : Int) < (l.length : Int) := by omega
  have w1 := w_add1 (k := k) (by omega)
  have e0 : ∀ q j, q < M.next → (q = M.next + j) = False := fun q j hq => by simp; omega
  unfold Hand.val Chord.val Chord.cells at C2
  unfold tGs at C2
  have hs0 := Hid.mk hs
  have hx0 := Hid.mk x0
  have hlt0 := Hid.mk hlt
  replace h4 := Hid.mk h4
  clear hs C1 hbo x0 hlt
  by_cases hcnt : (grpA h (l.getD k noC)).length ≤ 200
  case neg =>
    have hL : ((grpA h (l.getD k noC)).take 201).length = 201 := by rw [List.length_take]; omega
    have c3 : (200 : Int) < (((grpA h (l.getD k noC)).take 201).length : Int) := by rw [hL]; decide
    have hw : wvE h l = 2 := by rw [wvE, if_pos he, if_neg (fun hh => hcnt (hh k hlt0.out))]
    replace hw := Hid.mk hw
    clear hL hcnt C3
    repeat' (with_reducible first | refine x_ops ?_ | refine wk ?_ | (with_reducible refine xc (C2) ?_) | ((first | refine gd1 ?_ ?_ | refine gd2 ?_ ?_ | refine gd3 ?_ ?_) <;> (first | exact @False.elim _ | intro hc)))
    refine ⟨.inr rfl, .tup [.lit (.pointer none), vint 2], vv, ?_, fun q hq => ?_, .inr ⟨by rw [hw.out]; decide, by rw [hw.out]⟩⟩
    · show m.next ≤ M.next + 4; omega
    · simp only [put_obj]; repeat rw [if_neg (by omega)]
      exact hs0.out.fr q hq
  rw [List.take_of_length_le (by omega)] at C2
  generalize hG : grpA h (l.getD k noC) = G at *
  have c3 : ¬ (200 : Int) < (G.length : Int) := by omega
  replace hG := Hid.mk hG
  have hcnt0 := Hid.mk hcnt
  clear hcnt
  repeat' (with_reducible first | refine x_ops ?_ | refine wk ?_ | (with_reducible refine xc (C2) ?_) | ((first | refine gd1 ?_ ?_ | refine gd2 ?_ ?_ | refine gd3 ?_ ?_) <;> (first | exact @False.elim _ | intro hc)))
  refine x_genM (fun t M1 => (t 2 = .ptr m.next 0 ∧ t 7 = .ptr (m.next + 6) 0 ∧ t 9 = .ptr (M.next + 2) 0 ∧ t 10 = .sl G.length (G.flatMap Grip.cells) .no ∧ t 11 = .sl 0 [] .exact ∧ t 24 = .sl l.length (l.flatMap Chord.cells) .no ∧ t 25 = vint l.length ∧ t 26 = vint k ∧
      t 36 = .sl G.length (G.flatMap Grip.cells) .no ∧ t 37 = vint G.length ∧ t 38 = vint 0) ∧ M.next + 4 ≤ M1.next ∧ M1.obj (M.next + 2) = some (.box [tPs (l.getD k noC).down, tIs (l.getD k noC).held, tIs (l.getD k noC).opn] 47) ∧ ∀ q, q < M.next → M1.obj q = M.obj q) ⟨⟨vw, vw, vv, vv, vv, vw, vw, vw, vv, vv, vv⟩, Nat.le_refl _, vv, fun q hq => by ((simp only [put_obj]; repeat rw [if_neg (by omega)]))⟩ ?_
  clear a2 a7 a24 a25 a26 h26 C2
  rintro t1 M1 ⟨⟨a2, a7, a9, a10, a11, a24, a25, a26, a36, a37, a38⟩, m1, m2, m3⟩
  have q1 := (m3 m.next n0).trans hho
  have n1 : m.next < M1.next := by omega
  have n2 : M.next + 2 < M1.next := by omega
  have hG2 := hcnt0.out
  have hPl : ∀ g ∈ G, (1 ≤ g.pos ∧ g.pos ≤ 18) ∧ g.fingers.length = (l.getD k noC).down.length := fun g hg => by
    rw [← hG.out] at hg
    have h1 := grpA_mem.1 hg
    have h2 := h1.pos
    have h3 := hk.top
    exact ⟨⟨h2.1, by omega⟩, h1.len⟩
  have hOlen : (G.map (ownC h (l.getD k noC))).length = G.length := List.length_map _
  generalize hO : G.map (ownC h (l.getD k noC)) = O at *
  replace hOlen := Hid.mk hOlen
  replace hO := Hid.mk hO
  replace m3 := Hid.mk m3
  replace hPl := Hid.mk hPl
  clear hho
  refine x_loopW w_hand_weave_b_p7 kr G.length (fun j t M' => t 38 = vint (j : Int) ∧ (M1.next ≤ M'.next ∧ ∀ q, q < M1.next → M'.obj q = M1.obj q) ∧ ∃ tok, t 11 = .sl j ((O.take j).map vint) tok ∧ Apb M' tok j 3 1 ∧ ∀ q, tok = .own q → M1.next ≤ q) ?_ ?_
  · exact ⟨a38, ⟨Nat.le_refl _, fun _ _ => rfl⟩, .exact, a11, .inl rfl, fun q hq => by cases hq⟩
  rintro j t2 M' hjG ⟨h38, ⟨k1, k2⟩, tok, h11, hap, htk⟩
  by_cases hjl : j < G.length
  · have p1 := (k2 m.next n1).trans q1
    have p2 := (k2 (M.next + 2) n2).trans m2
    have p3 : m.next < M'.next := by omega
    have p4 : M.next + 2 < M'.next := by omega
    have e1 : ∀ q j, q < M'.next → (q = M'.next + j) = False := fun q j hq => by simp; omega
    have c4 : (j : Int) < (G.length : Int) := by omega
    have g3 := gs_take hjl
    have g4 := gs_len G
    have c5 : j * 2 + 2 ≤ G.length * 2 := by omega
    have w2 := w_add1 (k := j) (by omega)
    have hgp := hPl.out _ (mem_getD noG hjl)
    have C4 := C3 (G.getD j noG) hgp.2 hgp.1
    have hOj : (O.take (j + 1)) = O.take j ++ [ownC h (l.getD k noC) (G.getD j noG)] := by
      have := hOlen.out
      rw [take_get (by omega), ← hO.out, getD_map _ _ noG _ hjl]
    unfold Hand.val Chord.val Chord.cells Grip.val Grip.cells at C4
    replace k2 := Hid.mk k2
    have hTl : (O.take j).length = j := by have := hOlen.out; rw [List.length_take]; omega
    replace hTl := Hid.mk hTl
    replace hjl := Hid.mk hjl
    replace hOj := Hid.mk hOj
    clear C3
    repeat' (with_reducible first | refine x_ops ?_ | refine wk ?_ | (with_reducible refine xc (C4) ?_) | ((first | refine gd1 ?_ ?_ | refine gd2 ?_ ?_ | refine gd3 ?_ ?_) <;> (first | exact @False.elim _ | intro hc)))
    refine x_appc (xs := (O.take j).map vint) (ys := [vint (ownC h (l.getD k noC) (G.getD j noG))]) vw vw (hap.mono (fun q hq _ => by ((simp only [put_obj]; repeat rw [if_neg (by omega)]))) (by show M'.next ≤ M'.next + 12; omega)) (by rw [List.length_map]; have := hTl.out; omega) rfl (by have := hjl.out; omega) (by unfold Go.maxLen; have := hjl.out; omega) (by show M'.next + 10 < M'.next + 12; omega) ?_
    intro tok' m' hap' hn' hfr hto
    replace hn' : m'.next = M'.next + 12 := hn'
    have f1 : ∀ q, q < M1.next → m'.obj q = M1.obj q := fun q hq => by
      rw [hfr q (by show ¬ q = M'.next + 10; omega) (fun e => by have := htk q e; omega)]
      refine Eq.trans ?_ (k2.out q hq)
      ((simp only [put_obj]; repeat rw [if_neg (by omega)]))
    have f2 : ∀ q, tok' = .own q → M1.next ≤ q := fun q hq => by
      rcases hto q hq with h1 | h1
      · rw [h1]; show M1.next ≤ M'.next + 10; omega
      · exact htk q h1
    have f3 : M1.next ≤ m'.next := by omega
    replace hn' := Hid.mk hn'
    replace f1 := Hid.mk f1
    replace f2 := Hid.mk f2
    replace hap' := Hid.mk hap'
    clear hfr hto hap htk e1 p1 p2
    repeat' (with_reducible first | refine x_ops ?_ | refine wk ?_ | ((first | refine gd1 ?_ ?_ | refine gd2 ?_ ?_ | refine gd3 ?_ ?_) <;> (first | exact @False.elim _ | intro hc)))
    exact nx hjl.out ⟨vv, ⟨f3, f1.out⟩, tok', by rw [hOj.out, List.map_append]; ((refine ve ?_; try exact True.intro)), hap'.out, f2.out⟩
  have hje : j = G.length := by omega
  subst hje
  have c4 : ¬ (G.length : Int) < (G.length : Int) := by omega
  have hOt : O.take G.length = O := List.take_of_length_le (by have := hOlen.out; omega)
  rw [hOt] at h11
  have e1 : ∀ q j, q < M'.next → (q = M'.next + j) = False := fun q j hq => by simp; omega
  have e2 : ∀ q j, q < M'.next → (M'.next + j = q) = False := fun q j hq => by simp; omega
  have kb := hs0.out.bo
  have p1 := (k2 (m.next + 6) (by omega)).trans ((m3.out (m.next + 6) hnx).trans kb)
  have p2 : m.next + 6 < M'.next := by omega
  have low : ∀ q, q < M.next → M'.obj q = M.obj q := fun q hq => (k2 q (by omega)).trans (m3.out q hq)
  have hOe : O = owR h l (tabG h l) k := by rw [← hO.out, owR, tabG_at hlt0.out, hG.out]
  have hGk : (tabG h l).getD k [] = G := by rw [tabG_at hlt0.out, hG.out]
  have hcn : ∀ i, i < k + 1 → (grpA h (l.getD i noC)).length ≤ 200 := fun i hi => by
    by_cases hik : i = k
    · subst hik; rw [hG.out]; exact hcnt0.out
    · exact hs0.out.cnt i (by omega)
  have htg : ((tabG h l).take (k + 1)).map tGs = ((tabG h l).take k).map tGs ++ [tGs G] := by
    rw [take_map_get tGs _ [] (by rw [tabG, List.length_map]; exact hlt0.out), hGk]
  have hto : ((owA h l (tabG h l)).take (k + 1)).map tIs = ((owA h l (tabG h l)).take k).map tIs ++ [tIs O] := by
    rw [take_map_get tIs _ [] (by rw [owA_len]; exact hlt0.out), owA_at hlt0.out, hOe]
  unfold netC at p1
  replace k2 := Hid.mk k2
  replace low := Hid.mk low
  replace hOe := Hid.mk hOe
  replace hGk := Hid.mk hGk
  replace hcn := Hid.mk hcn
  replace htg := Hid.mk htg
  replace hto := Hid.mk hto
  have hhO : Hid (O.length = G.length) := hOlen
  clear hap C3 hOt hjG hjl q1
  by_cases hk0 : k = 0
  · subst hk0
    obtain ⟨rfl, rfl⟩ := hs0.out.z rfl
    repeat' (with_reducible first | refine x_ops ?_ | refine wk ?_ | ((first | refine gd1 ?_ ?_ | refine gd2 ?_ ?_ | refine gd3 ?_ ?_) <;> (first | exact @False.elim _ | intro hc)))
    refine x_appM0 (n := 0) (j := 1) (xs := []) (ys := [.sl G.length (G.flatMap Grip.cells) .no]) vw (by (simp only [go_sem, Nat.reduceAdd, Nat.reduceEqDiff, Nat.reduceLT, Nat.reduceLeDiff, Nat.reduceMul, Nat.reduceSub, Nat.reducePow, Nat.reduceDiv, Nat.reduceMod, Nat.reduceBEq, Int.reduceBEq, Int.reduceLT, reduceIte, V.norms, V.norm, tIs, tBs, tPs, *]); rfl) rfl (by decide) (by decide) ?_
    rw [if_neg (by decide)]
    repeat' (with_reducible first | refine x_ops ?_ | refine wk ?_ | ((first | refine gd1 ?_ ?_ | refine gd2 ?_ ?_ | refine gd3 ?_ ?_) <;> (first | exact @False.elim _ | intro hc)))
    refine x_appM0 (n := 0) (j := 1) (xs := []) (ys := [.sl G.length (O.map vint) .no]) vw (by (simp only [go_sem, Nat.reduceAdd, Nat.reduceEqDiff, Nat.reduceLT, Nat.reduceLeDiff, Nat.reduceMul, Nat.reduceSub, Nat.reducePow, Nat.reduceDiv, Nat.reduceMod, Nat.reduceBEq, Int.reduceBEq, Int.reduceLT, reduceIte, V.norms, V.norm, tIs, tBs, tPs, *]); rfl) rfl (by decide) (by decide) ?_
    rw [if_neg (by decide)]
    repeat' (with_reducible first | refine x_ops ?_ | refine wk ?_ | ((first | refine gd1 ?_ ?_ | refine gd2 ?_ ?_ | refine gd3 ?_ ?_) <;> (first | exact @False.elim _ | intro hc)))
    rw [List.take_zero, List.map_nil, List.nil_append] at htg hto
    refine nx hlt0.out ⟨vv, M'.next + 7, M'.next + 18, .gsl (M'.next + 7) 1 1, .gsl (M'.next + 18) 1 1, ⟨?_, ?_, ?_, fun hz => by omega, fun _ => ⟨⟨rfl, rfl⟩, ⟨?_, ?_⟩, ⟨by omega, by omega, by omega⟩, ?_, ?_⟩, hcn.out, fun q hq => ?_⟩⟩
    · show m.next + 6 < M'.next + 22; omega
    · simp only [put_obj]; repeat rw [if_neg (by omega)]
      exact (low.out m.next n0).trans hs0.out.ho
    · unfold netC tCs; ((refine ve ?_; try exact True.intro)); simp [tIs, tBs]
    · simp only [put_obj]; repeat rw [if_neg (by omega)]
      rw [htg.out, if_pos True.intro]; rfl
    · simp only [put_obj]; repeat rw [if_neg (by omega)]
      rw [hto.out, if_pos True.intro, tIs, hhO.out]
    · show M'.next + 7 < M'.next + 22; omega
    · show M'.next + 18 < M'.next + 22; omega
    · simp only [put_obj]; repeat rw [if_neg (by omega)]
      exact (low.out q (by omega)).trans (hs0.out.fr q hq)
  obtain ⟨⟨rfl, rfl⟩, ⟨s1, s2⟩, ⟨s3, s4, s5⟩, s6, s7⟩ := hs0.out.s (by omega)
  have s1' := (low.out gq s6).trans s1
  have s2' := (low.out oq s7).trans s2
  have l1 : (((tabG h l).take k).map tGs).length = k := by rw [List.length_map, List.length_take, tabG, List.length_map]; have := hlt0.out; omega
  have l2 : (((owA h l (tabG h l)).take k).map tIs).length = k := by rw [List.length_map, List.length_take, owA_len]; have := hlt0.out; omega
  have t1' : (((tabG h l).take k).map tGs).take (k * 1) = ((tabG h l).take k).map tGs := List.take_of_length_le (by omega)
  have t2' : (((owA h l (tabG h l)).take k).map tIs).take (k * 1) = ((owA h l (tabG h l)).take k).map tIs := List.take_of_length_le (by omega)
  have r1 : (((tabG h l).take k).map tGs).all V.one = true := by have := fgt_one (rows_tGs ((tabG h l).take k)); rwa [fgt_tGs] at this
  have r2 : (((owA h l (tabG h l)).take k).map tIs).all V.one = true := by have := fgt_one (rows_tIs ((owA h l (tabG h l)).take k)); rwa [fgt_tIs] at this
  have d1 : ∀ (m : Mm) (i j : Nat), (m.del i).obj j = if j = i then none else m.obj j := fun _ _ _ => rfl
  have d2 : ∀ (m : Mm) (i : Nat), (m.del i).next = m.next := fun _ _ => rfl
  have x1 : ¬ m.next + 6 = gq := by omega
  have x2 : ¬ m.next + 6 = oq := by omega
  have x3 : ¬ oq = m.next + 6 := by omega
  have x4 : ¬ oq = gq := by omega
  have x5 : oq < M'.next := by omega
  have hl4 := h4.out
  generalize ((tabG h l).take k).map tGs = TG at *
  generalize ((owA h l (tabG h l)).take k).map tIs = TO at *
  replace l1 := Hid.mk l1
  replace l2 := Hid.mk l2
  repeat' (with_reducible first | refine x_ops ?_ | refine wk ?_ | ((first | refine gd1 ?_ ?_ | refine gd2 ?_ ?_ | refine gd3 ?_ ?_) <;> (first | exact @False.elim _ | intro hc)))
  refine x_appM (q := gq) (n := k) (j := 1) (cs := TG) (ys := [.sl G.length (G.flatMap Grip.cells) .no]) vw (by (simp only [go_sem, Nat.reduceAdd, Nat.reduceEqDiff, Nat.reduceLT, Nat.reduceLeDiff, Nat.reduceMul, Nat.reduceSub, Nat.reducePow, Nat.reduceDiv, Nat.reduceMod, Nat.reduceBEq, Int.reduceBEq, Int.reduceLT, reduceIte, V.norms, V.norm, tIs, tBs, tPs, *]); rfl) vw (by have := l1.out; omega) (by rw [t1']; exact r1) (by have := hlt0.out; omega) (by unfold Go.maxLen; have := hlt0.out; omega) ?_
  rw [t1']
  clear s1'
  repeat' (with_reducible first | refine x_ops ?_ | refine wk ?_ | ((first | refine gd1 ?_ ?_ | refine gd2 ?_ ?_ | refine gd3 ?_ ?_) <;> (first | exact @False.elim _ | intro hc)))
  refine x_appM (q := oq) (n := k) (j := 1) (cs := TO) (ys := [.sl G.length (O.map vint) .no]) vw (by (simp only [go_sem, Nat.reduceAdd, Nat.reduceEqDiff, Nat.reduceLT, Nat.reduceLeDiff, Nat.reduceMul, Nat.reduceSub, Nat.reducePow, Nat.reduceDiv, Nat.reduceMod, Nat.reduceBEq, Int.reduceBEq, Int.reduceLT, reduceIte, V.norms, V.norm, tIs, tBs, tPs, *]); rfl) vw (by have := l2.out; omega) (by rw [t2']; exact r2) (by have := hlt0.out; omega) (by unfold Go.maxLen; have := hlt0.out; omega) ?_
  rw [t2']
  clear s2'
  repeat' (with_reducible first | refine x_ops ?_ | refine wk ?_ | ((first | refine gd1 ?_ ?_ | refine gd2 ?_ ?_ | refine gd3 ?_ ?_) <;> (first | exact @False.elim _ | intro hc)))
  have lw : ∀ q, q < M.next → q ≠ m.next + 6 → q ≠ gq → q ≠ oq → ∀ (a b c : AObj) (n1 n2 : Nat), (((((Mm.put (Mm.del ⟨M'.obj, n1⟩ gq) (M'.next + 7) a).put (m.next + 6) b).del oq).put (M'.next + 18) c).put (m.next + 6) b).obj q = M.obj q := fun q h1 h2 h3 h4 a b c n1 n2 => by
    simp only [put_obj, d1]; repeat rw [if_neg (by omega)]
    exact low.out q h1
  refine nx hlt0.out ⟨vv, M'.next + 7, M'.next + 18, .gsl (M'.next + 7) (k + 1) 1, .gsl (M'.next + 18) (k + 1) 1, ⟨?_, ?_, ?_, fun hz => by omega, fun _ => ⟨⟨rfl, rfl⟩, ⟨?_, ?_⟩, ⟨by omega, by omega, by omega⟩, ?_, ?_⟩, hcn.out, fun q hq => ?_⟩⟩
  · show m.next + 6 < M'.next + 22; omega
  · simp only [put_obj, d1]; repeat rw [if_neg (by omega)]
    exact (low.out m.next n0).trans hs0.out.ho
  · unfold netC tCs; ((refine ve ?_; try exact True.intro)); simp [tIs, tBs]
  · simp only [put_obj, d1]; repeat rw [if_neg (by omega)]
    rw [htg.out, if_pos True.intro]; rfl
  · simp only [put_obj, d1]; repeat rw [if_neg (by omega)]
    rw [hto.out, if_pos True.intro, tIs, hhO.out]
  · show M'.next + 7 < M'.next + 22; omega
  · show M'.next + 18 < M'.next + 22; omega
  · simp only [put_obj, d1]; repeat rw [if_neg (by omega)]
    exact (low.out q (by omega)).trans (hs0.out.fr q hq)
end Go.Proofs.Ytojjdkoglhecbaa
namespace Go.Proofs.Ytojjdkoglhecbaa
open Go.RowKit

theorem grR_net {h : Hand} {c : Chord} (hk : HandOk h) (hc : ChordOk c) : grR h c = if (grpA h c).length ≤ 200 then (grpA h c, 0) else ([], 2) := by
  have h1 : chkE h = 0 := by unfold chkE; simp [hk]
  rw [grR, if_pos h1, if_pos (rgt_true.2 hc)]

end Go.Proofs.Ytojjdkoglhecbaa
