/- The best fingering of a net, in plain terms. Nothing is run here. The least costs of a net, in plain terms. Nothing is run here. What each grip's node lists, in plain terms: all ways to the end, in order. Nothing is run here. Tails, as the reference's search makes them: values, and what is left where only the first few are kept. Nothing is run here. Where a node stands: what it has found, and what is in its queue, in plain terms. Nothing is run here. Where nodes stand at first: the first ways, in plain terms. Nothing is run here. The reference's search, run: a fingering out of a tail. Functions of the program, as code on values by numbers: printed by a program from the program that was given, and held against it here. All frets and positions raised: plain. rest and chosen of the laws, on values. The law HandRaised, on values. The grips are in order and different; what fits, once more: plain. What fits by the chapter, and which grip comes before another, on values. fits of the laws, on values. fits of the laws, on values: the whole. The law HandGripsFit, on values. All fingerings are listed, in order: in plain terms. Nothing is run here. All fingerings are listed, in order: from the ways of each grip. Nothing is run here. The first of all ways is the best one: two roads to the same fingering. Nothing is run here. One fingering comes before another one, run. The lister in memory, with nodes that have found some ways: what it means, and what may change beside it. Nothing is run here. The lister, run: what is due in a node goes into its queue. The lister, run: a node finds one more way. -/
import Derived.Test.YtojjdkoglhecbaaG0
import Derived.Test.YtojjdkoglhecbaaWk
import Derived.Test.YtojjdkoglhecbaaVB03
import Derived.Test.YtojjdkoglhecbaaVB04
import Derived.Test.YtojjdkoglhecbaaXw
import Derived.Test.YtojjdkoglhecbaaVB06
import Derived.Test.YtojjdkoglhecbaaVB07
set_option linter.unusedSimpArgs false
set_option linter.unusedVariables false
namespace Go.Proofs.Ytojjdkoglhecbaa
open Go.RowKit

/-- The first of some ways. -/
noncomputable def bstW (L : List Way) : Way := (Classical.choose (heap_ex L)).getD 0 noW
theorem mem_getW {L : List Way} {w : Way} (h : w ∈ L) : ∃ j, j < L.length ∧ L.getD j noW = w := by
  obtain ⟨j, hj, e⟩ := List.mem_iff_getElem.1 h
  exact ⟨j, hj, by rw [List.getD_eq_getElem?_getD, List.getElem?_eq_getElem hj]; exact e⟩
theorem heap_min {H L : List Way} (hh : HpOk H) (hp : H.Perm L) (hL : L ≠ []) : H.getD 0 noW ∈ L ∧ ∀ w ∈ L, befW w (H.getD 0 noW) = false := by
  have h0 : 0 < H.length := by rw [hp.length_eq]; exact List.length_pos_iff.2 hL
  refine ⟨hp.mem_iff.1 (mem_getD _ h0), fun w hw => ?_⟩
  obtain ⟨j, hj, rfl⟩ := mem_getW (hp.mem_iff.2 hw)
  exact hp_min hh j hj
theorem bstW_ok {L : List Way} (hL : L ≠ []) : bstW L ∈ L ∧ ∀ w ∈ L, befW w (bstW L) = false := by
  have h := Classical.choose_spec (heap_ex L)
  exact heap_min h.1 h.2 hL
theorem befW_cost {a b : Way} (h : befW a b = false) : b.1 ≤ a.1 := by
  unfold befW at h
  split at h <;> simp only [decide_eq_false_iff_not] at h <;> omega

section
variable {h : Hand} {l : List Chord} {Gs : List (List Grip)}
theorem wayL_mem {i k : Nat} : ∀ {j : Nat} {w : Way}, w ∈ wayL h l Gs i k j → ∃ q, q < j ∧ ¬ (rsT h l Gs (i + 1)).getD q 0 = -1 ∧ (stepR h (l.getD i noC) ((Gs.getD i []).getD k noG) (l.getD (i + 1) noC) ((Gs.getD (i + 1) []).getD q noG)).2 = true ∧
    w = (ownC h (l.getD i noC) ((Gs.getD i []).getD k noG) + (stepR h (l.getD i noC) ((Gs.getD i []).getD k noG) (l.getD (i + 1) noC) ((Gs.getD (i + 1) []).getD q noG)).1 + (rsT h l Gs (i + 1)).getD q 0, (q : Int), 0)
  | 0, w, hw => by simp [wayL] at hw
  | j + 1, w, hw => by
    rw [wayL] at hw
    split at hw
    · obtain ⟨q, h1, h2⟩ := wayL_mem hw; exact ⟨q, by omega, h2⟩
    · rename_i hc
      rcases List.mem_append.1 hw with hw | hw
      · obtain ⟨q, h1, h2⟩ := wayL_mem hw; exact ⟨q, by omega, h2⟩
      · rw [List.mem_singleton] at hw
        refine ⟨j, by omega, fun e => hc (.inl e), ?_, hw⟩
        cases hs : (stepR h (l.getD i noC) ((Gs.getD i []).getD k noG) (l.getD (i + 1) noC) ((Gs.getD (i + 1) []).getD j noG)).2
        · exact absurd (.inr hs) hc
        · rfl
theorem rtL_mem : ∀ {j : Nat} {w : Way}, w ∈ rtL h l Gs j → ∃ q, q < j ∧ ¬ (rsT h l Gs 0).getD q 0 = -1 ∧ w = ((rsT h l Gs 0).getD q 0, (q : Int), 0)
  | 0, w, hw => by simp [rtL] at hw
  | j + 1, w, hw => by
    rw [rtL] at hw
    split at hw
    · obtain ⟨q, h1, h2⟩ := rtL_mem hw; exact ⟨q, by omega, h2⟩
    · rename_i hc
      rcases List.mem_append.1 hw with hw | hw
      · obtain ⟨q, h1, h2⟩ := rtL_mem hw; exact ⟨q, by omega, h2⟩
      · rw [List.mem_singleton] at hw; exact ⟨j, by omega, hc, hw⟩
theorem rtL_has : ∀ {j q : Nat}, q < j → ¬ (rsT h l Gs 0).getD q 0 = -1 → ((rsT h l Gs 0).getD q 0, (q : Int), 0) ∈ rtL h l Gs j
  | 0, q, hq, _ => by omega
  | j + 1, q, hq, hn => by
    rw [rtL]
    by_cases e : q = j
    · subst e; rw [if_neg hn]; exact List.mem_append.2 (.inr (List.mem_singleton.2 rfl))
    · have := rtL_has (j := j) (q := q) (by omega) hn
      split
      · exact this
      · exact List.mem_append.2 (.inl this)
/-- The least cost is that of the first way. -/
theorem bsU_way (hn : NetOk h l Gs) {i k : Nat} (hi : i + 1 < l.length) (hk : k < (Gs.getD i []).length) : ∀ {j : Nat}, j ≤ (Gs.getD (i + 1) []).length →
    (bsU h (l.getD i noC) ((Gs.getD i []).getD k noG) (l.getD (i + 1) noC) (Gs.getD (i + 1) []) (rsT h l Gs (i + 1)) j = -1 ∧ wayL h l Gs i k j = []) ∨
    (0 ≤ bsU h (l.getD i noC) ((Gs.getD i []).getD k noG) (l.getD (i + 1) noC) (Gs.getD (i + 1) []) (rsT h l Gs (i + 1)) j ∧ (∃ w ∈ wayL h l Gs i k j, w.1 = bsU h (l.getD i noC) ((Gs.getD i []).getD k noG) (l.getD (i + 1) noC) (Gs.getD (i + 1) []) (rsT h l Gs (i + 1)) j) ∧
      ∀ u ∈ wayL h l Gs i k j, bsU h (l.getD i noC) ((Gs.getD i []).getD k noG) (l.getD (i + 1) noC) (Gs.getD (i + 1) []) (rsT h l Gs (i + 1)) j ≤ u.1)
  | 0, _ => .inl ⟨rfl, rfl⟩
  | j + 1, hj => by
    have ih := bsU_way hn hi hk (j := j) (by omega)
    have hi0 : i < l.length := by omega
    have hown := own_bound hn.hk (hn.seq i hi0).1 (hn.grip hi0 hk).1
    have hsb := stepB hn hi hk (m := j) (by omega)
    have hNb := rsT_bound hn _ (i + 1) rfl hi j (by omega)
    by_cases hN : (rsT h l Gs (i + 1)).getD j 0 = -1
    · rw [bsU, wayL, if_pos hN, if_pos (.inl hN)]; exact ih
    have hN0 : 0 ≤ (rsT h l Gs (i + 1)).getD j 0 := by rcases hNb with h1 | h1; exact absurd h1 hN; exact h1.1
    by_cases hs : StepOk h (l.getD i noC) ((Gs.getD i []).getD k noG) (l.getD (i + 1) noC) ((Gs.getD (i + 1) []).getD j noG)
    case neg => rw [bsU, wayL, if_neg hN, stepR_no hs, if_neg (by simp), if_pos (.inr rfl)]; exact ih
    rw [stepR_ok hs] at hsb
    have e1 : bsU h (l.getD i noC) ((Gs.getD i []).getD k noG) (l.getD (i + 1) noC) (Gs.getD (i + 1) []) (rsT h l Gs (i + 1)) (j + 1) = if bsU h (l.getD i noC) ((Gs.getD i []).getD k noG) (l.getD (i + 1) noC) (Gs.getD (i + 1) []) (rsT h l Gs (i + 1)) j = -1 ∨
        ownC h (l.getD i noC) ((Gs.getD i []).getD k noG) + stepC h (l.getD i noC) ((Gs.getD i []).getD k noG) (l.getD (i + 1) noC) ((Gs.getD (i + 1) []).getD j noG) + (rsT h l Gs (i + 1)).getD j 0 < bsU h (l.getD i noC) ((Gs.getD i []).getD k noG) (l.getD (i + 1) noC) (Gs.getD (i + 1) []) (rsT h l Gs (i + 1)) j
        then ownC h (l.getD i noC) ((Gs.getD i []).getD k noG) + stepC h (l.getD i noC) ((Gs.getD i []).getD k noG) (l.getD (i + 1) noC) ((Gs.getD (i + 1) []).getD j noG) + (rsT h l Gs (i + 1)).getD j 0
        else bsU h (l.getD i noC) ((Gs.getD i []).getD k noG) (l.getD (i + 1) noC) (Gs.getD (i + 1) []) (rsT h l Gs (i + 1)) j := by rw [bsU, if_neg hN, stepR_ok hs, if_pos rfl]
    have e2 : wayL h l Gs i k (j + 1) = wayL h l Gs i k j ++ [(ownC h (l.getD i noC) ((Gs.getD i []).getD k noG) + stepC h (l.getD i noC) ((Gs.getD i []).getD k noG) (l.getD (i + 1) noC) ((Gs.getD (i + 1) []).getD j noG) + (rsT h l Gs (i + 1)).getD j 0, (j : Int), 0)] := by
      rw [wayL, stepR_ok hs, if_neg (fun hh => hh.elim hN (fun e => by cases e))]
    rw [e1, e2]
    generalize bsU h (l.getD i noC) ((Gs.getD i []).getD k noG) (l.getD (i + 1) noC) (Gs.getD (i + 1) []) (rsT h l Gs (i + 1)) j = p at *
    generalize wayL h l Gs i k j = W at *
    have hc0 : 0 ≤ ownC h (l.getD i noC) ((Gs.getD i []).getD k noG) + stepC h (l.getD i noC) ((Gs.getD i []).getD k noG) (l.getD (i + 1) noC) ((Gs.getD (i + 1) []).getD j noG) + (rsT h l Gs (i + 1)).getD j 0 := by dsimp only at hsb; omega
    generalize ownC h (l.getD i noC) ((Gs.getD i []).getD k noG) + stepC h (l.getD i noC) ((Gs.getD i []).getD k noG) (l.getD (i + 1) noC) ((Gs.getD (i + 1) []).getD j noG) + (rsT h l Gs (i + 1)).getD j 0 = c at *
    refine .inr ?_
    rcases ih with ⟨hp, rfl⟩ | ⟨hp, ⟨w, hw, hwc⟩, hle⟩
    · rw [if_pos (.inl hp)]
      exact ⟨hc0, ⟨_, List.mem_append.2 (.inr (List.mem_singleton.2 rfl)), rfl⟩, fun u hu => by
        rw [List.nil_append, List.mem_singleton] at hu; subst hu; exact Int.le_refl _⟩
    · by_cases hlt : c < p
      · rw [if_pos (.inr hlt)]
        refine ⟨hc0, ⟨_, List.mem_append.2 (.inr (List.mem_singleton.2 rfl)), rfl⟩, fun u hu => ?_⟩
        rcases List.mem_append.1 hu with hu | hu
        · have := hle u hu; omega
        · rw [List.mem_singleton] at hu; subst hu; exact Int.le_refl _
      · rw [if_neg (by rintro (h1 | h1); omega; exact hlt h1)]
        refine ⟨hp, ⟨w, List.mem_append.2 (.inl hw), hwc⟩, fun u hu => ?_⟩
        rcases List.mem_append.1 hu with hu | hu
        · exact hle u hu
        · rw [List.mem_singleton] at hu; subst hu; show p ≤ c; omega
/-- A grip that leads to the end has ways; the first of them costs what the table says. -/
theorem wayF_ok (hn : NetOk h l Gs) {i k : Nat} (hi : i < l.length) (hk : k < (Gs.getD i []).length) (hr : ¬ (rsT h l Gs i).getD k 0 = -1) :
    wayF h l Gs i k ≠ [] ∧ (bstW (wayF h l Gs i k)).1 = (rsT h l Gs i).getD k 0 ∧ (bstW (wayF h l Gs i k)).2.2 = 0 ∧
    (i + 1 < l.length → ∃ q : Nat, (bstW (wayF h l Gs i k)).2.1 = (q : Int) ∧ q < (Gs.getD (i + 1) []).length ∧ ¬ (rsT h l Gs (i + 1)).getD q 0 = -1 ∧ StepOk h (l.getD i noC) ((Gs.getD i []).getD k noG) (l.getD (i + 1) noC) ((Gs.getD (i + 1) []).getD q noG) ∧
      (rsT h l Gs i).getD k 0 = ownC h (l.getD i noC) ((Gs.getD i []).getD k noG) + stepC h (l.getD i noC) ((Gs.getD i []).getD k noG) (l.getD (i + 1) noC) ((Gs.getD (i + 1) []).getD q noG) + (rsT h l Gs (i + 1)).getD q 0) := by
  rw [rsT_at hi hk, rsE] at hr ⊢
  by_cases hlast : i + 1 = l.length
  · rw [if_pos hlast] at hr ⊢
    have e : wayF h l Gs i k = [(ownC h (l.getD i noC) ((Gs.getD i []).getD k noG), -1, 0)] := by rw [wayF, wayB, if_pos hlast, if_pos hlast, wayL, List.append_nil]
    rw [e]
    have hb := (bstW_ok (L := [(ownC h (l.getD i noC) ((Gs.getD i []).getD k noG), (-1 : Int), (0 : Int))]) (by simp)).1
    rw [List.mem_singleton] at hb
    rw [hb]
    exact ⟨by simp, rfl, rfl, fun h1 => by omega⟩
  · rw [if_neg hlast] at hr ⊢
    have hi1 : i + 1 < l.length := by omega
    have e : wayF h l Gs i k = wayL h l Gs i k (Gs.getD (i + 1) []).length := by rw [wayF, wayB, if_neg hlast, if_neg hlast, List.nil_append, rsT_len hi1]
    rw [e]
    rcases bsU_way hn hi1 hk (Nat.le_refl _) with ⟨h1, _⟩ | ⟨h1, ⟨w, hw, hwc⟩, hle⟩
    · exact absurd h1 hr
    have hne : wayL h l Gs i k (Gs.getD (i + 1) []).length ≠ [] := fun e => by rw [e] at hw; cases hw
    obtain ⟨b1, b2⟩ := bstW_ok hne
    have hc : (bstW (wayL h l Gs i k (Gs.getD (i + 1) []).length)).1 = bsU h (l.getD i noC) ((Gs.getD i []).getD k noG) (l.getD (i + 1) noC) (Gs.getD (i + 1) []) (rsT h l Gs (i + 1)) (Gs.getD (i + 1) []).length := by
      have := befW_cost (b2 w hw)
      have := hle _ b1
      omega
    obtain ⟨q, q1, q2, q3, q4⟩ := wayL_mem b1
    have hso : StepOk h (l.getD i noC) ((Gs.getD i []).getD k noG) (l.getD (i + 1) noC) ((Gs.getD (i + 1) []).getD q noG) := by
      by_cases hx : StepOk h (l.getD i noC) ((Gs.getD i []).getD k noG) (l.getD (i + 1) noC) ((Gs.getD (i + 1) []).getD q noG)
      · exact hx
      · rw [stepR_no hx] at q3; cases q3
    refine ⟨hne, hc, by rw [q4], fun _ => ⟨q, by rw [q4], q1, q2, hso, ?_⟩⟩
    rw [← hc, q4, stepR_ok hso]
end
end Go.Proofs.Ytojjdkoglhecbaa
namespace Go.Proofs.Ytojjdkoglhecbaa
open Go.RowKit

/-- The least cost from a grip on, by numbers. -/
noncomputable def lst (h : Hand) (l : List Chord) (Gs : List (List Grip)) (i k : Nat) : Int := (rsT h l Gs i).getD k 0
/-- The grip k of the chord i. -/
def grp (Gs : List (List Grip)) (i k : Nat) : Grip := (Gs.getD i []).getD k noG

section
variable {h : Hand} {l : List Chord} {Gs : List (List Grip)}
theorem lst_last {i k : Nat} (hi : i + 1 = l.length) (hk : k < (Gs.getD i []).length) : lst h l Gs i k = ownC h (l.getD i noC) (grp Gs i k) := by
  rw [lst, rsT_at (by omega) hk, rsE, if_pos hi]; rfl
theorem wayL_has {i k q : Nat} (hq : ¬ lst h l Gs (i + 1) q = -1) (hs : StepOk h (l.getD i noC) (grp Gs i k) (l.getD (i + 1) noC) (grp Gs (i + 1) q)) : ∀ {j : Nat}, q < j →
    (ownC h (l.getD i noC) (grp Gs i k) + stepC h (l.getD i noC) (grp Gs i k) (l.getD (i + 1) noC) (grp Gs (i + 1) q) + lst h l Gs (i + 1) q, (q : Int), 0) ∈ wayL h l Gs i k j
  | 0, h0 => by omega
  | j + 1, h0 => by
    unfold lst grp at *
    rw [wayL]
    by_cases e : q = j
    · subst e
      rw [stepR_ok hs, if_neg (by rintro (h1 | h1); exact hq h1; cases h1)]
      exact List.mem_append.2 (.inr (List.mem_singleton.2 rfl))
    · have := wayL_has hq hs (j := j) (by omega)
      unfold lst grp at this
      split
      · exact this
      · exact List.mem_append.2 (.inl this)
/-- A step to a grip that leads to the end. -/
theorem lst_ub (hn : NetOk h l Gs) {i k q : Nat} (hi : i + 1 < l.length) (hk : k < (Gs.getD i []).length) (hq : q < (Gs.getD (i + 1) []).length) (h1 : ¬ lst h l Gs (i + 1) q = -1)
    (hs : StepOk h (l.getD i noC) (grp Gs i k) (l.getD (i + 1) noC) (grp Gs (i + 1) q)) :
    ¬ lst h l Gs i k = -1 ∧ lst h l Gs i k ≤ ownC h (l.getD i noC) (grp Gs i k) + stepC h (l.getD i noC) (grp Gs i k) (l.getD (i + 1) noC) (grp Gs (i + 1) q) + lst h l Gs (i + 1) q := by
  have hm := wayL_has (k := k) h1 hs hq
  have e : lst h l Gs i k = bsU h (l.getD i noC) ((Gs.getD i []).getD k noG) (l.getD (i + 1) noC) (Gs.getD (i + 1) []) (rsT h l Gs (i + 1)) (Gs.getD (i + 1) []).length := by
    rw [lst, rsT_at (by omega) hk, rsE, if_neg (by omega)]
  rcases bsU_way hn hi hk (Nat.le_refl _) with ⟨_, h2⟩ | ⟨h2, _, h3⟩
  · rw [h2] at hm; cases hm
  · have := h3 _ hm
    rw [e]; dsimp only at this; exact ⟨by omega, this⟩
/-- Where there is a way, it is one of them. -/
theorem lst_eq (hn : NetOk h l Gs) {i k : Nat} (hi : i + 1 < l.length) (hk : k < (Gs.getD i []).length) (h1 : ¬ lst h l Gs i k = -1) :
    ∃ q, q < (Gs.getD (i + 1) []).length ∧ ¬ lst h l Gs (i + 1) q = -1 ∧ StepOk h (l.getD i noC) (grp Gs i k) (l.getD (i + 1) noC) (grp Gs (i + 1) q) ∧
      lst h l Gs i k = ownC h (l.getD i noC) (grp Gs i k) + stepC h (l.getD i noC) (grp Gs i k) (l.getD (i + 1) noC) (grp Gs (i + 1) q) + lst h l Gs (i + 1) q := by
  obtain ⟨q, _, h2, h3, h4, h5⟩ := (wayF_ok hn (by omega) hk h1).2.2.2 hi
  exact ⟨q, h2, h3, h4, h5⟩
theorem lst_own (hn : NetOk h l Gs) {i k : Nat} (hi : i < l.length) (hk : k < (Gs.getD i []).length) : 0 ≤ ownC h (l.getD i noC) (grp Gs i k) := (own_bound hn.hk (hn.seq i hi).1 (hn.grip hi hk).1).1
end
end Go.Proofs.Ytojjdkoglhecbaa
namespace Go.Proofs.Ytojjdkoglhecbaa
open Go.RowKit

/-- The own cost of a grip, and the step between two, by numbers. -/
noncomputable def owG (h : Hand) (l : List Chord) (Gs : List (List Grip)) (i k : Nat) : Int := ownC h (l.getD i noC) ((Gs.getD i []).getD k noG)
noncomputable def stG (h : Hand) (l : List Chord) (Gs : List (List Grip)) (i k m : Nat) : Int × Bool := stepR h (l.getD i noC) ((Gs.getD i []).getD k noG) (l.getD (i + 1) noC) ((Gs.getD (i + 1) []).getD m noG)
noncomputable def tlD (h : Hand) (l : List Chord) (Gs : List (List Grip)) : Nat → Nat → Nat → List Way
  | 0, i, k => [(owG h l Gs i k, -1, 0)]
  | d + 1, i, k => mrg (Gs.getD (i + 1) []).length fun m => if (stG h l Gs i k m).2 = true then (tlD h l Gs d (i + 1) m).map fun w => owG h l Gs i k + (stG h l Gs i k m).1 + w.1 else []
/-- What the grip k of the chord i lists. -/
noncomputable def tl (h : Hand) (l : List Chord) (Gs : List (List Grip)) (i k : Nat) : List Way := tlD h l Gs (l.length - 1 - i) i k
/-- The costs by way of the grip m. -/
noncomputable def tlC (h : Hand) (l : List Chord) (Gs : List (List Grip)) (i k m : Nat) : List Int := if (stG h l Gs i k m).2 = true then (tl h l Gs (i + 1) m).map fun w => owG h l Gs i k + (stG h l Gs i k m).1 + w.1 else []
/-- What the beginning lists. -/
noncomputable def rtC (h : Hand) (l : List Chord) (Gs : List (List Grip)) (k : Nat) : List Int := (tl h l Gs 0 k).map (·.1)
noncomputable def rtT (h : Hand) (l : List Chord) (Gs : List (List Grip)) : List Way := mrg (Gs.getD 0 []).length (rtC h l Gs)
section
variable {h : Hand} {l : List Chord} {Gs : List (List Grip)}
theorem tl_last {i k : Nat} (hi : i + 1 = l.length) : tl h l Gs i k = [(owG h l Gs i k, -1, 0)] := by rw [tl, show l.length - 1 - i = 0 by omega, tlD]
theorem tl_s {i k : Nat} (hi : i + 1 < l.length) : tl h l Gs i k = mrg (Gs.getD (i + 1) []).length (tlC h l Gs i k) := by
  rw [tl, show l.length - 1 - i = (l.length - 1 - (i + 1)) + 1 by omega, tlD]; rfl
theorem stp_of {i k m : Nat} (hs : (stG h l Gs i k m).2 = true) : StepOk h (l.getD i noC) (grp Gs i k) (l.getD (i + 1) noC) (grp Gs (i + 1) m) := by
  refine Classical.byContradiction fun hc => ?_
  rw [stG, show stepR h (l.getD i noC) ((Gs.getD i []).getD k noG) (l.getD (i + 1) noC) ((Gs.getD (i + 1) []).getD m noG) = (0, false) from stepR_no hc] at hs
  cases hs
theorem asc_map {L : List Way} {x : Int} (h : Asc (L.map (·.1))) : Asc (L.map fun w => x + w.1) := by
  intro i j hij hj
  rw [List.length_map] at hj
  have h1 := h i j hij (by rw [List.length_map]; exact hj)
  rw [List.getD_eq_getElem?_getD, List.getD_eq_getElem?_getD, List.getElem?_map, List.getElem?_map, List.getElem?_eq_getElem (by omega), List.getElem?_eq_getElem hj] at h1 ⊢
  simp only [Option.map_some, Option.getD_some] at h1 ⊢
  omega
theorem asc_nil : Asc [] := fun i j _ hj => by simp at hj
theorem tl_asc {i k : Nat} (hi : i < l.length) : Asc ((tl h l Gs i k).map (·.1)) := by
  by_cases e : i + 1 = l.length
  · rw [tl_last e]
    intro a b hab hb
    simp at hb
    have : a = b := by omega
    subst this; exact Int.le_refl _
  · rw [tl_s (by omega)]; exact mrg_asc
theorem tlC_asc {i k m : Nat} (hi : i + 1 < l.length) : Asc (tlC h l Gs i k m) := by
  rw [tlC]; split
  · exact asc_map (tl_asc hi)
  · exact asc_nil
theorem rtC_asc (hl : 0 < l.length) {k : Nat} : Asc (rtC h l Gs k) := tl_asc hl
theorem getD_mapW {L : List Way} {f : Way → Int} {r : Nat} (hr : r < L.length) : (L.map f).getD r 0 = f (L.getD r noW) := by
  rw [List.getD_eq_getElem?_getD, List.getElem?_map, List.getD_eq_getElem?_getD, List.getElem?_eq_getElem hr]; rfl
theorem tlC_at {i k m r : Nat} (hs : (stG h l Gs i k m).2 = true) (hr : r < (tl h l Gs (i + 1) m).length) : (tlC h l Gs i k m).getD r 0 = owG h l Gs i k + (stG h l Gs i k m).1 + ((tl h l Gs (i + 1) m).getD r noW).1 := by
  rw [tlC, if_pos hs, getD_mapW hr]
theorem tlC_len {i k m : Nat} : (tlC h l Gs i k m).length = if (stG h l Gs i k m).2 = true then (tl h l Gs (i + 1) m).length else 0 := by
  rw [tlC]; split
  · rw [List.length_map]
  · rfl
theorem mem_nthW {L : List Way} {j : Nat} (hj : j < L.length) : L.getD j noW ∈ L := by
  rw [List.getD_eq_getElem?_getD, List.getElem?_eq_getElem hj]; exact List.getElem_mem hj
/-- The costs are small; the next grip and its rank are there. -/
theorem tl_ok (hn : NetOk h l Gs) : ∀ d i, l.length - 1 - i = d → i < l.length → ∀ k, k < (Gs.getD i []).length → ∀ w ∈ tl h l Gs i k, 0 ≤ w.1 ∧ w.1 ≤ 509000 * (l.length - i : Nat) ∧
    (i + 1 = l.length → w = (owG h l Gs i k, -1, 0)) ∧ (i + 1 < l.length → ∃ m r : Nat, m < (Gs.getD (i + 1) []).length ∧ (stG h l Gs i k m).2 = true ∧ r < (tl h l Gs (i + 1) m).length ∧ w = (owG h l Gs i k + (stG h l Gs i k m).1 + ((tl h l Gs (i + 1) m).getD r noW).1, (m : Int), (r : Int))) := by
  intro d
  induction d with
  | zero =>
    intro i hd hi k hk w hw
    have e : i + 1 = l.length := by omega
    rw [tl_last e, List.mem_singleton] at hw
    have ho := own_bound hn.hk (hn.seq i hi).1 (hn.grip hi hk).1
    subst hw
    refine ⟨?_, ?_, fun _ => rfl, fun h1 => by omega⟩
    · exact ho.1
    · have := ho.2; show owG h l Gs i k ≤ _; unfold owG; omega
  | succ d ih =>
    intro i hd hi k hk w hw
    have hi1 : i + 1 < l.length := by omega
    rw [tl_s hi1, mem_mrg] at hw
    obtain ⟨m, r, hm, hr, rfl⟩ := hw
    have hs : (stG h l Gs i k m).2 = true := by
      rw [tlC_len] at hr
      split at hr
      · assumption
      · omega
    have hr1 : r < (tl h l Gs (i + 1) m).length := by rw [tlC_len, if_pos hs] at hr; exact hr
    have ho := own_bound hn.hk (hn.seq i hi).1 (hn.grip hi hk).1
    have hst := stepB hn hi1 hk hm
    have hw := ih (i + 1) (by omega) hi1 m hm _ (mem_nthW hr1)
    rw [tlC_at hs hr1]
    refine ⟨?_, ?_, fun h1 => by omega, fun _ => ⟨m, r, hm, hs, hr1, rfl⟩⟩
    · have := ho.1; have := hst.1; have := hw.1; dsimp only; unfold owG stG; omega
    · have := ho.2; have := hst.2; have := hw.2.1; dsimp only; unfold owG stG; omega
/-- The first one has the least cost; there is none where there is no way. -/
theorem tl_first (hn : NetOk h l Gs) : ∀ d i, l.length - 1 - i = d → i < l.length → ∀ k, k < (Gs.getD i []).length → (tl h l Gs i k = [] ↔ lst h l Gs i k = -1) ∧ (tl h l Gs i k ≠ [] → ((tl h l Gs i k).getD 0 noW).1 = lst h l Gs i k) := by
  intro d
  induction d with
  | zero =>
    intro i hd hi k hk
    have e : i + 1 = l.length := by omega
    rw [tl_last e, lst_last e hk]
    have ho := lst_own hn hi hk
    refine ⟨⟨(fun h1 => by cases h1), fun h1 => by omega⟩, fun _ => rfl⟩
  | succ d ih =>
    intro i hd hi k hk
    have hi1 : i + 1 < l.length := by omega
    have hne : tl h l Gs i k ≠ [] → 0 < (tl h l Gs i k).length := List.length_pos_iff.2
    have key : ∀ m, m < (Gs.getD (i + 1) []).length → StepOk h (l.getD i noC) (grp Gs i k) (l.getD (i + 1) noC) (grp Gs (i + 1) m) → ¬ lst h l Gs (i + 1) m = -1 →
        (tlC h l Gs i k m).length ≠ 0 ∧ (tlC h l Gs i k m).getD 0 0 = ownC h (l.getD i noC) (grp Gs i k) + stepC h (l.getD i noC) (grp Gs i k) (l.getD (i + 1) noC) (grp Gs (i + 1) m) + lst h l Gs (i + 1) m := by
      intro m hm hs hN
      have h1 := ih (i + 1) (by omega) hi1 m hm
      have h2 : tl h l Gs (i + 1) m ≠ [] := fun e => hN (h1.1.1 e)
      have h3 := List.length_pos_iff.2 h2
      have hst : stG h l Gs i k m = (stepC h (l.getD i noC) (grp Gs i k) (l.getD (i + 1) noC) (grp Gs (i + 1) m), true) := by rw [stG]; exact stepR_ok hs
      have hs2 : (stG h l Gs i k m).2 = true := by rw [hst]
      rw [tlC_len, if_pos hs2]
      refine ⟨by omega, ?_⟩
      rw [tlC_at hs2 h3, h1.2 h2, hst]; rfl
    have h0 := grd_0 (n := (Gs.getD (i + 1) []).length) (c := tlC h l Gs i k)
    have hmore := grd_more (n := (Gs.getD (i + 1) []).length) (c := tlC h l Gs i k) (fun m _ => tlC_asc hi1) h0
    rw [← tl_s hi1] at hmore
    replace hmore := Hid.mk hmore
    have back : ∀ m, m < (Gs.getD (i + 1) []).length → 0 < (tlC h l Gs i k m).length → StepOk h (l.getD i noC) (grp Gs i k) (l.getD (i + 1) noC) (grp Gs (i + 1) m) ∧ ¬ lst h l Gs (i + 1) m = -1 := by
      intro m hm hlen
      rw [tlC_len] at hlen
      split at hlen
      case isFalse => omega
      rename_i hs
      have h1 := ih (i + 1) (by omega) hi1 m hm
      refine ⟨stp_of hs, fun e => ?_⟩
      rw [h1.1.2 e] at hlen
      simp at hlen
    have fwd : 0 < (tl h l Gs i k).length → ¬ lst h l Gs i k = -1 := fun hp => by
      obtain ⟨m, hm, ha⟩ := hmore.out.1 hp
      obtain ⟨b1, b2⟩ := back m hm ha
      exact (lst_ub hn hi1 hk hm b2 b1).1
    refine ⟨⟨fun e => ?_, fun e => ?_⟩, fun hne' => ?_⟩
    · refine Classical.byContradiction fun hN => ?_
      obtain ⟨q, q1, q2, q3, q4⟩ := lst_eq hn hi1 hk hN
      have := hmore.out.2 ⟨q, q1, by have := (key q q1 q3 q2).1; show 0 < (tlC h l Gs i k q).length; omega⟩
      rw [e] at this
      simp at this
    · refine Classical.byContradiction fun hne' => ?_
      exact fwd (hne hne') e
    · have hp := hne hne'
      have hN := fwd hp
      obtain ⟨q, q1, q2, q3, q4⟩ := lst_eq hn hi1 hk hN
      have kq := key q q1 q3 q2
      have hp' := hp
      rw [tl_s hi1] at hp' ⊢
      obtain ⟨m, m1, m2, m3, _⟩ := grd_next (fun m _ => tlC_asc hi1) h0 hp'
      have m2' : 0 < (tlC h l Gs i k m).length := m2
      obtain ⟨b1, b2⟩ := back m m1 m2'
      have km := key m m1 b1 b2
      have hub := (lst_ub hn hi1 hk m1 b2 b1).2
      have hq := grd_hd h0 hp' q1 (by show 0 < (tlC h l Gs i k q).length; omega)
      rw [m3, lexW_iff] at hq
      rw [m3]
      unfold hdG at hq ⊢
      dsimp only at hq ⊢
      rw [km.2, kq.2] at hq
      rw [km.2]
      omega
end
end Go.Proofs.Ytojjdkoglhecbaa
namespace Go.Proofs.Ytojjdkoglhecbaa
open Go.RowKit

section
variable {h : Hand} {l : List Chord} {Gs : List (List Grip)}
/-- The grips of the ways from a grip on. -/
noncomputable def pthD (h : Hand) (l : List Chord) (Gs : List (List Grip)) : Nat → Nat → Nat → Nat → List Nat
  | 0, i, k, r => [k]
  | d + 1, i, k, r => k :: pthD h l Gs d (i + 1) ((tl h l Gs i k).getD r noW).2.1.toNat ((tl h l Gs i k).getD r noW).2.2.toNat
noncomputable def pth (h : Hand) (l : List Chord) (Gs : List (List Grip)) (i k r : Nat) : List Nat := pthD h l Gs (l.length - 1 - i) i k r
/-- By their grips. -/
def grps (Gs : List (List Grip)) : Nat → List Nat → List Grip
  | _, [] => []
  | i, k :: ks => grp Gs i k :: grps Gs (i + 1) ks
theorem pth_last {i k r : Nat} (hi : i + 1 = l.length) : pth h l Gs i k r = [k] := by rw [pth, show l.length - 1 - i = 0 by omega, pthD]
theorem pth_s {i k r : Nat} (hi : i + 1 < l.length) : pth h l Gs i k r = k :: pth h l Gs (i + 1) ((tl h l Gs i k).getD r noW).2.1.toNat ((tl h l Gs i k).getD r noW).2.2.toNat := by
  rw [pth, show l.length - 1 - i = (l.length - 1 - (i + 1)) + 1 by omega, pthD]; rfl
/-- A fingering: its grips and its cost. -/
noncomputable def fgW (h : Hand) (l : List Chord) (Gs : List (List Grip)) (w : Way) : List Grip × Int := (grps Gs 0 (pth h l Gs 0 w.2.1.toNat w.2.2.toNat), w.1)
/-- The first q fingerings. -/
noncomputable def fgL (h : Hand) (l : List Chord) (Gs : List (List Grip)) (q : Nat) : List (List Grip × Int) := if l.length = 0 then [([], 0)] else ((rtT h l Gs).take q).map (fgW h l Gs)
noncomputable def fgC (f : List Grip × Int) : List V := [tGs f.1, vint f.2]
noncomputable def tFs (L : List (List Grip × Int)) : V := .sl L.length (L.flatMap fgC) .no
end
end Go.Proofs.Ytojjdkoglhecbaa
namespace Go.Proofs.Ytojjdkoglhecbaa
open Go.RowKit

/-- A queue of the heads of lists, after j have been taken; where one is due, that of the list of the last one taken is not in it. -/
structure BagI (n : Nat) (c : Nat → List Int) (j : Nat) (due : Bool) (W : List Way) : Prop where
  len : W.length + (if due = true then 1 else 0) ≤ n
  nd : W.Nodup
  pos : due = true → 0 < j
  grd : ∃ a, Grd n c j a ∧ ∀ w, w ∈ W ↔ ∃ m, m < n ∧ a m < (c m).length ∧ w = hdG c a m ∧ (due = true → (m : Int) ≠ ((mrg n c).getD (j - 1) noW).2.1)
section
variable {n : Nat} {c : Nat → List Int}
theorem bag_le {j : Nat} {due : Bool} {W : List Way} (h : BagI n c j due W) : j ≤ (mrg n c).length := by obtain ⟨a, h1, _⟩ := h.grd; exact h1.le
theorem bag_end (hs : ∀ m, m < n → Asc (c m)) {j : Nat} (h : BagI n c j false []) : j = (mrg n c).length := by
  obtain ⟨a, h1, h2⟩ := h.grd
  have h3 := h1.le
  rcases Nat.lt_or_ge j (mrg n c).length with h4 | h4
  · obtain ⟨m, h5, h6⟩ := (grd_more hs h1).1 h4
    exact absurd ((h2 _).2 ⟨m, h5, h6, rfl, fun e => by cases e⟩) (by simp)
  · omega
theorem bag_pop (hs : ∀ m, m < n → Asc (c m)) {j : Nat} {W W' : List Way} {w : Way} (h : BagI n c j false W) (hw : w ∈ W) (hm : ∀ x ∈ W, befW x w = false) (hp : (w :: W').Perm W) :
    j < (mrg n c).length ∧ (mrg n c).getD j noW = w ∧ BagI n c (j + 1) true W' ∧ 0 ≤ w.2.1 := by
  obtain ⟨a, h1, h2⟩ := h.grd
  obtain ⟨m, m1, m2, rfl, _⟩ := (h2 _).1 hw
  obtain ⟨h3, h4, h5⟩ := grd_pick hs h1 m1 m2 fun x x1 x2 => hm _ ((h2 _).2 ⟨x, x1, x2, rfl, fun e => by cases e⟩)
  have hnd : (hdG c a m :: W').Nodup := hp.nodup_iff.2 h.nd
  have hl := hp.length_eq
  have hlen := h.len
  rw [List.length_cons] at hl
  rw [if_neg (by simp)] at hlen
  refine ⟨h3, h4, ⟨by rw [if_pos rfl]; omega, (List.nodup_cons.1 hnd).2, fun _ => by omega, _, h5, fun w => ?_⟩, by show (0 : Int) ≤ (m : Int); omega⟩
  rw [show j + 1 - 1 = j by omega, h4]
  have hmem : w ∈ W' ↔ w ∈ W ∧ w ≠ hdG c a m := by
    rw [← hp.mem_iff, List.mem_cons]
    constructor
    · intro hw'
      exact ⟨.inr hw', fun e => by subst e; exact (List.nodup_cons.1 hnd).1 hw'⟩
    · rintro ⟨hw' | hw', hne⟩
      · exact absurd hw' hne
      · exact hw'
  rw [hmem, h2]
  constructor
  · rintro ⟨⟨x, x1, x2, rfl, _⟩, hne⟩
    have hxm : x ≠ m := fun e => hne (by rw [e])
    refine ⟨x, x1, by rw [if_neg hxm]; exact x2, by unfold hdG; dsimp only; rw [if_neg hxm], fun _ e => hxm ?_⟩
    unfold hdG at e
    dsimp only at e
    omega
  · rintro ⟨x, x1, x2, rfl, hne⟩
    have hxm : x ≠ m := fun e => hne rfl (by subst e; rfl)
    rw [if_neg hxm] at x2
    refine ⟨⟨x, x1, x2, by unfold hdG; dsimp only; rw [if_neg hxm], fun e => by cases e⟩, fun e => hxm ?_⟩
    have h9 : ((x : Nat) : Int) = (m : Int) := congrArg (fun w : Way => w.2.1) e
    omega
/-- The one that is due: the next of the list that the last one came from. -/
theorem bag_due (hs : ∀ m, m < n → Asc (c m)) {j : Nat} {W : List Way} (h : BagI n c j true W) : ∃ m r : Nat, 0 < j ∧ r < j ∧ m < n ∧ r < (c m).length ∧ (mrg n c).getD (j - 1) noW = ((c m).getD r 0, (m : Int), (r : Int)) ∧
    (r + 1 < (c m).length → BagI n c j false (W ++ [((c m).getD (r + 1) 0, (m : Int), ((r + 1 : Nat) : Int))])) ∧ (¬ r + 1 < (c m).length → BagI n c j false W) := by
  obtain ⟨a, h1, h2⟩ := h.grd
  have hj := h.pos rfl
  have hjl := h1.le
  have hlen := h.len
  rw [if_pos rfl] at hlen
  obtain ⟨m, r, m1, m2, m3⟩ := mem_mrg.1 (mrg_mem_at (n := n) (c := c) (j := j - 1) (by omega))
  -- a m is one more than r
  have ha : a m = r + 1 := by
    have e1 := (h1.has m r m1 m2).1 (mem_take_at.2 ⟨j - 1, by omega, by omega, m3.symm⟩)
    have h3 := h1.al m m1
    rcases Nat.lt_or_ge (r + 1) (a m) with h4 | h4
    · have h5 := (h1.has m (r + 1) m1 (by omega)).2 h4
      rw [mem_take_at] at h5
      obtain ⟨i, i1, i2, i3⟩ := h5
      have h6 := hs m m1 r (r + 1) (by omega) (by omega)
      rcases Nat.lt_or_ge i (j - 1) with h7 | h7
      · have h8 := (mrg_at (n := n) (c := c) h7 (by omega)).1
        rw [← i3, m3, lexW_iff] at h8
        dsimp only at h8
        omega
      · have : i = j - 1 := by omega
        subst this
        rw [m3, Prod.mk.injEq, Prod.mk.injEq] at i3
        omega
    · omega
  rw [m3] at h2
  dsimp only at h2
  refine ⟨m, r, hj, by have := h1.aj m; omega, m1, m2, m3, fun h3 => ⟨?_, ?_, (fun e => by cases e), a, h1, fun w => ?_⟩, fun h3 => ⟨by rw [if_neg (by simp)]; omega, h.nd, (fun e => by cases e), a, h1, fun w => ?_⟩⟩
  · rw [if_neg (by simp), List.length_append]; simp; omega
  · rw [List.nodup_append]
    refine ⟨h.nd, by simp, fun x hx y hy e => ?_⟩
    rw [List.mem_singleton] at hy
    subst hy
    obtain ⟨x', x1, x2, x3, x4⟩ := (h2 _).1 hx
    rw [e, hdG, Prod.mk.injEq, Prod.mk.injEq] at x3
    exact x4 rfl x3.2.1.symm
  · rw [List.mem_append, List.mem_singleton, h2]
    constructor
    · rintro (⟨x, x1, x2, x3, x4⟩ | rfl)
      · exact ⟨x, x1, x2, x3, fun e => by cases e⟩
      · exact ⟨m, m1, by omega, by rw [hdG, ha], fun e => by cases e⟩
    · rintro ⟨x, x1, x2, x3, _⟩
      by_cases e : x = m
      · subst e
        right
        rw [x3, hdG, ha]
      · exact .inl ⟨x, x1, x2, x3, fun _ e' => e (by omega)⟩
  · rw [h2]
    constructor
    · rintro ⟨x, x1, x2, x3, x4⟩; exact ⟨x, x1, x2, x3, fun e => by cases e⟩
    · rintro ⟨x, x1, x2, x3, _⟩
      refine ⟨x, x1, x2, x3, fun _ e' => ?_⟩
      have : x = m := by omega
      subst this
      omega
end
end Go.Proofs.Ytojjdkoglhecbaa
namespace Go.Proofs.Ytojjdkoglhecbaa
open Go.RowKit

section
variable {h : Hand} {l : List Chord} {Gs : List (List Grip)}
theorem wayL_nd {i k : Nat} : ∀ j, (wayL h l Gs i k j).Nodup
  | 0 => List.nodup_nil
  | j + 1 => by
    rw [wayL]
    split
    · exact wayL_nd j
    · rw [List.nodup_append]
      refine ⟨wayL_nd j, by simp, fun x hx y hy e => ?_⟩
      rw [List.mem_singleton] at hy
      obtain ⟨q, hq, _, _, hw⟩ := wayL_mem hx
      rw [e, hy, Prod.mk.injEq, Prod.mk.injEq] at hw
      omega
theorem rtL_nd : ∀ j, (rtL h l Gs j).Nodup
  | 0 => List.nodup_nil
  | j + 1 => by
    rw [rtL]
    split
    · exact rtL_nd j
    · rw [List.nodup_append]
      refine ⟨rtL_nd j, by simp, fun x hx y hy e => ?_⟩
      rw [List.mem_singleton] at hy
      obtain ⟨q, hq, _, hw⟩ := rtL_mem hx
      rw [e, hy, Prod.mk.injEq, Prod.mk.injEq] at hw
      omega
theorem tl_pos (hn : NetOk h l Gs) {i k : Nat} (hi : i < l.length) (hk : k < (Gs.getD i []).length) : (0 < (tl h l Gs i k).length ↔ ¬ lst h l Gs i k = -1) ∧ (0 < (tl h l Gs i k).length → ((tl h l Gs i k).getD 0 noW).1 = lst h l Gs i k) := by
  have h1 := tl_first hn _ i rfl hi k hk
  rw [List.length_pos_iff]
  exact ⟨not_congr h1.1, h1.2⟩
theorem bag_way (hn : NetOk h l Gs) {i k : Nat} (hi : i + 1 < l.length) (hk : k < (Gs.getD i []).length) : BagI (Gs.getD (i + 1) []).length (tlC h l Gs i k) 0 false (wayF h l Gs i k) := by
  have hT := rsT_len (h := h) (Gs := Gs) hi
  have e : wayF h l Gs i k = wayL h l Gs i k (Gs.getD (i + 1) []).length := by rw [wayF, wayB, if_neg (by omega), if_neg (by omega), List.nil_append, hT]
  rw [e]
  refine ⟨?_, wayL_nd _, (fun e => by cases e), _, grd_0, fun w => ?_⟩
  · rw [if_neg (by simp)]; exact wayL_len _ _ _ _ _ _
  constructor
  · intro hw
    obtain ⟨q, q1, q2, q3, rfl⟩ := wayL_mem hw
    have hp := tl_pos hn (i := i + 1) hi q1
    have hs : (stG h l Gs i k q).2 = true := q3
    have hp1 := hp.1.2 q2
    refine ⟨q, q1, by rw [tlC_len, if_pos hs]; exact hp1, ?_, fun e => by cases e⟩
    rw [hdG, tlC_at hs hp1, hp.2 hp1]; rfl
  · rintro ⟨q, q1, q2, rfl, _⟩
    rw [tlC_len] at q2
    split at q2
    case isFalse => omega
    rename_i hs
    have hp := tl_pos hn (i := i + 1) hi q1
    have h2 := wayL_has (h := h) (l := l) (Gs := Gs) (k := k) (hp.1.1 q2) (stp_of hs) q1
    rw [hdG, tlC_at hs q2, hp.2 q2]
    have e2 : stG h l Gs i k q = (stepC h (l.getD i noC) (grp Gs i k) (l.getD (i + 1) noC) (grp Gs (i + 1) q), true) := by rw [stG]; exact stepR_ok (stp_of hs)
    rw [e2]
    exact h2
theorem bag_root (hn : NetOk h l Gs) (hl : 0 < l.length) : BagI (Gs.getD 0 []).length (rtC h l Gs) 0 false (rtL h l Gs (rsT h l Gs 0).length) := by
  have hT := rsT_len (h := h) (Gs := Gs) hl
  rw [hT]
  refine ⟨?_, rtL_nd _, (fun e => by cases e), _, grd_0, fun w => ?_⟩
  · rw [if_neg (by simp)]; exact rtL_len _ _ _ _
  constructor
  · intro hw
    obtain ⟨q, q1, q2, rfl⟩ := rtL_mem hw
    have hp := tl_pos hn (i := 0) hl q1
    have hp1 := hp.1.2 q2
    refine ⟨q, q1, by rw [rtC, List.length_map]; exact hp1, ?_, fun e => by cases e⟩
    rw [hdG, rtC, getD_mapW hp1, hp.2 hp1]; rfl
  · rintro ⟨q, q1, q2, rfl, _⟩
    rw [rtC, List.length_map] at q2
    have hp := tl_pos hn (i := 0) hl q1
    have h2 := rtL_has (h := h) (l := l) (Gs := Gs) q1 (hp.1.1 q2)
    rw [hdG, rtC, getD_mapW q2, hp.2 q2]
    exact h2

/-- WHERE A LIST OF WAYS STANDS, as the code sees it: T is what it lists in all, sub what lies behind. -/
structure LsI (T : List Way) (sub : Nat → List Way) (cnt : Nat) (I : Nat → Bool → List Way → Prop) : Prop where
  le : ∀ j due W, I j due W → j ≤ T.length ∧ W.length ≤ 201
  num : ∀ w ∈ T, 0 ≤ w.1 ∧ w.1 ≤ 300000000
  snum : ∀ m, m < cnt → ∀ w ∈ sub m, 0 ≤ w.1 ∧ w.1 ≤ 300000000
  due : ∀ j W, I j true W → ∃ m r : Nat, 0 < j ∧ r < j ∧ m < cnt ∧ r < (sub m).length ∧ T.getD (j - 1) noW = ((T.getD (j - 1) noW).1, (m : Int), (r : Int)) ∧
    (r + 1 < (sub m).length → I j false (W ++ [((T.getD (j - 1) noW).1 + ((sub m).getD (r + 1) noW).1 - ((sub m).getD r noW).1, (m : Int), ((r + 1 : Nat) : Int))])) ∧ (¬ r + 1 < (sub m).length → I j false W)
  pop : ∀ j W W' w, I j false W → w ∈ W → (∀ x ∈ W, befW x w = false) → (w :: W').Perm W → j < T.length ∧ T.getD j noW = w ∧ I (j + 1) (!(w.2.1 == -1)) W'
  fin : ∀ j, I j false [] → j = T.length

theorem bag_i {n : Nat} {c : Nat → List Int} {sub : Nat → List Way} (hs : ∀ m, m < n → Asc (c m)) (hnum : ∀ w ∈ mrg n c, 0 ≤ w.1 ∧ w.1 ≤ 300000000) (hsub : ∀ m, m < n → ∀ w ∈ sub m, 0 ≤ w.1 ∧ w.1 ≤ 300000000) (hn : n ≤ 201)
    (hc : ∀ m, m < n → (c m).length ≤ (sub m).length ∧ (0 < (c m).length → (c m).length = (sub m).length) ∧ ∃ x, ∀ r, r < (c m).length → (c m).getD r 0 = x + ((sub m).getD r noW).1) : LsI (mrg n c) sub n (BagI n c) := by
  refine ⟨fun j due W h => ⟨bag_le h, by have := h.len; split at this <;> omega⟩, hnum, hsub, fun j W h => ?_, fun j W W' w h hw hm hp => ?_, fun j h => bag_end hs h⟩
  · obtain ⟨m, r, h1, h1', h2, h3, h4, h5, h6⟩ := bag_due hs h
    obtain ⟨k1, k2, x, k3⟩ := hc m h2
    have k4 := k2 (by omega)
    refine ⟨m, r, h1, h1', h2, by omega, by rw [h4], fun h7 => ?_, fun h7 => h6 (by omega)⟩
    have h8 := h5 (by omega)
    rw [h4]
    dsimp only
    rw [k3 r h3, show x + ((sub m).getD r noW).1 + ((sub m).getD (r + 1) noW).1 - ((sub m).getD r noW).1 = x + ((sub m).getD (r + 1) noW).1 by omega, ← k3 (r + 1) (by omega)]
    exact h8
  · obtain ⟨h1, h2, h3, h4⟩ := bag_pop hs h hw hm hp
    refine ⟨h1, h2, ?_⟩
    rw [show (!(w.2.1 == -1)) = true by rw [Bool.not_eq_true', beq_eq_false_iff_ne]; omega]
    exact h3
/-- Where the node of the grip k of the chord i stands. -/
def NdI (h : Hand) (l : List Chord) (Gs : List (List Grip)) (i k : Nat) (j : Nat) (due : Bool) (W : List Way) : Prop :=
  if i + 1 = l.length then due = false ∧ ((j = 0 ∧ W = [(owG h l Gs i k, -1, 0)]) ∨ (j = 1 ∧ W = [])) else BagI (Gs.getD (i + 1) []).length (tlC h l Gs i k) j due W
theorem tl_num (hn : NetOk h l Gs) {i k : Nat} (hi : i < l.length) (hk : k < (Gs.getD i []).length) : ∀ w ∈ tl h l Gs i k, 0 ≤ w.1 ∧ w.1 ≤ 300000000 := fun w hw => by
  have h1 := tl_ok hn _ i rfl hi k hk w hw
  have := hn.len
  have h2 := h1.2.1
  exact ⟨h1.1, by omega⟩
theorem ndI_ls (hn : NetOk h l Gs) {i k : Nat} (hi : i < l.length) (hk : k < (Gs.getD i []).length) : LsI (tl h l Gs i k) (fun m => tl h l Gs (i + 1) m) (if i + 1 = l.length then 0 else (Gs.getD (i + 1) []).length) (NdI h l Gs i k) := by
  by_cases e : i + 1 = l.length
  · have hnum := tl_num hn hi hk
    rw [if_pos e]
    rw [tl_last e] at hnum ⊢
    have hI : NdI h l Gs i k = fun j due W => due = false ∧ ((j = 0 ∧ W = [(owG h l Gs i k, -1, 0)]) ∨ (j = 1 ∧ W = [])) := by
      funext j due W; rw [NdI, if_pos e]
    rw [hI]
    refine ⟨?_, hnum, fun m hm => by omega, ?_, ?_, ?_⟩
    · rintro j due W ⟨_, ⟨rfl, rfl⟩ | ⟨rfl, rfl⟩⟩ <;> simp
    · rintro j W ⟨h1, _⟩; cases h1
    · rintro j W W' w ⟨_, ⟨rfl, rfl⟩ | ⟨rfl, rfl⟩⟩ hw hm hp
      · rw [List.mem_singleton] at hw
        subst hw
        have hl := hp.length_eq
        have hW : W' = [] := List.eq_nil_of_length_eq_zero (by simpa using hl)
        subst hW
        exact ⟨by simp, rfl, rfl, .inr ⟨rfl, rfl⟩⟩
      · cases hw
    · rintro j ⟨_, ⟨rfl, h1⟩ | ⟨rfl, _⟩⟩
      · cases h1
      · rfl
  · have hi1 : i + 1 < l.length := by omega
    have hnum := tl_num hn hi hk
    rw [if_neg e]
    rw [tl_s hi1] at hnum ⊢
    have hI : NdI h l Gs i k = BagI (Gs.getD (i + 1) []).length (tlC h l Gs i k) := by funext j due W; rw [NdI, if_neg e]
    rw [hI]
    refine bag_i (fun m _ => tlC_asc hi1) hnum (fun m hm => tl_num hn hi1 hm) (by have := hn.cnt (i + 1); omega) fun m hm => ?_
    rw [tlC_len]
    refine ⟨by split <;> omega, (fun h0 => by
      split at h0
      · rename_i hs; rw [if_pos hs]
      · omega), owG h l Gs i k + (stG h l Gs i k m).1, fun r hr => ?_⟩
    split at hr
    · rename_i hs
      exact tlC_at hs hr
    · omega
theorem ndI_0 (hn : NetOk h l Gs) {i k : Nat} (hi : i < l.length) (hk : k < (Gs.getD i []).length) : NdI h l Gs i k 0 false (wayF h l Gs i k) := by
  by_cases e : i + 1 = l.length
  · rw [NdI, if_pos e]
    refine ⟨rfl, .inl ⟨rfl, ?_⟩⟩
    rw [wayF, wayB, if_pos e, if_pos e, wayL, List.append_nil]; rfl
  · rw [NdI, if_neg e]
    exact bag_way hn (by omega) hk
theorem rt_num (hn : NetOk h l Gs) (hl : 0 < l.length) : ∀ w ∈ rtT h l Gs, 0 ≤ w.1 ∧ w.1 ≤ 300000000 := fun w hw => by
  obtain ⟨m, r, m1, m2, rfl⟩ := mem_mrg.1 hw
  rw [rtC, List.length_map] at m2
  rw [rtC, getD_mapW m2]
  have := tl_num hn hl m1 _ (mem_nthW m2)
  exact this
theorem rtI_ls (hn : NetOk h l Gs) (hl : 0 < l.length) : LsI (rtT h l Gs) (fun m => tl h l Gs 0 m) (Gs.getD 0 []).length (BagI (Gs.getD 0 []).length (rtC h l Gs)) := by
  refine bag_i (fun m _ => rtC_asc hl) (rt_num hn hl) (fun m hm => tl_num hn hl hm) (by have := hn.cnt 0; omega) fun m hm => ?_
  rw [rtC, List.length_map]
  refine ⟨Nat.le_refl _, fun _ => rfl, 0, fun r hr => ?_⟩
  rw [getD_mapW hr]; omega
/-- A state does not hang on the order of the queue. -/
theorem bag_perm {n : Nat} {c : Nat → List Int} {j : Nat} {due : Bool} {W W' : List Way} (h : BagI n c j due W) (hp : W'.Perm W) : BagI n c j due W' := by
  obtain ⟨a, h1, h2⟩ := h.grd
  exact ⟨by rw [hp.length_eq]; exact h.len, hp.nodup_iff.2 h.nd, h.pos, a, h1, fun w => by rw [hp.mem_iff]; exact h2 w⟩
theorem ndI_perm {i k j : Nat} {due : Bool} {W W' : List Way} (hI : NdI h l Gs i k j due W) (hp : W'.Perm W) : NdI h l Gs i k j due W' := by
  rw [NdI] at hI ⊢
  split at hI
  · rename_i e
    rw [if_pos e]
    obtain ⟨h1, ⟨h2, h3⟩ | ⟨h2, h3⟩⟩ := hI
    · subst h3
      exact ⟨h1, .inl ⟨h2, List.perm_singleton.1 hp⟩⟩
    · subst h3
      exact ⟨h1, .inr ⟨h2, List.perm_nil.1 hp⟩⟩
  · rename_i e
    rw [if_neg e]; exact bag_perm hI hp
end
end Go.Proofs.Ytojjdkoglhecbaa
namespace Go.Proofs.Ytojjdkoglhecbaa
open Go.RowKit

theorem tl_at {h : Hand} {l : List Chord} {Gs : List (List Grip)} (hn : NetOk h l Gs) {i k r : Nat} (hi : i + 1 < l.length) (hk : k < (Gs.getD i []).length) (hr : r < (tl h l Gs i k).length) : ∃ m s : Nat, m < (Gs.getD (i + 1) []).length ∧ s < (tl h l Gs (i + 1) m).length ∧ (tl h l Gs i k).getD r noW = (((tl h l Gs i k).getD r noW).1, (m : Int), (s : Int)) := by
  obtain ⟨_, _, _, h4⟩ := tl_ok hn _ i rfl (by omega) k hk _ (mem_nthW hr)
  obtain ⟨m, s, h5, _, h6, h7⟩ := h4 hi
  exact ⟨m, s, h5, h6, by rw [h7]⟩
end Go.Proofs.Ytojjdkoglhecbaa
namespace Go.Proofs.Ytojjdkoglhecbaa
open Go.RowKit
set_option maxRecDepth 100000

abbrev c_theorbolaw06_rest_p1 : VC := (.seq (.ops 0 [oo 5 .mv [.t 0], oo 6 .mv [.t 1], oo 7 (.bin .rem) [.t 5, .t 6], oo 8 .mv [.t 1], oo 9 (.bin .add) [.t 7, .t 8], oo 10 .mv [.t 1], oo 11 (.bin .rem) [.t 9, .t 10], oo 4 .mv [.t 11]]) .ret)
def c_theorbolaw06_rest : VC := (.seq (.ops 0 [oo 4 .mv [kk 0]]) c_theorbolaw06_rest_p1)
theorem k_theorbolaw06_rest : Comp Try.prog nobx gtab 30 12 c_theorbolaw06_rest [.t 4] := ⟨⟨Try.f30, _, Try.func30, rfl, rfl, kr, kr⟩⟩
abbrev c_theorbolaw06_chosen_p1 : VC := (.seq (.ops 0 [oo 6 .mv [(.c (.sl 0 [] .exact))]]) .ret)
abbrev c_theorbolaw06_chosen_p2 : VC := (.ops 0 [oo 33 .mv [.t 2], oo 34 .mv [.t 8], oo 35 .mv [.t 2], oo 36 .len [.t 35], oo 37 (.bin .rem) [.t 34, .t 36], oo 38 (.ixA 1) [.t 33, .t 37], oo 39 .ld1 [.t 38], oo 11 .mv [.t 39]])
abbrev c_theorbolaw06_chosen_p3 : VC := (.ops 11 [oo 40 .mv [.t 7], oo 41 .mv [.t 9], oo 42 .mv [.t 11], oo 43 .mv [.t 9], oo 44 .len [.t 43], oo 45 (.call 30) [.t 42, .t 44], oo 46 (.ixA 2) [.t 41, .t 45], oo 47 (.ldA 2) [.t 46], ⟨(some 48), none, (.mksl 1 2 [li 0, (.sl 0 [] .exact)] [(0, 2)]), [.t 47], none⟩, oo 49 (.app 53 2 32) [.t 40, .t 48], oo 7 .mv [.t 49]])
abbrev c_theorbolaw06_chosen_p4 : VC := (.seq (.seq (.ops 0 [oo 30 .mv [.t 2], oo 31 .len [.t 30], oo 32 (.bin .gtr) [.t 31, kk 0]]) (.cond (.t 32) c_theorbolaw06_chosen_p2 .skip)) c_theorbolaw06_chosen_p3)
abbrev c_theorbolaw06_chosen_p5 : VC := (.seq (.ops 0 [oo 11 .mv [kk 0]]) c_theorbolaw06_chosen_p4)
abbrev c_theorbolaw06_chosen_p6 : VC := (.seq (.seq (.ops 0 [oo 27 .mv [.t 9], oo 28 .len [.t 27], oo 29 (.bin .eql) [.t 28, kk 0]]) (.cond (.t 29) c_theorbolaw06_chosen_p1 .skip)) c_theorbolaw06_chosen_p5)
abbrev c_theorbolaw06_chosen_p7 : VC := (.ops 0 [oo 16 .mv [.t 8], oo 17 (.bin .add) [.t 16, kk 1], oo 8 .mv [.t 17]])
abbrev c_theorbolaw06_chosen_p8 : VC := (.seq (.block 1 (.seq (.ops 0 [od 19 (.ldA 10) [.t 3] [], oo 20 .mv [.t 1], oo 21 .mv [.t 8], oo 22 (.ixA 3) [.t 20, .t 21], od 23 (.ldA 3) [.t 22] [1, 2, 3], oo 24 (.call 32) [.t 19, .t 23], oo 18 .mv [.t 24], oo 25 (.ext 0) [.t 18], oo 26 (.ext 1) [.t 18], oo 9 .mv [.t 25], oo 10 .mv [.t 26]]) c_theorbolaw06_chosen_p6)) c_theorbolaw06_chosen_p7)
abbrev c_theorbolaw06_chosen_p9 : VC := (.seq (.seq (.ops 0 [oo 12 .mv [.t 8], oo 13 .mv [.t 1], oo 14 .len [.t 13], oo 15 (.bin .lss) [.t 12, .t 14]]) (.cond (.t 15) .skip (.exit 0))) c_theorbolaw06_chosen_p8)
@[go_sem] abbrev w_theorbolaw06_chosen_p9 : Nat := 1125899906842560
abbrev c_theorbolaw06_chosen_p11 : VC := (.seq (.ops 0 [oo 50 .mv [.t 7], oo 6 .mv [.t 50]]) .ret)
abbrev c_theorbolaw06_chosen_p12 : VC := (.seq (.seq (.ops 0 [oo 8 .mv [kk 0]]) (.block 0 (.loop c_theorbolaw06_chosen_p9))) c_theorbolaw06_chosen_p11)
abbrev c_theorbolaw06_chosen_p13 : VC := (.seq (.ops 0 [oo 7 .mv [(.c (.sl 0 [] .exact))]]) c_theorbolaw06_chosen_p12)
def c_theorbolaw06_chosen : VC := (.seq (.ops 2 [oo 3 (.box 25) [.t 0], oo 6 .mv [(.c (.sl 0 [] .exact))]]) c_theorbolaw06_chosen_p13)
theorem k_theorbolaw06_chosen : Comp Try.prog nobx gtab 55 51 c_theorbolaw06_chosen [.t 6] := ⟨⟨Try.f55, _, Try.func55, rfl, rfl, kr, kr⟩⟩
end Go.Proofs.Ytojjdkoglhecbaa
namespace Go.Proofs.Ytojjdkoglhecbaa
open Go.RowKit

section
variable {n : Int}
end
/-- A fingering that is valid. -/
theorem val_ok {h : Hand} {l : List Chord} {g : List Grip} (hv : (valR h l g).2.2 = 0) : bothE h l = 0 ∧ g.length = l.length ∧ (∀ k, k < l.length → PrOk h l g k) ∧ valR h l g = (smI (prL h l g l.length) l.length, 0, 0) := by
  have key : ∀ c, cosR h l g = c → c.2.2 = 0 → bothE h l = 0 ∧ g.length = l.length ∧ prN h l g l.length = l.length ∧ c = (prL h l g l.length, 0, 0) := by
    intro c hc h0
    subst hc
    rw [cosR] at h0 ⊢
    by_cases h1 : bothE h l = 0
    · rw [if_pos h1] at h0 ⊢
      by_cases h2 : g.length = l.length
      · rw [if_pos h2] at h0 ⊢
        by_cases h3 : prN h l g l.length = l.length
        · rw [if_pos h3]; exact ⟨h1, h2, h3, rfl⟩
        · rw [if_neg h3] at h0; cases h0
      · rw [if_neg h2] at h0; cases h0
    · rw [if_neg h1] at h0; exact absurd h0 h1
  obtain ⟨h1, h2, h3, h4⟩ := key _ rfl hv
  refine ⟨h1, h2, prN_ok h3, ?_⟩
  unfold valR
  rw [h4, prL_len]
theorem val_is {h : Hand} {l : List Chord} {g : List Grip} (h1 : bothE h l = 0) (h2 : g.length = l.length) (h3 : ∀ k, k < l.length → PrOk h l g k) : valR h l g = (smI (prL h l g l.length) l.length, 0, 0) := by
  have e : cosR h l g = (prL h l g l.length, 0, 0) := by rw [cosR, if_pos h1, if_pos h2, if_pos (prN_all h3)]
  unfold valR
  rw [e, prL_len]
end Go.Proofs.Ytojjdkoglhecbaa
namespace Go.Proofs.Ytojjdkoglhecbaa
open Go.RowKit
set_option linter.unusedSimpArgs false
set_option linter.unusedVariables false

/-- A number modulo n. -/
def rsI (a n : Int) : Int := (a.tmod n + n).tmod n
theorem rs_bound {n : Int} (a : Int) (h : 0 < n) : 0 ≤ rsI a n ∧ rsI a n < n := by
  have := Int.lt_tmod_of_pos a h
  exact ⟨Int.tmod_nonneg _ (by omega), Int.tmod_lt_of_pos _ h⟩
theorem rest_fn (a n : Int) (h : 0 < n) (h2 : n ≤ 4611686018427387904) : Fn Try.prog Gd 30 [vint a, vint n] (vint (rsI a n)) := by
  refine Fn.of_vx0 k_theorbolaw06_rest (by simp) rfl ?_
  have h3 := Int.lt_tmod_of_pos a h
  have h4 := Int.tmod_lt_of_pos a h
  have w1 : IntKind.i64.wrap (a.tmod n + n) = a.tmod n + n := w_in (by omega)
  have n0 : ¬ n = 0 := by omega
  unfold c_theorbolaw06_rest rsI
  repeat' (with_reducible first | refine x_ops ?_ | refine wk ?_ | ((first | refine gd1 ?_ ?_ | refine gd2 ?_ ?_ | refine gd3 ?_ ?_) <;> (first | exact @False.elim _ | intro hc)))
  exact finV_lit vv rfl

/-- The grip of a chord that is chosen. -/
noncomputable def chG (h : Hand) (l : List Chord) (picks : List Int) (k : Nat) : Grip :=
  (grR h (l.getD k noC)).1.getD (rsI (if 0 < picks.length then picks.getD (k % picks.length) 0 else 0) ((grR h (l.getD k noC)).1.length : Int)).toNat noG
noncomputable def chU (h : Hand) (l : List Chord) (picks : List Int) (k : Nat) : List Grip := (List.range k).map (chG h l picks)
theorem chU_len (h : Hand) (l : List Chord) (picks : List Int) (k : Nat) : (chU h l picks k).length = k := by simp [chU]
theorem chU_succ (h : Hand) (l : List Chord) (picks : List Int) (k : Nat) : chU h l picks (k + 1) = chU h l picks k ++ [chG h l picks k] := by simp [chU, List.range_succ]
open Classical in
/-- What chosen answers. -/
noncomputable def choL (h : Hand) (l : List Chord) (picks : List Int) : List Grip :=
  if ∀ k, k < l.length → 0 < (grR h (l.getD k noC)).1.length then chU h l picks l.length else []
theorem choL_all {h : Hand} {l : List Chord} {picks : List Int} (ha : ∀ k, k < l.length → 0 < (grR h (l.getD k noC)).1.length) : choL h l picks = chU h l picks l.length := by rw [choL, if_pos ha]
theorem choL_none {h : Hand} {l : List Chord} {picks : List Int} {k : Nat} (hk : k < l.length) (h0 : (grR h (l.getD k noC)).1.length = 0) : choL h l picks = [] := by rw [choL, if_neg fun ha => Nat.ne_of_gt (ha k hk) h0]
theorem chG_mem {h : Hand} {l : List Chord} {picks : List Int} {k : Nat} (h0 : 0 < (grR h (l.getD k noC)).1.length) : chG h l picks k ∈ (grR h (l.getD k noC)).1 := by
  have hb := rs_bound (if 0 < picks.length then picks.getD (k % picks.length) 0 else 0) (n := ((grR h (l.getD k noC)).1.length : Int)) (by omega)
  have hlt : (rsI (if 0 < picks.length then picks.getD (k % picks.length) 0 else 0) ((grR h (l.getD k noC)).1.length : Int)).toNat < (grR h (l.getD k noC)).1.length := by omega
  rw [chG]
  have gen : ∀ (L : List Grip) (j : Nat), j < L.length → L.getD j noG ∈ L := fun L j hj => by
    rw [List.getD_eq_getElem?_getD, List.getElem?_eq_getElem hj]
    exact List.getElem_mem _
  exact gen _ _ hlt
theorem choL_fits {h : Hand} {l : List Chord} (hl : Fits l) (hl4 : l.length ≤ 4398046511103) (picks : List Int) : FitsG (choL h l picks) := by
  by_cases ha : ∀ k, k < l.length → 0 < (grR h (l.getD k noC)).1.length
  · rw [choL_all ha]
    refine ⟨by rw [chU_len]; omega, fun g hg => ?_⟩
    obtain ⟨k, hk, rfl⟩ := List.mem_map.1 hg
    exact (grR_fits h _ (hl.at k)).2 _ (chG_mem (ha k (List.mem_range.1 hk)))
  · rw [choL, if_neg ha]; exact ⟨by simp, fun g hg => by cases hg⟩

set_option maxHeartbeats 2000000 in
theorem chosen_fn (h : Hand) (l : List Chord) (hl : Fits l) (hl4 : l.length ≤ 4398046511103) (picks : List Int) (hp : picks.length ≤ 17592186044416) : Fn Try.prog Gd 55 [h.val, tCs l, tIs picks] (tGs (choL h l picks)) := by
  refine Fn.of_vx0 k_theorbolaw06_chosen (by simp) (by rw [V.pures, pure_hand, V.pures, pure_tCs, V.pures, pure_tIs]; rfl) ?_
  unfold c_theorbolaw06_chosen Hand.val tCs tGs tIs
  repeat' (with_reducible first | refine x_ops ?_ | refine wk ?_ | ((first | refine gd1 ?_ ?_ | refine gd2 ?_ ?_ | refine gd3 ?_ ?_) <;> (first | exact @False.elim _ | intro hc)))
  refine x_loopW w_theorbolaw06_chosen_p9 (by kernel_rfl) l.length (fun k t m => t 8 = vint (k : Int) ∧ (∃ tok, t 7 = .sl k ((chU h l picks k).flatMap Grip.cells) tok ∧ Apb m tok k 53 2) ∧
    m.obj 0 = some (.box [tIs h.low, tIs h.high, tBs h.barre, vint h.top, vint h.jump, vint h.shift, vint h.lift, vint h.bar, vint h.stretch, vint h.slide] 25) ∧ 0 < m.next ∧ ∀ i, i < k → 0 < (grR h (l.getD i noC)).1.length) ?_ ?_
  · exact ⟨vv, ⟨.exact, vv, .inl rfl⟩, vv, by ((refine ve ?_; try exact True.intro)); try omega, fun i h => by omega⟩
  rintro k t m hk ⟨h8, ⟨tok, h7, hap⟩, hm, hn, hI⟩
  replace hI := Hid.mk hI
  by_cases hlt : k < l.length
  case neg =>
    have hkl : k = l.length := by omega
    subst hkl
    have c1 : ¬ (l.length : Int) < (l.length : Int) := by omega
    rw [choL_all hI.out]
    have e5 := Hid.mk (chU_len h l picks l.length)
    generalize chU h l picks l.length = L at *
    clear hap
    repeat' (with_reducible first | refine x_ops ?_ | refine wk ?_ | ((first | refine gd1 ?_ ?_ | refine gd2 ?_ ?_ | refine gd3 ?_ ?_) <;> (first | exact @False.elim _ | intro hc)))
    exact finV_ret vv (by rw [e5.out]; exact .sl _ _ _)
  have c1 : (k : Int) < (l.length : Int) := by omega
  have g1 := chs_take hlt
  have g2 := chs_len l
  have c3 : k * 3 + 3 ≤ l.length * 3 := by omega
  have w2 := w_add1 (k := k) (by omega)
  have C1 := Grips_fn h (l.getD k noC) (hl.at k)
  have hal := grR_fits h (l.getD k noC) (hl.at k)
  have cG : Hid (chG h l picks k = (grR h (l.getD k noC)).1.getD (rsI (if 0 < picks.length then picks.getD (k % picks.length) 0 else 0) ((grR h (l.getD k noC)).1.length : Int)).toNat noG) := ⟨rfl⟩
  have cN : Hid ((grR h (l.getD k noC)).1.length = 0 → choL h l picks = []) := ⟨choL_none hlt⟩
  have cA : Hid (0 < (grR h (l.getD k noC)).1.length → ∀ i, i < k + 1 → 0 < (grR h (l.getD i noC)).1.length) := ⟨fun h0 i hi => by
    by_cases e : i = k
    · subst e; exact h0
    · exact hI.out i (by omega)⟩
  unfold Hand.val Chord.val Chord.cells at C1
  generalize l.getD k noC = cb at *
  generalize grR h cb = gr at *
  obtain ⟨G, ge⟩ := gr
  dsimp only at C1 hal cG cN cA
  unfold tGs at C1
  have hG1 := hal.1
  by_cases h0 : G.length = 0
  · have e1 : ((G.length : Int) == 0) = true := by rw [h0]; rfl
    rw [cN.out h0]
    clear h0 hap
    repeat' (with_reducible first | refine x_ops ?_ | refine wk ?_ | (with_reducible refine xc (C1) ?_) | ((first | refine gd1 ?_ ?_ | refine gd2 ?_ ?_ | refine gd3 ?_ ?_) <;> (first | exact @False.elim _ | intro hc)))
    exact finV_ret vv (.sl _ _ _)
  have e1 : ((G.length : Int) == 0) = false := by rw [beq_eq_false_iff_ne]; omega
  have hA := Hid.mk (cA.out (by omega))
  have gG := gs_len G
  replace hlt := Hid.mk hlt
  by_cases hp0 : 0 < picks.length
  · rw [if_pos hp0] at cG
    have c4 : (0 : Int) < (picks.length : Int) := by omega
    have g5 := ints_at (l := picks) (k := k % picks.length) (Nat.mod_lt _ hp0)
    have c5 : ((k % picks.length : Nat) : Int) < (picks.length : Int) := by have := Nat.mod_lt k hp0; omega
    have n0 : ¬ (picks.length : Int) = 0 := by omega
    have tm : (k : Int).tmod (picks.length : Int) = ((k % picks.length : Nat) : Int) := rfl
    have RS := rest_fn (picks.getD (k % picks.length) 0) (G.length : Int) (by omega) (by omega)
    have hb := rs_bound (picks.getD (k % picks.length) 0) (n := (G.length : Int)) (by omega)
    generalize picks.getD (k % picks.length) 0 = pk at *
    obtain ⟨r, hr⟩ : ∃ r : Nat, rsI pk (G.length : Int) = (r : Int) := ⟨_, (Int.toNat_of_nonneg hb.1).symm⟩
    rw [hr] at RS cG hb
    rw [Int.toNat_natCast] at cG
    have c6 : (r : Int) < (G.length : Int) := hb.2
    have g6 := gs_take (l := G) (k := r) (by omega)
    have c7 : r * 2 + 2 ≤ G.length * 2 := by omega
    clear hb hr h0
    repeat' (with_reducible first | refine x_ops ?_ | refine wk ?_ | (with_reducible refine xc (C1) ?_) | (with_reducible refine xc (RS) ?_) | ((first | refine gd1 ?_ ?_ | refine gd2 ?_ ?_ | refine gd3 ?_ ?_) <;> (first | exact @False.elim _ | intro hc)))
    refine x_appb (xs := (chU h l picks k).flatMap Grip.cells) (ys := Grip.cells (G.getD r noG)) vw (by unfold Grip.cells; exact vw) (hap.mono (fun _ _ _ => rfl) (Nat.le_add_right _ _)) (by rw [gs_len, chU_len]) rfl (by omega) (by unfold Go.maxLen; omega) (by show m.next + 9 < m.next + 11; omega) ?_
    intro tok' m' hap' hn' hbox hobj
    have ho := hbox 0 _ _ hm (by show ¬ 0 = m.next + 9; omega)
    replace hn' : m'.next = m.next + 11 := hn'
    have hn2 : 0 < m'.next := by omega
    clear hbox hobj hap
    repeat' (with_reducible first | refine x_ops ?_ | refine wk ?_ | ((first | refine gd1 ?_ ?_ | refine gd2 ?_ ?_ | refine gd3 ?_ ?_) <;> (first | exact @False.elim _ | intro hc)))
    exact nx hlt.out ⟨vv, ⟨tok', by rw [chU_succ, cG.out, List.flatMap_append]; ((refine ve ?_; try exact True.intro)); simp, hap'.mono (fun _ _ _ => rfl) (Nat.le_of_eq hn')⟩, ho, by ((refine ve ?_; try exact True.intro)); omega, hA.out⟩
  · have c4 : ¬ (0 : Int) < (picks.length : Int) := by omega
    rw [if_neg hp0] at cG
    have RS := rest_fn 0 (G.length : Int) (by omega) (by omega)
    have hb := rs_bound 0 (n := (G.length : Int)) (by omega)
    obtain ⟨r, hr⟩ : ∃ r : Nat, rsI 0 (G.length : Int) = (r : Int) := ⟨_, (Int.toNat_of_nonneg hb.1).symm⟩
    rw [hr] at RS cG hb
    rw [Int.toNat_natCast] at cG
    have c6 : (r : Int) < (G.length : Int) := hb.2
    have g6 := gs_take (l := G) (k := r) (by omega)
    have c7 : r * 2 + 2 ≤ G.length * 2 := by omega
    clear hb hr h0
    repeat' (with_reducible first | refine x_ops ?_ | refine wk ?_ | (with_reducible refine xc (C1) ?_) | (with_reducible refine xc (RS) ?_) | ((first | refine gd1 ?_ ?_ | refine gd2 ?_ ?_ | refine gd3 ?_ ?_) <;> (first | exact @False.elim _ | intro hc)))
    refine x_appb (xs := (chU h l picks k).flatMap Grip.cells) (ys := Grip.cells (G.getD r noG)) vw (by unfold Grip.cells; exact vw) (hap.mono (fun _ _ _ => rfl) (Nat.le_add_right _ _)) (by rw [gs_len, chU_len]) rfl (by omega) (by unfold Go.maxLen; omega) (by show m.next + 9 < m.next + 11; omega) ?_
    intro tok' m' hap' hn' hbox hobj
    have ho := hbox 0 _ _ hm (by show ¬ 0 = m.next + 9; omega)
    replace hn' : m'.next = m.next + 11 := hn'
    have hn2 : 0 < m'.next := by omega
    clear hbox hobj hap
    repeat' (with_reducible first | refine x_ops ?_ | refine wk ?_ | ((first | refine gd1 ?_ ?_ | refine gd2 ?_ ?_ | refine gd3 ?_ ?_) <;> (first | exact @False.elim _ | intro hc)))
    exact nx hlt.out ⟨vv, ⟨tok', by rw [chU_succ, cG.out, List.flatMap_append]; ((refine ve ?_; try exact True.intro)); simp, hap'.mono (fun _ _ _ => rfl) (Nat.le_of_eq hn')⟩, ho, by ((refine ve ?_; try exact True.intro)); omega, hA.out⟩
end Go.Proofs.Ytojjdkoglhecbaa
namespace Go.Proofs.Ytojjdkoglhecbaa
open Go.RowKit
set_option linter.unusedSimpArgs false
set_option linter.unusedVariables false

/-- Two rows of different things are two rows. -/
theorem Apb.ne {m : Mm} {k k' : Tok} {n n' : Nat} {e e' : TypeId} {z z' : Nat} (h : Apb m k n e z) (h' : Apb m k' n' e' z') (he : e ≠ e') : ∀ q, k = .own q → k' ≠ .own q := by
  rintro q rfl rfl
  rcases h with h | ⟨t, h1, _, h2⟩
  · cases h
  · rcases h' with h | ⟨t', h3, _, h4⟩
    · cases h
    · injection h1 with h1; injection h3 with h3
      subst h1; subst h3
      rw [h2] at h4
      injection h4 with h4
      injection h4 with _ h4
      exact he h4
/-- What is left of a row by another one's growth. -/
theorem Apb.keep {m m' : Mm} {k : Tok} {n : Nat} {e : TypeId} {z : Nat} (h : Apb m k n e z) (hn : m.next ≤ m'.next) (ho : ∀ q, q < m.next → k = .own q → m'.obj q = m.obj q) : Apb m' k n e z := by
  rcases h with h | ⟨t, h1, h2, h3⟩
  · exact .inl h
  · exact .inr ⟨t, h1, Nat.lt_of_lt_of_le h2 hn, (ho t h2 h1).trans h3⟩
theorem Apb.box {m : Mm} {k : Tok} {n : Nat} {e : TypeId} {z : Nat} (h : Apb m k n e z) {q : Nat} {cs : List V} {t : TypeId} (hq : m.obj q = some (.box cs t)) : k ≠ .own q := by
  rintro rfl
  rcases h with h | ⟨t, h1, _, h3⟩
  · cases h
  · injection h1 with h1; subst h1; rw [hq] at h3; cases h3

end Go.Proofs.Ytojjdkoglhecbaa
namespace Go.Proofs.Ytojjdkoglhecbaa
open Go.RowKit

/-- The first number that differs is less. -/
def lexB : List Int → List Int → Bool
  | x :: l, y :: r => if x = y then lexB l r else decide (x < y)
  | _, _ => false
/-- A grip comes before another one. -/
def befB (a b : Grip) : Bool := if a.pos = b.pos then lexB a.fingers b.fingers else decide (a.pos < b.pos)
theorem lexB_app (F : List Int) {x y : Int} (h : x < y) (l r : List Int) : lexB (F ++ x :: l) (F ++ y :: r) = true := by
  induction F with
  | nil => rw [List.nil_append, List.nil_append, lexB, if_neg (by omega)]; simpa using h
  | cons a F ih => rw [List.cons_append, List.cons_append, lexB, if_pos rfl, ih]
theorem lexB_at : ∀ {a b : List Int} {i : Nat}, (∀ j, j < i → a.getD j 0 = b.getD j 0) → i < a.length → i < b.length → a.getD i 0 ≠ b.getD i 0 → lexB a b = decide (a.getD i 0 < b.getD i 0)
  | [], _, i, _, h, _, _ => by simp at h
  | _ :: _, [], i, _, _, h, _ => by simp at h
  | x :: a, y :: b, 0, _, _, _, hn => by rw [lexB, if_neg (by simpa using hn)]; rfl
  | x :: a, y :: b, i + 1, he, h1, h2, hn => by
    have h0 : x = y := by simpa using he 0 (by omega)
    rw [lexB, if_pos h0, lexB_at (i := i) (fun j hj => by simpa using he (j + 1) (by omega)) (by simpa using h1) (by simpa using h2) (by simpa using hn)]
    simp
theorem lexB_none : ∀ {a b : List Int} {i : Nat}, (∀ j, j < i → a.getD j 0 = b.getD j 0) → a.length ≤ i ∨ b.length ≤ i → lexB a b = false
  | [], _, _, _, _ => by rw [lexB]; intro _ _ _ _ h; cases h
  | _ :: _, [], _, _, _ => by rw [lexB]; intro _ _ _ _ _ h; cases h
  | x :: a, y :: b, 0, _, h => by simp at h
  | x :: a, y :: b, i + 1, he, h => by
    have h0 : x = y := by simpa using he 0 (by omega)
    rw [lexB, if_pos h0, lexB_none (i := i) (fun j hj => by simpa using he (j + 1) (by omega)) (by simpa using h)]
theorem fitT_sorted (h : Hand) (c : Chord) (pos : Int) : ∀ (k : Nat) (F : List Int), (fitT h c pos k F).Pairwise (fun a b => befB a b = true)
  | 0, F => by rw [fitT]; split <;> simp
  | k + 1, F => by
    rw [fitT, List.pairwise_flatMap]
    refine ⟨fun f _ => fitT_sorted h c pos k _, List.pairwise_lt_range.imp fun {a b} hab x hx y hy => ?_⟩
    obtain ⟨t, _, _, rfl, _⟩ := fitT_mem.1 hx
    obtain ⟨t', _, _, rfl, _⟩ := fitT_mem.1 hy
    rw [befB, if_pos rfl]
    show lexB (F ++ [((a + 1 : Nat) : Int)] ++ t) (F ++ [((b + 1 : Nat) : Int)] ++ t') = true
    rw [List.append_assoc, List.append_assoc]
    exact lexB_app F (by omega) _ _
theorem grpA_sorted (h : Hand) (c : Chord) : (grpA h c).Pairwise (fun a b => befB a b = true) := by
  rw [grpA, fitP, List.pairwise_flatMap]
  refine ⟨fun p _ => fitT_sorted h c _ _ _, List.pairwise_lt_range.imp fun {a b} hab x hx y hy => ?_⟩
  obtain ⟨t, _, _, rfl, _⟩ := fitT_mem.1 hx
  obtain ⟨t', _, _, rfl, _⟩ := fitT_mem.1 hy
  rw [befB, if_neg (by show ¬ ((a + 1 : Nat) : Int) = ((b + 1 : Nat) : Int); omega)]
  show decide (((a + 1 : Nat) : Int) < ((b + 1 : Nat) : Int)) = true
  rw [decide_eq_true_eq]; omega
end Go.Proofs.Ytojjdkoglhecbaa
namespace Go.Proofs.Ytojjdkoglhecbaa
open Go.RowKit
set_option linter.unusedSimpArgs false
set_option linter.unusedVariables false

theorem before_fn (a b : Grip) (ha : a.fingers.length ≤ 17592186044416) : Fn Try.prog Gd 36 [a.val, b.val] (vbool (befB a b)) := by
  refine Fn.of_vx0 k_theorbolaw06_before (by simp) (by rw [V.pures, pure_grip, V.pures, pure_grip]; rfl) ?_
  unfold c_theorbolaw06_before Grip.val Grip.cells befB
  by_cases hp : a.pos = b.pos
  case neg =>
    have e1 : (a.pos == b.pos) = false := by simpa using hp
    rw [if_neg hp]
    clear hp
    repeat' (with_reducible first | refine x_ops ?_ | refine wk ?_ | ((first | refine gd1 ?_ ?_ | refine gd2 ?_ ?_ | refine gd3 ?_ ?_) <;> (first | exact @False.elim _ | intro hc)))
    all_goals exact finV_lit vv rfl
  have e1 : (b.pos == b.pos) = true := by simp
  rw [if_pos hp]
  repeat' (with_reducible first | refine x_ops ?_ | refine wk ?_ | ((first | refine gd1 ?_ ?_ | refine gd2 ?_ ?_ | refine gd3 ?_ ?_) <;> (first | exact @False.elim _ | intro hc)))
  refine x_loopF w_theorbolaw06_before_p5 (by kernel_rfl) a.fingers.length (fun k t => t 5 = vint (k : Int) ∧ ∀ j, j < k → a.fingers.getD j 0 = b.fingers.getD j 0) ?_ ?_
  · exact ⟨vv, fun i h => by omega⟩
  rintro k t hk ⟨h5, hI⟩
  replace hI := Hid.mk hI
  by_cases h1 : k < a.fingers.length
  · have c1 : (k : Int) < (a.fingers.length : Int) := by omega
    by_cases h2 : k < b.fingers.length
    · have c2 : (k : Int) < (b.fingers.length : Int) := by omega
      have g1 := ints_at h1
      have g2 := ints_at h2
      have w2 := w_add1 (k := k) (by omega)
      by_cases he : a.fingers.getD k 0 = b.fingers.getD k 0
      · have e2 : (a.fingers.getD k 0 == b.fingers.getD k 0) = true := by simpa using he
        have hgood : Hid (∀ j, j < k + 1 → a.fingers.getD j 0 = b.fingers.getD j 0) := ⟨fun j hj => by
          by_cases e : j = k
          · subst e; exact he
          · exact hI.out j (by omega)⟩
        clear he
        repeat' (with_reducible first | refine x_ops ?_ | refine wk ?_ | ((first | refine gd1 ?_ ?_ | refine gd2 ?_ ?_ | refine gd3 ?_ ?_) <;> (first | exact @False.elim _ | intro hc)))
        exact nf (by omega) ⟨vv, hgood.out⟩ rfl
      · have e2 : (a.fingers.getD k 0 == b.fingers.getD k 0) = false := by simpa using he
        have e9 := Hid.mk (lexB_at hI.out h1 h2 he)
        clear he
        repeat' (with_reducible first | refine x_ops ?_ | refine wk ?_ | ((first | refine gd1 ?_ ?_ | refine gd2 ?_ ?_ | refine gd3 ?_ ?_) <;> (first | exact @False.elim _ | intro hc)))
        exact finV_lit vv (by rw [e9.out])
    · have c2 : ¬ (k : Int) < (b.fingers.length : Int) := by omega
      have e9 := Hid.mk (lexB_none (i := k) hI.out (.inr (by omega)))
      repeat' (with_reducible first | refine x_ops ?_ | refine wk ?_ | ((first | refine gd1 ?_ ?_ | refine gd2 ?_ ?_ | refine gd3 ?_ ?_) <;> (first | exact @False.elim _ | intro hc)))
      exact finV_lit vv (by rw [e9.out])
  · have c1 : ¬ (k : Int) < (a.fingers.length : Int) := by omega
    have e9 := Hid.mk (lexB_none (i := k) hI.out (.inl (by omega)))
    repeat' (with_reducible first | refine x_ops ?_ | refine wk ?_ | ((first | refine gd1 ?_ ?_ | refine gd2 ?_ ?_ | refine gd3 ?_ ?_) <;> (first | exact @False.elim _ | intro hc)))
    exact finV_lit vv (by rw [e9.out])
end Go.Proofs.Ytojjdkoglhecbaa
namespace Go.Proofs.Ytojjdkoglhecbaa
open Go.RowKit
set_option linter.unusedSimpArgs false
set_option linter.unusedVariables false

end Go.Proofs.Ytojjdkoglhecbaa
namespace Go.Proofs.Ytojjdkoglhecbaa
open Go.RowKit
set_option linter.unusedSimpArgs false
set_option linter.unusedVariables false

section
variable {P : Program} {G : Ground}
end
end Go.Proofs.Ytojjdkoglhecbaa
namespace Go.Proofs.Ytojjdkoglhecbaa
open Go.RowKit
set_option linter.unusedSimpArgs false
set_option linter.unusedVariables false

end Go.Proofs.Ytojjdkoglhecbaa
namespace Go.Proofs.Ytojjdkoglhecbaa
open Go.RowKit

/-- What a fingering costs from the chord i on, and that it is one. -/
def pcG (h : Hand) (l : List Chord) : Nat → List Grip → Int
  | _, [] => 0
  | i, g :: S => ownC h (l.getD i noC) g + ((if 0 < S.length then stepC h (l.getD i noC) g (l.getD (i + 1) noC) (S.getD 0 noG) else 0) + pcG h l (i + 1) S)
def OkG (h : Hand) (l : List Chord) : Nat → List Grip → Prop
  | _, [] => True
  | i, g :: S => FitG h (l.getD i noC) g ∧ (0 < S.length → StepOk h (l.getD i noC) g (l.getD (i + 1) noC) (S.getD 0 noG)) ∧ OkG h l (i + 1) S
/-- One fingering comes before another one. -/
def lexG : List Grip → List Grip → Bool
  | a :: A, b :: B => if befB a b = true then true else if befB b a = true then false else lexG A B
  | _, _ => false
def soonB (x y : List Grip × Int) : Bool := if x.2 = y.2 then lexG x.1 y.1 else decide (x.2 < y.2)

theorem lexB_asym : ∀ {a b : List Int}, lexB a b = true → lexB b a = false
  | [], _, h => by rw [lexB] at h; cases h; intro _ _ _ _ e; cases e
  | _ :: _, [], h => by rw [lexB] at h; cases h; intro _ _ _ _ _ e; cases e
  | x :: a, y :: b, h => by
    rw [lexB] at h ⊢
    by_cases e : x = y
    · rw [if_pos e] at h
      rw [if_pos e.symm]; exact lexB_asym h
    · rw [if_neg e, decide_eq_true_eq] at h
      rw [if_neg (fun e' => e e'.symm), decide_eq_false_iff_not]; omega
theorem befB_asym {a b : Grip} (h : befB a b = true) : befB b a = false := by
  rw [befB] at h ⊢
  by_cases e : a.pos = b.pos
  · rw [if_pos e] at h
    rw [if_pos e.symm]; exact lexB_asym h
  · rw [if_neg e, decide_eq_true_eq] at h
    rw [if_neg (fun e' => e e'.symm), decide_eq_false_iff_not]; omega
theorem befB_self (a : Grip) : befB a a = false := by
  cases h : befB a a with
  | false => rfl
  | true => rw [befB_asym h] at h; cases h
theorem lexG_asym : ∀ {A B : List Grip}, lexG A B = true → lexG B A = false
  | [], _, h => by rw [lexG] at h; cases h; intro _ _ _ _ e; cases e
  | _ :: _, [], h => by rw [lexG] at h; cases h; intro _ _ _ _ _ e; cases e
  | a :: A, b :: B, h => by
    rw [lexG] at h ⊢
    by_cases e : befB a b = true
    · rw [if_neg (by rw [befB_asym e]; decide), if_pos e]
    · rw [if_neg e] at h
      by_cases e2 : befB b a = true
      · rw [if_pos e2] at h; cases h
      · rw [if_neg e2] at h
        rw [if_neg e2, if_neg e]; exact lexG_asym h
theorem lexG_same (g : Grip) (A B : List Grip) : lexG (g :: A) (g :: B) = lexG A B := by
  rw [lexG, if_neg (by rw [befB_self]; decide), if_neg (by rw [befB_self]; decide)]
theorem soonB_asym {x y : List Grip × Int} (h : soonB x y = true) : soonB y x = false := by
  rw [soonB] at h ⊢
  by_cases e : x.2 = y.2
  · rw [if_pos e] at h
    rw [if_pos e.symm]; exact lexG_asym h
  · rw [if_neg e, decide_eq_true_eq] at h
    rw [if_neg (fun e' => e e'.symm), decide_eq_false_iff_not]; omega

section
variable {h : Hand} {l : List Chord}
theorem okG_iff : ∀ (S : List Grip) (i : Nat), OkG h l i S ↔ ∀ y, y < S.length → FitG h (l.getD (i + y) noC) (S.getD y noG) ∧ (0 < y → StepOk h (l.getD (i + (y - 1)) noC) (S.getD (y - 1) noG) (l.getD (i + y) noC) (S.getD y noG)) := by
  intro S
  induction S with
  | nil => intro i; exact ⟨fun _ y hy => absurd hy (Nat.not_lt_zero _), fun _ => True.intro⟩
  | cons g S ih =>
    intro i
    rw [OkG, ih]
    constructor
    · rintro ⟨h1, h2, h3⟩ y hy
      cases y with
      | zero => exact ⟨h1, fun e => absurd e (Nat.lt_irrefl _)⟩
      | succ y =>
        have h4 := h3 y (by simpa using hy)
        rw [show i + (y + 1) = i + 1 + y by omega]
        refine ⟨h4.1, fun _ => ?_⟩
        cases y with
        | zero => exact h2 (by simpa using hy)
        | succ y =>
          have := h4.2 (Nat.succ_pos _)
          rw [show i + (y + 1 + 1 - 1) = i + 1 + (y + 1 - 1) by omega]
          exact this
    · intro h1
      refine ⟨(h1 0 (by simp)).1, fun h0 => (h1 1 (by simpa using h0)).2 (by decide), fun y hy => ?_⟩
      · have h4 := h1 (y + 1) (by simpa using hy)
        rw [show i + (y + 1) = i + 1 + y by omega] at h4
        refine ⟨h4.1, fun h0 => ?_⟩
        have := h4.2 (Nat.succ_pos _)
        obtain ⟨z, rfl⟩ : ∃ z, y = z + 1 := ⟨y - 1, by omega⟩
        rw [show i + (z + 1 + 1 - 1) = i + 1 + (z + 1 - 1) by omega] at this
        exact this
theorem okG_pr {G : List Grip} (hG : G.length = l.length) : OkG h l 0 G ↔ ∀ k, k < l.length → PrOk h l G k := by
  rw [okG_iff, hG]
  simp only [Nat.zero_add]; rfl
/-- The costs from the end on. -/
def sfx (h : Hand) (l : List Chord) (G : List Grip) (n : Nat) : Nat → Int
  | 0 => 0
  | d + 1 => prC h l G (n - (d + 1)) + sfx h l G n d
theorem sm_sfx (G : List Grip) (n : Nat) : ∀ d, d ≤ n → smI (prL h l G n) n = smI (prL h l G n) (n - d) + sfx h l G n d := by
  intro d
  induction d with
  | zero => intro _; rw [sfx]; simp
  | succ d ih =>
    intro hd
    rw [ih (by omega), sfx, show n - d = (n - (d + 1)) + 1 by omega, smI]
    have : (prL h l G n).getD (n - (d + 1)) 0 = prC h l G (n - (d + 1)) := by
      rw [prL, List.getD_eq_getElem?_getD, List.getElem?_map, List.getElem?_range (by omega)]; rfl
    rw [this]; omega
theorem pcG_sfx (G : List Grip) : ∀ d, d + 1 ≤ G.length → sfx h l G G.length (d + 1) = (if 0 < G.length - (d + 1) then stepC h (l.getD (G.length - (d + 1) - 1) noC) (G.getD (G.length - (d + 1) - 1) noG) (l.getD (G.length - (d + 1)) noC) (G.getD (G.length - (d + 1)) noG) else 0) + pcG h l (G.length - (d + 1)) (G.drop (G.length - (d + 1))) := by
  intro d
  induction d with
  | zero =>
    intro hd
    have e : G.drop (G.length - (0 + 1)) = [G.getD (G.length - (0 + 1)) noG] := by
      rw [List.drop_eq_getElem_cons (by omega : G.length - (0 + 1) < G.length), List.getD_eq_getElem?_getD, List.getElem?_eq_getElem (by omega), List.drop_eq_nil_of_le (by omega)]; rfl
    rw [e, sfx, sfx, pcG, pcG, prC, if_neg (by simp : ¬ 0 < ([] : List Grip).length)]
    split <;> omega
  | succ d ih =>
    intro hd
    have h1 := ih (by omega)
    rw [sfx, h1, if_pos (by omega)]
    generalize hz : G.length - (d + 1 + 1) = z
    have hz1 : G.length - (d + 1) = z + 1 := by omega
    rw [hz1]
    have e : G.drop z = G.getD z noG :: G.drop (z + 1) := by
      rw [List.drop_eq_getElem_cons (by omega : z < G.length), List.getD_eq_getElem?_getD, List.getElem?_eq_getElem (by omega)]; rfl
    have e2 : G.drop (z + 1) = G.getD (z + 1) noG :: G.drop (z + 1 + 1) := by
      rw [List.drop_eq_getElem_cons (by omega : z + 1 < G.length), List.getD_eq_getElem?_getD, List.getElem?_eq_getElem (by omega)]; rfl
    have e3 : (G.drop (z + 1)).getD 0 noG = G.getD (z + 1) noG := by rw [e2]; rfl
    have e4 : 0 < (G.drop (z + 1)).length := by rw [List.length_drop]; omega
    rw [e, pcG, e3, if_pos e4, prC]
    split <;> omega
theorem pcG_sum (G : List Grip) : smI (prL h l G G.length) G.length = pcG h l 0 G := by
  cases hG : G with
  | nil => rfl
  | cons g S =>
    rw [← hG]
    have hl : 0 < G.length := by rw [hG]; simp
    rw [sm_sfx G G.length G.length (Nat.le_refl _), Nat.sub_self, smI, Int.zero_add]
    have h1 := pcG_sfx (h := h) (l := l) G (G.length - 1) (by omega)
    rw [show G.length - 1 + 1 = G.length by omega, Nat.sub_self, if_neg (by omega), Int.zero_add, List.drop_zero] at h1
    exact h1
/-- What is valid is a fingering, at its cost; and the other way round. -/
theorem val_okG {G : List Grip} (hv : (valR h l G).2.2 = 0) : bothE h l = 0 ∧ G.length = l.length ∧ OkG h l 0 G ∧ (valR h l G).1 = pcG h l 0 G := by
  obtain ⟨h1, h2, h3, h4⟩ := val_ok hv
  refine ⟨h1, h2, (okG_pr h2).2 h3, ?_⟩
  rw [h4, ← h2]; exact pcG_sum G
theorem val_isG {G : List Grip} (h1 : bothE h l = 0) (h2 : G.length = l.length) (h3 : OkG h l 0 G) : valR h l G = (pcG h l 0 G, 0, 0) := by
  rw [val_is h1 h2 ((okG_pr h2).1 h3), ← h2, pcG_sum]
end
end Go.Proofs.Ytojjdkoglhecbaa
namespace Go.Proofs.Ytojjdkoglhecbaa
open Go.RowKit

theorem getD_memG {L : List Grip} {k : Nat} (hk : k < L.length) : L.getD k noG ∈ L := by rw [List.getD_eq_getElem?_getD, List.getElem?_eq_getElem hk]; exact List.getElem_mem hk
theorem pw_getD {R : Grip → Grip → Prop} {L : List Grip} (hL : L.Pairwise R) {a b : Nat} (hab : a < b) (hb : b < L.length) : R (L.getD a noG) (L.getD b noG) := by
  have := List.pairwise_iff_getElem.1 hL a b (by omega) hb hab
  rw [List.getD_eq_getElem?_getD, List.getD_eq_getElem?_getD, List.getElem?_eq_getElem hb, List.getElem?_eq_getElem (by omega : a < L.length)]
  exact this
section
variable {h : Hand} {l : List Chord} {Gs : List (List Grip)}
theorem grps_hd (i k r : Nat) (hi : i < l.length) : ∃ T, grps Gs i (pth h l Gs i k r) = grp Gs i k :: T := by
  by_cases e : i + 1 = l.length
  · rw [pth_last e]; exact ⟨_, rfl⟩
  · rw [pth_s (by omega)]; exact ⟨_, rfl⟩
theorem tl_path (hn : NetOk h l Gs) (hT : ∀ i, i < l.length → Gs.getD i [] = grpA h (l.getD i noC)) : ∀ d i, l.length - 1 - i = d → i < l.length → ∀ k r, k < (Gs.getD i []).length → r < (tl h l Gs i k).length →
    OkG h l i (grps Gs i (pth h l Gs i k r)) ∧ pcG h l i (grps Gs i (pth h l Gs i k r)) = ((tl h l Gs i k).getD r noW).1 ∧ (grps Gs i (pth h l Gs i k r)).length = l.length - i := by
  have hfit : ∀ i k, i < l.length → k < (Gs.getD i []).length → FitG h (l.getD i noC) (grp Gs i k) := fun i k hi hk => by
    refine grpA_mem.1 ?_
    rw [← hT i hi, grp]; exact getD_memG hk
  intro d
  induction d with
  | zero =>
    intro i hd hi k r hk hr
    have e : i + 1 = l.length := by omega
    rw [tl_last e] at hr ⊢
    have : r = 0 := by simp at hr; omega
    subst this
    rw [pth_last e]
    refine ⟨⟨hfit i k hi hk, (fun h0 => absurd h0 (Nat.not_lt_zero _)), True.intro⟩, ?_, ?_⟩
    · rw [grps, grps, pcG, pcG, if_neg (by simp : ¬ 0 < ([] : List Grip).length)]
      show _ + (0 + 0) = owG h l Gs i k
      rw [Int.add_zero, Int.add_zero]; rfl
    · rw [grps, grps, List.length_singleton]; omega
  | succ d ih =>
    intro i hd hi k r hk hr
    have hi1 : i + 1 < l.length := by omega
    obtain ⟨m, s, h5, h6, h7, h8⟩ := (tl_ok hn _ i rfl hi k hk _ (mem_nthW hr)).2.2.2 hi1
    have h9 := ih (i + 1) (by omega) hi1 m s h5 h7
    obtain ⟨T, hT'⟩ := grps_hd (h := h) (Gs := Gs) (i + 1) m s hi1
    rw [pth_s hi1, h8]
    simp only [Int.toNat_natCast]
    rw [grps, hT']
    rw [hT'] at h9
    have hst : stG h l Gs i k m = (stepC h (l.getD i noC) (grp Gs i k) (l.getD (i + 1) noC) (grp Gs (i + 1) m), true) := by rw [stG]; exact stepR_ok (stp_of h6)
    refine ⟨⟨hfit i k hi hk, fun _ => stp_of h6, h9.1⟩, ?_, ?_⟩
    · rw [pcG, if_pos (by simp), h9.2.1, hst]
      show ownC h (l.getD i noC) (grp Gs i k) + (stepC h (l.getD i noC) (grp Gs i k) (l.getD (i + 1) noC) (grp Gs (i + 1) m) + _) = ownC h (l.getD i noC) (grp Gs i k) + stepC h (l.getD i noC) (grp Gs i k) (l.getD (i + 1) noC) (grp Gs (i + 1) m) + _
      omega
    · rw [List.length_cons, h9.2.2]; omega
theorem tl_all (hn : NetOk h l Gs) (hT : ∀ i, i < l.length → Gs.getD i [] = grpA h (l.getD i noC)) : ∀ d i, l.length - 1 - i = d → i < l.length → ∀ S : List Grip, S.length = l.length - i → OkG h l i S →
    ∃ k r, k < (Gs.getD i []).length ∧ r < (tl h l Gs i k).length ∧ grps Gs i (pth h l Gs i k r) = S ∧ ((tl h l Gs i k).getD r noW).1 = pcG h l i S := by
  have hmem : ∀ i g, i < l.length → FitG h (l.getD i noC) g → ∃ k, k < (Gs.getD i []).length ∧ grp Gs i k = g := fun i g hi hf => by
    have h1 := grpA_mem.2 hf
    rw [← hT i hi] at h1
    obtain ⟨k, hk, h2⟩ := List.getElem_of_mem h1
    exact ⟨k, hk, by rw [grp, List.getD_eq_getElem?_getD, List.getElem?_eq_getElem hk]; exact h2⟩
  intro d
  induction d with
  | zero =>
    intro i hd hi S hS hok
    have e : i + 1 = l.length := by omega
    obtain ⟨g, rfl⟩ := List.length_eq_one_iff.1 (show S.length = 1 by omega)
    obtain ⟨k, hk, rfl⟩ := hmem i g hi hok.1
    refine ⟨k, 0, hk, by rw [tl_last e]; exact Nat.zero_lt_one, by rw [pth_last e]; rfl, ?_⟩
    rw [tl_last e, pcG, pcG, if_neg (by simp : ¬ 0 < ([] : List Grip).length), Int.add_zero, Int.add_zero]; rfl
  | succ d ih =>
    intro i hd hi S hS hok
    have hi1 : i + 1 < l.length := by omega
    cases S with
    | nil => simp at hS; omega
    | cons g S =>
      rw [List.length_cons] at hS
      obtain ⟨h1, h2, h3⟩ := hok
      obtain ⟨k, hk, rfl⟩ := hmem i g hi h1
      obtain ⟨m, s, m1, m2, m3, m4⟩ := ih (i + 1) (by omega) hi1 S (by omega) h3
      obtain ⟨T, hT'⟩ := grps_hd (h := h) (Gs := Gs) (i + 1) m s hi1
      rw [hT'] at m3
      have h0 : S.getD 0 noG = grp Gs (i + 1) m := by rw [← m3]; rfl
      have hs := h2 (by omega)
      rw [h0] at hs
      have hst : stG h l Gs i k m = (stepC h (l.getD i noC) (grp Gs i k) (l.getD (i + 1) noC) (grp Gs (i + 1) m), true) := by rw [stG]; exact stepR_ok hs
      have hst2 : (stG h l Gs i k m).2 = true := by rw [hst]
      have hw : ((tlC h l Gs i k m).getD s 0, (m : Int), (s : Int)) ∈ tl h l Gs i k := by
        rw [tl_s hi1, mem_mrg]
        exact ⟨m, s, m1, by rw [tlC_len, if_pos hst2]; exact m2, rfl⟩
      obtain ⟨r, hr, h4⟩ := List.getElem_of_mem hw
      have h5 : (tl h l Gs i k).getD r noW = ((tlC h l Gs i k m).getD s 0, (m : Int), (s : Int)) := by
        rw [List.getD_eq_getElem?_getD, List.getElem?_eq_getElem hr]; exact h4
      refine ⟨k, r, hk, hr, ?_, ?_⟩
      · rw [pth_s hi1, h5]
        simp only [Int.toNat_natCast]
        rw [grps, hT', m3]
      · rw [h5, tlC_at hst2 m2, m4, pcG, if_pos (by omega), h0, hst]
        show ownC h (l.getD i noC) (grp Gs i k) + stepC h (l.getD i noC) (grp Gs i k) (l.getD (i + 1) noC) (grp Gs (i + 1) m) + _ = ownC h (l.getD i noC) (grp Gs i k) + (stepC h (l.getD i noC) (grp Gs i k) (l.getD (i + 1) noC) (grp Gs (i + 1) m) + _)
        omega
theorem bef_of (hT : ∀ i, i < l.length → Gs.getD i [] = grpA h (l.getD i noC)) {i a b : Nat} (hi : i < l.length) (hab : a < b) (hb : b < (Gs.getD i []).length) : befB (grp Gs i a) (grp Gs i b) = true := by
  rw [grp, grp]
  rw [hT i hi] at hb ⊢
  exact pw_getD (grpA_sorted h (l.getD i noC)) hab hb
theorem lexG_hd {i a b : Nat} {A B : List Grip} (hT : ∀ i, i < l.length → Gs.getD i [] = grpA h (l.getD i noC)) (hi : i < l.length) (hab : a < b) (hb : b < (Gs.getD i []).length) (ha : ∃ T, A = grp Gs i a :: T) (hB : ∃ T, B = grp Gs i b :: T) : lexG A B = true := by
  obtain ⟨T, rfl⟩ := ha
  obtain ⟨T', rfl⟩ := hB
  rw [lexG, if_pos (bef_of hT hi hab hb)]
theorem tl_lex (hn : NetOk h l Gs) (hT : ∀ i, i < l.length → Gs.getD i [] = grpA h (l.getD i noC)) : ∀ d i, l.length - 1 - i = d → i < l.length → ∀ k, k < (Gs.getD i []).length → ∀ r s, r < s → s < (tl h l Gs i k).length →
    ((tl h l Gs i k).getD r noW).1 = ((tl h l Gs i k).getD s noW).1 → lexG (grps Gs i (pth h l Gs i k r)) (grps Gs i (pth h l Gs i k s)) = true := by
  intro d
  induction d with
  | zero =>
    intro i hd hi k hk r s hrs hs _
    rw [tl_last (by omega)] at hs
    simp at hs; omega
  | succ d ih =>
    intro i hd hi k hk r s hrs hs hc
    have hi1 : i + 1 < l.length := by omega
    obtain ⟨m, x, a1, a2, a3, a4⟩ := (tl_ok hn _ i rfl hi k hk _ (mem_nthW (show r < (tl h l Gs i k).length by omega))).2.2.2 hi1
    obtain ⟨m', y, b1, b2, b3, b4⟩ := (tl_ok hn _ i rfl hi k hk _ (mem_nthW hs)).2.2.2 hi1
    have hsr := mrg_at (n := (Gs.getD (i + 1) []).length) (c := tlC h l Gs i k) hrs (by rw [← tl_s hi1]; exact hs)
    rw [← tl_s hi1, lexW_iff] at hsr
    rw [pth_s hi1, pth_s hi1, a4, b4]
    rw [a4, b4] at hsr hc
    replace hc : owG h l Gs i k + (stG h l Gs i k m).1 + ((tl h l Gs (i + 1) m).getD x noW).1 = owG h l Gs i k + (stG h l Gs i k m').1 + ((tl h l Gs (i + 1) m').getD y noW).1 := hc
    simp only [Int.toNat_natCast]
    have hs2 := hsr.2
    replace hsr : owG h l Gs i k + (stG h l Gs i k m).1 + ((tl h l Gs (i + 1) m).getD x noW).1 < owG h l Gs i k + (stG h l Gs i k m').1 + ((tl h l Gs (i + 1) m').getD y noW).1 ∨ _ ∧ ((m : Int) < (m' : Int) ∨ (m : Int) = (m' : Int) ∧ (x : Int) ≤ (y : Int)) := hsr.1
    rw [grps, grps, lexG_same]
    have hle : (m : Int) < (m' : Int) ∨ (m : Int) = (m' : Int) ∧ (x : Int) ≤ (y : Int) := by
      rcases hsr with h1 | ⟨_, h1⟩
      · omega
      · exact h1
    by_cases hm : m < m'
    · exact lexG_hd hT hi1 hm b1 (grps_hd _ _ _ hi1) (grps_hd _ _ _ hi1)
    · have hmm : m = m' := by omega
      subst hmm
      have hxy : x < y := by
        rcases Nat.lt_or_ge x y with h1 | h1
        · exact h1
        · have : x = y := by omega
          subst this
          exact absurd rfl hs2
      exact ih (i + 1) (by omega) hi1 m a1 x y hxy b3 (by omega)
theorem rt_form (hl : 0 < l.length) {j : Nat} (hj : j < (rtT h l Gs).length) : ∃ m r : Nat, m < (Gs.getD 0 []).length ∧ r < (tl h l Gs 0 m).length ∧ (rtT h l Gs).getD j noW = (((tl h l Gs 0 m).getD r noW).1, (m : Int), (r : Int)) := by
  obtain ⟨m, r, m1, m2, m3⟩ := mem_mrg.1 (mem_nthW hj)
  rw [rtC, List.length_map] at m2
  refine ⟨m, r, m1, m2, ?_⟩
  have m4 : (rtT h l Gs).getD j noW = ((rtC h l Gs m).getD r 0, (m : Int), (r : Int)) := m3
  rw [m4, rtC, getD_mapW m2]
theorem rt_path (hn : NetOk h l Gs) (hT : ∀ i, i < l.length → Gs.getD i [] = grpA h (l.getD i noC)) (hl : 0 < l.length) {j : Nat} (hj : j < (rtT h l Gs).length) :
    OkG h l 0 (fgW h l Gs ((rtT h l Gs).getD j noW)).1 ∧ pcG h l 0 (fgW h l Gs ((rtT h l Gs).getD j noW)).1 = (fgW h l Gs ((rtT h l Gs).getD j noW)).2 ∧ (fgW h l Gs ((rtT h l Gs).getD j noW)).1.length = l.length := by
  obtain ⟨m, r, m1, m2, m3⟩ := rt_form hl hj
  rw [m3, fgW]
  simp only [Int.toNat_natCast]
  exact tl_path hn hT _ 0 rfl hl m r m1 m2
theorem rt_all (hn : NetOk h l Gs) (hT : ∀ i, i < l.length → Gs.getD i [] = grpA h (l.getD i noC)) (hl : 0 < l.length) {S : List Grip} (hS : S.length = l.length) (hok : OkG h l 0 S) : ∃ j, j < (rtT h l Gs).length ∧ fgW h l Gs ((rtT h l Gs).getD j noW) = (S, pcG h l 0 S) := by
  obtain ⟨m, r, m1, m2, m3, m4⟩ := tl_all hn hT _ 0 rfl hl S (by omega) hok
  have hw : ((rtC h l Gs m).getD r 0, (m : Int), (r : Int)) ∈ rtT h l Gs := mem_mrg.2 ⟨m, r, m1, by rw [rtC, List.length_map]; exact m2, rfl⟩
  obtain ⟨j, hj, h4⟩ := List.getElem_of_mem hw
  have h5 : (rtT h l Gs).getD j noW = ((rtC h l Gs m).getD r 0, (m : Int), (r : Int)) := by
    rw [List.getD_eq_getElem?_getD, List.getElem?_eq_getElem hj]; exact h4
  refine ⟨j, hj, ?_⟩
  rw [h5, fgW, rtC, getD_mapW m2, m4]
  simp only [Int.toNat_natCast, m3]
theorem rt_lex (hn : NetOk h l Gs) (hT : ∀ i, i < l.length → Gs.getD i [] = grpA h (l.getD i noC)) (hl : 0 < l.length) {a b : Nat} (hab : a < b) (hb : b < (rtT h l Gs).length) : soonB (fgW h l Gs ((rtT h l Gs).getD a noW)) (fgW h l Gs ((rtT h l Gs).getD b noW)) = true := by
  obtain ⟨m, r, m1, m2, m3⟩ := rt_form hl (show a < (rtT h l Gs).length by omega)
  obtain ⟨m', r', b1, b2, b3⟩ := rt_form hl hb
  have hsr := mrg_at (n := (Gs.getD 0 []).length) (c := rtC h l Gs) hab hb
  rw [show mrg (Gs.getD 0 []).length (rtC h l Gs) = rtT h l Gs from rfl, lexW_iff, m3, b3] at hsr
  rw [m3, b3, soonB, fgW, fgW]
  simp only [Int.toNat_natCast] at *
  by_cases hc : ((tl h l Gs 0 m).getD r noW).1 = ((tl h l Gs 0 m').getD r' noW).1
  · rw [if_pos hc]
    have hle : (m : Int) < (m' : Int) ∨ (m : Int) = (m' : Int) ∧ (r : Int) ≤ (r' : Int) := by
      rcases hsr.1 with h1 | ⟨_, h1⟩
      · omega
      · exact h1
    by_cases hm : m < m'
    · exact lexG_hd hT hl hm b1 (grps_hd _ _ _ hl) (grps_hd _ _ _ hl)
    · have hmm : m = m' := by omega
      subst hmm
      have hxy : r < r' := by
        rcases Nat.lt_or_ge r r' with h1 | h1
        · exact h1
        · have : r = r' := by omega
          subst this
          exact absurd rfl hsr.2
      exact tl_lex hn hT _ 0 rfl hl m m1 r r' hxy b2 hc
  · rw [if_neg hc, decide_eq_true_eq]
    omega
end
end Go.Proofs.Ytojjdkoglhecbaa
namespace Go.Proofs.Ytojjdkoglhecbaa
open Go.RowKit
set_option maxRecDepth 100000

abbrev c_theorbolaw06_sooner_p1 : VC := (.seq (.ops 0 [oo 11 (.fldA 1) [.t 2], oo 12 .ld1 [.t 11], oo 13 (.fldA 1) [.t 3], oo 14 .ld1 [.t 13], oo 15 (.bin .lss) [.t 12, .t 14], oo 4 .mv [.t 15]]) .ret)
abbrev c_theorbolaw06_sooner_p2 : VC := (.seq (.ops 0 [oo 4 .mv [(.c (.lit (.bool true)))]]) .ret)
abbrev c_theorbolaw06_sooner_p3 : VC := (.seq (.ops 0 [oo 4 .mv [(.c (.lit (.bool false)))]]) .ret)
abbrev c_theorbolaw06_sooner_p4 : VC := (.seq (.ops 0 [oo 41 (.fldA 0) [.t 3], od 42 .ld1 [.t 41] [0], oo 43 .mv [.t 5], oo 44 (.ixA 2) [.t 42, .t 43], od 45 (.ldA 2) [.t 44] [0, 1, 2, 3], oo 46 (.fldA 0) [.t 2], od 47 .ld1 [.t 46] [5], oo 48 .mv [.t 5], oo 49 (.ixA 2) [.t 47, .t 48], od 50 (.ldA 2) [.t 49] [5, 6, 7, 8], oo 51 (.call 36) [.t 45, .t 50]]) (.cond (.t 51) c_theorbolaw06_sooner_p3 .skip))
abbrev c_theorbolaw06_sooner_p5 : VC := (.ops 0 [oo 28 .mv [.t 5], oo 29 (.bin .add) [.t 28, kk 1], oo 5 .mv [.t 29]])
abbrev c_theorbolaw06_sooner_p6 : VC := (.seq (.block 1 (.seq (.seq (.ops 0 [oo 30 (.fldA 0) [.t 2], od 31 .ld1 [.t 30] [0], oo 32 .mv [.t 5], oo 33 (.ixA 2) [.t 31, .t 32], od 34 (.ldA 2) [.t 33] [0, 1, 2, 3], oo 35 (.fldA 0) [.t 3], od 36 .ld1 [.t 35] [5], oo 37 .mv [.t 5], oo 38 (.ixA 2) [.t 36, .t 37], od 39 (.ldA 2) [.t 38] [5, 6, 7, 8], oo 40 (.call 36) [.t 34, .t 39]]) (.cond (.t 40) c_theorbolaw06_sooner_p2 .skip)) c_theorbolaw06_sooner_p4)) c_theorbolaw06_sooner_p5)
abbrev c_theorbolaw06_sooner_p7 : VC := (.seq (.seq (.ops 0 [oo 16 .mv [.t 5], oo 17 (.fldA 0) [.t 2], oo 18 .ld1 [.t 17], oo 19 .len [.t 18], oo 20 (.bin .lss) [.t 16, .t 19], oo 21 .mv [.t 20], og 22 21 true .mv [.t 5], og 23 21 true (.fldA 0) [.t 3], og 24 21 true .ld1 [.t 23], og 25 21 true .len [.t 24], og 26 21 true (.bin .lss) [.t 22, .t 25], oo 27 .pick [.t 21, .t 26, (.c (.lit (.bool false)))]]) (.cond (.t 27) .skip (.exit 0))) c_theorbolaw06_sooner_p6)
@[go_sem] abbrev w_theorbolaw06_sooner_p7 : Nat := 4503599627305008
abbrev c_theorbolaw06_sooner_p9 : VC := (.seq (.ops 0 [oo 4 .mv [(.c (.lit (.bool false)))]]) .ret)
abbrev c_theorbolaw06_sooner_p10 : VC := (.seq (.seq (.ops 0 [oo 5 .mv [kk 0]]) (.block 0 (.loop c_theorbolaw06_sooner_p7))) c_theorbolaw06_sooner_p9)
abbrev c_theorbolaw06_sooner_p11 : VC := (.seq (.seq (.ops 0 [oo 6 (.fldA 1) [.t 2], oo 7 .ld1 [.t 6], oo 8 (.fldA 1) [.t 3], oo 9 .ld1 [.t 8], oo 10 (.bin .neq) [.t 7, .t 9]]) (.cond (.t 10) c_theorbolaw06_sooner_p1 .skip)) c_theorbolaw06_sooner_p10)
def c_theorbolaw06_sooner : VC := (.seq (.ops 3 [oo 2 (.box 40) [.t 0], oo 3 (.box 40) [.t 1], oo 4 .mv [(.c (.lit (.bool false)))]]) c_theorbolaw06_sooner_p11)
theorem k_theorbolaw06_sooner : Comp Try.prog nobx gtab 62 52 c_theorbolaw06_sooner [.t 4] := ⟨⟨Try.f62, _, Try.func62, rfl, rfl, kr, kr⟩⟩
abbrev c_theorbolaw06_HandListed_p1 : VC := (.seq (.ops 0 [oo 27 (.call 28) [], oo 6 .mv [.t 27]]) .ret)
abbrev c_theorbolaw06_HandListed_p2 : VC := (.seq (.ops 0 [oo 37 (.call 28) [], oo 6 .mv [.t 37]]) .ret)
abbrev c_theorbolaw06_HandListed_p3 : VC := (.seq (.ops 0 [oo 6 .mv [(.c (.lit (.bool false)))]]) .ret)
abbrev c_theorbolaw06_HandListed_p4 : VC := (.seq (.ops 0 [oo 56 .mv [.t 14], oo 57 (.bin .neq) [.t 56, kk 0], oo 58 .mv [.t 57], og 59 58 false .mv [.t 12], og 60 58 false .mv [.t 9], og 61 58 false .mv [.t 11], og 62 58 false (.ixA 2) [.t 60, .t 61], og 63 58 false (.fldA 1) [.t 62], og 64 58 false .ld1 [.t 63], og 65 58 false (.bin .neq) [.t 59, .t 64], oo 66 .pick [.t 58, (.c (.lit (.bool true))), .t 65], oo 67 .mv [.t 66], og 68 67 false .mv [.t 11], og 69 67 false (.bin .gtr) [.t 68, kk 0], og 70 67 false .mv [.t 69], og 71 70 true .mv [.t 9], og 72 70 true .mv [.t 11], og 73 70 true (.bin .sub) [.t 72, kk 1], og 74 70 true (.ixA 2) [.t 71, .t 73], ⟨(some 75), (some (70, true)), (.ldA 2), [.t 74], (some [0, 1, 2, 3, 4, 5, 6, 7, 8, 9, 10, 11, 12, 13, 14, 15, 16, 17, 18])⟩, og 76 70 true .mv [.t 9], og 77 70 true .mv [.t 11], og 78 70 true (.ixA 2) [.t 76, .t 77], ⟨(some 79), (some (70, true)), (.ldA 2), [.t 78], (some [0, 1, 2, 3, 4, 5, 6, 7, 8, 9, 10, 11, 12, 13, 14, 20, 21, 22])⟩, og 80 70 true (.call 62) [.t 75, .t 79], og 81 70 true (.un .not) [.t 80], og 82 67 false .pick [.t 70, .t 81, (.c (.lit (.bool false)))], oo 83 .pick [.t 67, (.c (.lit (.bool true))), .t 82]]) (.cond (.t 83) c_theorbolaw06_HandListed_p3 .skip))
abbrev c_theorbolaw06_HandListed_p5 : VC := (.ops 0 [oo 42 .mv [.t 11], oo 43 (.bin .add) [.t 42, kk 1], oo 11 .mv [.t 43]])
abbrev c_theorbolaw06_HandListed_p6 : VC := (.seq (.block 1 (.seq (.ops 0 [od 45 (.ldA 10) [.t 7] [], oo 46 .mv [.t 8], oo 47 .mv [.t 9], oo 48 .mv [.t 11], oo 49 (.ixA 2) [.t 47, .t 48], oo 50 (.fldA 0) [.t 49], od 51 .ld1 [.t 50] [2, 3, 4, 5], oo 52 (.call 56) [.t 45, .t 46, .t 51], oo 44 .mv [.t 52], oo 53 (.ext 0) [.t 44], oo 54 (.ext 1) [.t 44], oo 55 (.ext 2) [.t 44], oo 12 .mv [.t 53], oo 13 .mv [.t 54], oo 14 .mv [.t 55]]) c_theorbolaw06_HandListed_p4)) c_theorbolaw06_HandListed_p5)
abbrev c_theorbolaw06_HandListed_p7 : VC := (.seq (.seq (.ops 0 [oo 38 .mv [.t 11], oo 39 .mv [.t 9], oo 40 .len [.t 39], oo 41 (.bin .lss) [.t 38, .t 40]]) (.cond (.t 41) .skip (.exit 0))) c_theorbolaw06_HandListed_p6)
@[go_sem] abbrev w_theorbolaw06_HandListed_p7 : Nat := 19342813113833791917422656
abbrev c_theorbolaw06_HandListed_p9 : VC := (.seq (.ops 0 [oo 6 .mv [(.c (.lit (.bool false)))]]) .ret)
abbrev c_theorbolaw06_HandListed_p10 : VC := (.seq (.ops 0 [oo 109 (.call 28) [], oo 6 .mv [.t 109]]) .ret)
abbrev c_theorbolaw06_HandListed_p11 : VC := (.ops 0 [oo 116 .mv [.t 19], oo 117 (.bin .add) [.t 116, kk 1], oo 19 .mv [.t 117]])
abbrev c_theorbolaw06_HandListed_p12 : VC := (.seq (.block 3 (.ops 0 [oo 118 .mv [.t 18], oo 119 .mv [.t 118], og 120 119 false .mv [.t 9], og 121 119 false .mv [.t 19], og 122 119 false (.ixA 2) [.t 120, .t 121], og 123 119 false (.fldA 0) [.t 122], ⟨(some 124), (some (119, false)), .ld1, [.t 123], (some [0, 1, 2, 3, 4, 5])⟩, og 125 119 false (.fldA 0) [.t 15], ⟨(some 126), (some (119, false)), .ld1, [.t 125], (some [0, 1, 7])⟩, og 127 119 false (.call 34) [.t 124, .t 126], oo 128 .pick [.t 119, (.c (.lit (.bool true))), .t 127], oo 18 .mv [.t 128]])) c_theorbolaw06_HandListed_p11)
abbrev c_theorbolaw06_HandListed_p13 : VC := (.seq (.seq (.ops 0 [oo 112 .mv [.t 19], oo 113 .mv [.t 9], oo 114 .len [.t 113], oo 115 (.bin .lss) [.t 112, .t 114]]) (.cond (.t 115) .skip (.exit 2))) c_theorbolaw06_HandListed_p12)
@[go_sem] abbrev w_theorbolaw06_HandListed_p13 : Nat := 680559541545018392099120684367207989248
abbrev c_theorbolaw06_HandListed_p15 : VC := (.seq (.ops 0 [oo 6 .mv [(.c (.lit (.bool false)))]]) .ret)
abbrev c_theorbolaw06_HandListed_p16 : VC := (.seq (.ops 0 [oo 147 (.call 28) [], oo 6 .mv [.t 147]]) .ret)
def c_theorbolaw06_HandListed_p17 : VC := (.seq (.seq (.ops 0 [oo 129 .mv [.t 18], oo 130 (.un .not) [.t 129], oo 131 .mv [.t 130], og 132 131 true .mv [.t 9], og 133 131 true .len [.t 132], og 134 131 true .mv [.t 1], og 135 131 true (.bin .lss) [.t 133, .t 134], og 136 131 true .mv [.t 135], ⟨(some 137), (some (136, false)), (.ldA 2), [.t 15], (some [0, 1, 2, 3, 4, 5, 6, 7])⟩, og 138 136 false .mv [.t 9], og 139 136 false .mv [.t 9], og 140 136 false .len [.t 139], og 141 136 false (.bin .sub) [.t 140, kk 1], og 142 136 false (.ixA 2) [.t 138, .t 141], ⟨(some 143), (some (136, false)), (.ldA 2), [.t 142], (some [0, 1, 2, 3, 4, 5, 6, 7, 9, 10, 11, 12, 13])⟩, og 144 136 false (.call 62) [.t 137, .t 143], og 145 131 true .pick [.t 136, (.c (.lit (.bool true))), .t 144], oo 146 .pick [.t 131, .t 145, (.c (.lit (.bool false)))]]) (.cond (.t 146) c_theorbolaw06_HandListed_p15 .skip)) c_theorbolaw06_HandListed_p16)
abbrev c_theorbolaw06_HandListed_p18 : VC := (.seq (.seq (.ops 0 [oo 19 .mv [kk 0]]) (.block 2 (.loop c_theorbolaw06_HandListed_p13))) c_theorbolaw06_HandListed_p17)
abbrev c_theorbolaw06_HandListed_p19 : VC := (.seq (.ops 0 [oo 18 .mv [(.c (.lit (.bool false)))]]) c_theorbolaw06_HandListed_p18)
abbrev c_theorbolaw06_HandListed_p20 : VC := (.seq (.ops 0 [oo 110 .mv [.t 16], oo 111 (.fldA 1) [.t 15], ⟨none, none, (.st 1), [.t 111, .t 110], none⟩]) c_theorbolaw06_HandListed_p19)
abbrev c_theorbolaw06_HandListed_p21 : VC := (.seq (.seq (.ops 0 [oo 107 .mv [.t 10], oo 108 (.bin .neq) [.t 107, kk 0]]) (.cond (.t 108) c_theorbolaw06_HandListed_p10 .skip)) c_theorbolaw06_HandListed_p20)
abbrev c_theorbolaw06_HandListed_p22 : VC := (.seq (.ops 0 [oo 99 (.ldA 10) [.t 7], oo 100 .mv [.t 8], oo 101 (.fldA 0) [.t 15], oo 102 .ld1 [.t 101], oo 103 (.call 56) [.t 99, .t 100, .t 102], oo 98 .mv [.t 103], oo 104 (.ext 0) [.t 98], oo 105 (.ext 1) [.t 98], oo 106 (.ext 2) [.t 98], oo 16 .mv [.t 104], oo 17 .mv [.t 105], oo 10 .mv [.t 106]]) c_theorbolaw06_HandListed_p21)
abbrev c_theorbolaw06_HandListed_p23 : VC := (.seq (.ops 7 [oo 93 (.ldA 10) [.t 7], oo 94 .mv [.t 8], oo 95 .mv [.t 2], oo 96 (.call 55) [.t 93, .t 94, .t 95], ⟨(some 97), none, (.build [(.sl 0 [] .exact), li 0] [(0, 1)]), [.t 96], none⟩, ⟨(some 15), none, (.alloc 40 [(.sl 0 [] .exact), li 0]), [], none⟩, ⟨none, none, (.st 2), [.t 15, .t 97], none⟩]) c_theorbolaw06_HandListed_p22)
def c_theorbolaw06_HandListed_p24 : VC := (.seq (.seq (.ops 0 [oo 84 .mv [.t 9], oo 85 .len [.t 84], oo 86 (.bin .lss) [.t 85, kk 1], oo 87 .mv [.t 86], og 88 87 false .mv [.t 9], og 89 87 false .len [.t 88], og 90 87 false .mv [.t 1], og 91 87 false (.bin .gtr) [.t 89, .t 90], oo 92 .pick [.t 87, (.c (.lit (.bool true))), .t 91]]) (.cond (.t 92) c_theorbolaw06_HandListed_p9 .skip)) c_theorbolaw06_HandListed_p23)
abbrev c_theorbolaw06_HandListed_p25 : VC := (.seq (.seq (.ops 0 [oo 11 .mv [kk 0]]) (.block 0 (.loop c_theorbolaw06_HandListed_p7))) c_theorbolaw06_HandListed_p24)
abbrev c_theorbolaw06_HandListed_p26 : VC := (.seq (.seq (.ops 0 [oo 35 .mv [.t 10], oo 36 (.bin .neq) [.t 35, kk 0]]) (.cond (.t 36) c_theorbolaw06_HandListed_p2 .skip)) c_theorbolaw06_HandListed_p25)
abbrev c_theorbolaw06_HandListed_p27 : VC := (.seq (.ops 0 [oo 29 (.ldA 10) [.t 7], oo 30 .mv [.t 8], oo 31 .mv [.t 1], oo 32 (.call 37) [.t 29, .t 30, .t 31], oo 28 .mv [.t 32], oo 33 (.ext 0) [.t 28], oo 34 (.ext 1) [.t 28], oo 9 .mv [.t 33], oo 10 .mv [.t 34]]) c_theorbolaw06_HandListed_p26)
abbrev c_theorbolaw06_HandListed_p28 : VC := (.seq (.seq (.ops 0 [oo 24 (.ldA 10) [.t 7], oo 25 .mv [.t 8], oo 26 (.call 29) [.t 24, .t 25]]) (.cond (.t 26) c_theorbolaw06_HandListed_p1 .skip)) c_theorbolaw06_HandListed_p27)
abbrev c_theorbolaw06_HandListed_p29 : VC := (.seq (.ops 7 [oo 20 (.fldA 0) [.t 3], od 21 (.ldA 10) [.t 20] [0], oo 22 (.fldA 10) [.t 3], od 23 .ld1 [.t 22] [2], ⟨(some 7), none, (.alloc 25 [(.sl 0 [] .exact), (.sl 0 [] .exact), (.sl 0 [] .exact), li 0, li 0, li 0, li 0, li 0, li 0, li 0]), [], (some [])⟩, ⟨none, none, (.st 10), [.t 7, .t 21], (some [4])⟩, oo 8 .mv [.t 23]]) c_theorbolaw06_HandListed_p28)
def c_theorbolaw06_HandListed : VC := (.seq (.ops 2 [oo 3 (.box 35) [.t 0], oo 6 .mv [(.c (.lit (.bool false)))]]) c_theorbolaw06_HandListed_p29)
theorem k_theorbolaw06_HandListed : Comp Try.prog nobx gtab 20 148 c_theorbolaw06_HandListed [.t 6] := ⟨⟨Try.f20, _, Try.func20, rfl, rfl, kr, kr⟩⟩
end Go.Proofs.Ytojjdkoglhecbaa
namespace Go.Proofs.Ytojjdkoglhecbaa
open Go.RowKit

section
variable {h : Hand} {l : List Chord} {Gs : List (List Grip)}
theorem grps_ok (hn : NetOk h l Gs) : ∀ d i, l.length - 1 - i = d → i < l.length → ∀ k r, k < (Gs.getD i []).length → r < (tl h l Gs i k).length →
    (grps Gs i (pth h l Gs i k r)).length = l.length - i ∧ ∀ g ∈ grps Gs i (pth h l Gs i k r), ∃ j m, j < l.length ∧ m < (Gs.getD j []).length ∧ g = grp Gs j m := by
  intro d
  induction d with
  | zero =>
    intro i hd hi k r hk hr
    have e : i + 1 = l.length := by omega
    rw [pth_last e]
    refine ⟨by rw [grps, grps, List.length_singleton]; omega, fun g hg => ⟨i, k, hi, hk, ?_⟩⟩
    rw [grps, grps, List.mem_singleton] at hg; exact hg
  | succ d ih =>
    intro i hd hi k r hk hr
    have hi1 : i + 1 < l.length := by omega
    obtain ⟨m, s, h5, h6, h7⟩ := tl_at hn hi1 hk hr
    have h8 := ih (i + 1) (by omega) hi1 m s h5 h6
    rw [pth_s hi1, h7]
    simp only [Int.toNat_natCast]
    rw [grps]
    refine ⟨by rw [List.length_cons, h8.1]; omega, fun g hg => ?_⟩
    rcases List.mem_cons.1 hg with rfl | hg
    · exact ⟨i, k, hi, hk, rfl⟩
    · exact h8.2 g hg
theorem fg_fits (hn : NetOk h l Gs) {q : Nat} {f : List Grip × Int} (hf : f ∈ fgL h l Gs q) : FitsG f.1 := by
  have h4 := hn.len
  by_cases h0 : l.length = 0
  · rw [fgL, if_pos h0, List.mem_singleton] at hf
    subst hf
    exact ⟨by simp, fun g hg => by cases hg⟩
  rw [fgL, if_neg h0, List.mem_map] at hf
  obtain ⟨w, hw, rfl⟩ := hf
  obtain ⟨m, r, m1, m2, rfl⟩ := mem_mrg.1 (List.mem_of_mem_take hw)
  rw [rtC, List.length_map] at m2
  have h1 := grps_ok hn _ 0 rfl (by omega) m r m1 m2
  rw [fgW]
  simp only [Int.toNat_natCast]
  refine ⟨by rw [h1.1]; omega, fun g hg => ?_⟩
  obtain ⟨j, k, hj, hk, rfl⟩ := h1.2 g hg
  have h2 := (hn.grip hj hk).2
  have h3 := (hn.fits.at j).1
  rw [grp, h2]; omega
end
end Go.Proofs.Ytojjdkoglhecbaa
namespace Go.Proofs.Ytojjdkoglhecbaa
open Go.RowKit

theorem fitsG_at {G : List Grip} (hG : FitsG G) {k : Nat} (hk : k < G.length) : (G.getD k noG).fingers.length ≤ 17592186044416 := hG.2 _ (getD_memG hk)
theorem lexG_drop {A B : List Grip} {k : Nat} (ha : k < A.length) (hb : k < B.length) : lexG (A.drop k) (B.drop k) = if befB (A.getD k noG) (B.getD k noG) = true then true else if befB (B.getD k noG) (A.getD k noG) = true then false else lexG (A.drop (k + 1)) (B.drop (k + 1)) := by
  have e : ∀ {L : List Grip}, k < L.length → L.drop k = L.getD k noG :: L.drop (k + 1) := fun {L} hl => by
    rw [List.drop_eq_getElem_cons hl, List.getD_eq_getElem?_getD, List.getElem?_eq_getElem hl]; rfl
  rw [e ha, e hb, lexG]
theorem lexG_end {A B : List Grip} {k : Nat} (h : ¬ (k < A.length ∧ k < B.length)) : lexG (A.drop k) (B.drop k) = false := by
  by_cases ha : k < A.length
  · rw [(show B.drop k = [] from List.drop_eq_nil_of_le (by omega))]
    cases A.drop k with
    | nil => rw [lexG]; intro _ _ _ _ e; cases e
    | cons a A => rw [lexG]; intro _ _ _ _ _ e; cases e
  · rw [(show A.drop k = [] from List.drop_eq_nil_of_le (by omega)), lexG]
    intro _ _ _ _ e; cases e

set_option maxHeartbeats 4000000 in
theorem sooner_fn (A B : List Grip) (c d : Int) (hA : FitsG A) (hB : FitsG B) : Fn Try.prog Gd 62 [.agg [tGs A, vint c], .agg [tGs B, vint d]] (vbool (soonB (A, c) (B, d))) := by
  refine Fn.of_vx0 k_theorbolaw06_sooner (by simp) (by rfl) ?_
  have hA1 := hA.1
  have hB1 := hB.1
  unfold c_theorbolaw06_sooner tGs
  by_cases hc : c = d
  case neg =>
    have e1 : (c == d) = false := by rw [beq_eq_false_iff_ne]; exact hc
    have e2 : soonB (A, c) (B, d) = decide (c < d) := by rw [soonB, if_neg hc]
    rw [e2]
    clear hc e2 hA hB
    by_cases hlt : c < d
    · rw [decide_eq_true hlt]
      repeat' (with_reducible first | refine x_ops ?_ | refine wk ?_ | ((first | refine gd1 ?_ ?_ | refine gd2 ?_ ?_ | refine gd3 ?_ ?_) <;> (first | exact @False.elim _ | intro hc)))
      exact finV_dry rfl vv
    · rw [decide_eq_false hlt]
      repeat' (with_reducible first | refine x_ops ?_ | refine wk ?_ | ((first | refine gd1 ?_ ?_ | refine gd2 ?_ ?_ | refine gd3 ?_ ?_) <;> (first | exact @False.elim _ | intro hc)))
      exact finV_dry rfl vv
  subst hc
  have e1 : (c == c) = true := beq_self_eq_true _
  have e2 : soonB (A, c) (B, c) = lexG A B := by rw [soonB, if_pos rfl]
  rw [e2]
  have BF := fun k (ha : k < A.length) => before_fn (A.getD k noG) (B.getD k noG) (fitsG_at hA ha)
  have BG := fun k (hb : k < B.length) => before_fn (B.getD k noG) (A.getD k noG) (fitsG_at hB hb)
  have g5 := gs_len A
  have g6 := gs_len B
  unfold Grip.val Grip.cells at BF BG
  replace BF := Hid.mk BF
  replace BG := Hid.mk BG
  clear e2 hA hB
  repeat' (with_reducible first | refine x_ops ?_ | refine wk ?_ | ((first | refine gd1 ?_ ?_ | refine gd2 ?_ ?_ | refine gd3 ?_ ?_) <;> (first | exact @False.elim _ | intro hc)))
  refine x_loopF w_theorbolaw06_sooner_p7 kr (min A.length B.length) (fun k t => t 5 = vint (k : Int) ∧ lexG A B = lexG (A.drop k) (B.drop k)) ⟨vv, rfl⟩ ?_
  rintro k t hk ⟨h5, hlex⟩
  by_cases hka : k < A.length
  case neg =>
    have c1 : ¬ (k : Int) < (A.length : Int) := by omega
    rw [hlex, lexG_end (fun e => hka e.1)]
    clear hlex hka hk
    repeat' (with_reducible first | refine x_ops ?_ | simp only [go_sem, Nat.reduceAdd, Nat.reduceEqDiff, Nat.reduceLT, Nat.reduceLeDiff, Nat.reduceMul, Nat.reduceSub, Nat.reducePow, Nat.reduceDiv, Nat.reduceMod, Nat.reduceBEq, Int.reduceBEq, Int.reduceLT, reduceIte, tIs, tBs, tPs, vund, *] | ((first | refine gd1 ?_ ?_ | refine gd2 ?_ ?_ | refine gd3 ?_ ?_) <;> (first | exact @False.elim _ | intro hc)))
    exact finV_dry rfl vv
  have c1 : (k : Int) < (A.length : Int) := by omega
  by_cases hkb : k < B.length
  case neg =>
    have c2 : ¬ (k : Int) < (B.length : Int) := by omega
    rw [hlex, lexG_end (fun e => hkb e.2)]
    clear hlex hkb hk
    repeat' (with_reducible first | refine x_ops ?_ | simp only [go_sem, Nat.reduceAdd, Nat.reduceEqDiff, Nat.reduceLT, Nat.reduceLeDiff, Nat.reduceMul, Nat.reduceSub, Nat.reducePow, Nat.reduceDiv, Nat.reduceMod, Nat.reduceBEq, Int.reduceBEq, Int.reduceLT, reduceIte, tIs, tBs, tPs, vund, *] | ((first | refine gd1 ?_ ?_ | refine gd2 ?_ ?_ | refine gd3 ?_ ?_) <;> (first | exact @False.elim _ | intro hc)))
    exact finV_dry rfl vv
  have c2 : (k : Int) < (B.length : Int) := by omega
  have c3 : k * 2 + 2 ≤ A.length * 2 := by omega
  have c4 : k * 2 + 2 ≤ B.length * 2 := by omega
  have g1 := gs_take hka
  have g2 := gs_take hkb
  have w1 := w_add1 (k := k) (by omega)
  have F1 := BF.out k hka
  have F2 := BG.out k hkb
  rw [lexG_drop hka hkb] at hlex
  have hk2 : k < min A.length B.length := by omega
  replace hk2 := Hid.mk hk2
  generalize befB (A.getD k noG) (B.getD k noG) = b1 at *
  generalize befB (B.getD k noG) (A.getD k noG) = b2 at *
  clear hka hkb hk
  cases b1
  case true =>
    rw [hlex, if_pos rfl]
    clear hlex
    repeat' (with_reducible first | refine x_ops ?_ | simp only [go_sem, Nat.reduceAdd, Nat.reduceEqDiff, Nat.reduceLT, Nat.reduceLeDiff, Nat.reduceMul, Nat.reduceSub, Nat.reducePow, Nat.reduceDiv, Nat.reduceMod, Nat.reduceBEq, Int.reduceBEq, Int.reduceLT, reduceIte, tIs, tBs, tPs, vund, *] | (with_reducible refine xc (F1) ?_) | (with_reducible refine xc (F2) ?_) | ((first | refine gd1 ?_ ?_ | refine gd2 ?_ ?_ | refine gd3 ?_ ?_) <;> (first | exact @False.elim _ | intro hc)))
    exact finV_dry rfl vv
  rw [if_neg (by decide)] at hlex
  cases b2
  case true =>
    rw [hlex, if_pos rfl]
    clear hlex
    repeat' (with_reducible first | refine x_ops ?_ | simp only [go_sem, Nat.reduceAdd, Nat.reduceEqDiff, Nat.reduceLT, Nat.reduceLeDiff, Nat.reduceMul, Nat.reduceSub, Nat.reducePow, Nat.reduceDiv, Nat.reduceMod, Nat.reduceBEq, Int.reduceBEq, Int.reduceLT, reduceIte, tIs, tBs, tPs, vund, *] | (with_reducible refine xc (F1) ?_) | (with_reducible refine xc (F2) ?_) | ((first | refine gd1 ?_ ?_ | refine gd2 ?_ ?_ | refine gd3 ?_ ?_) <;> (first | exact @False.elim _ | intro hc)))
    exact finV_dry rfl vv
  rw [if_neg (by decide)] at hlex
  replace hlex := Hid.mk hlex
  repeat' (with_reducible first | refine x_ops ?_ | simp only [go_sem, Nat.reduceAdd, Nat.reduceEqDiff, Nat.reduceLT, Nat.reduceLeDiff, Nat.reduceMul, Nat.reduceSub, Nat.reducePow, Nat.reduceDiv, Nat.reduceMod, Nat.reduceBEq, Int.reduceBEq, Int.reduceLT, reduceIte, tIs, tBs, tPs, vund, *] | (with_reducible refine xc (F1) ?_) | (with_reducible refine xc (F2) ?_) | ((first | refine gd1 ?_ ?_ | refine gd2 ?_ ?_ | refine gd3 ?_ ?_) <;> (first | exact @False.elim _ | intro hc)))
  exact nf hk2.out ⟨vv, hlex.out⟩ rfl
end Go.Proofs.Ytojjdkoglhecbaa
namespace Go.Proofs.Ytojjdkoglhecbaa
open Go.RowKit

/-- Whose a number is: of the node of a grip, or nobody's. -/
abbrev Own := Nat → Option (Nat × Nat)
/-- A node in memory. -/
structure NdS (T : List Way) (I : Nat → Bool → List Way → Prop) (own : Own) (o : Option (Nat × Nat)) (nb : Nat) (M : Mm) (j : Nat) (due : Bool) (H : List Way) (tok : Tok) (v : V) : Prop where
  box : M.obj nb = some (.box [.sl j (wyC (T.take j)) tok, v, .fn 110 [], vbool due] 159)
  lt : nb < M.next
  ow : own nb = o
  q : QV M v H
  hp : HpOk H
  st : I j due H
  qo : ∀ q n, v = .gsl q n 3 → own q = o
  ap : Apb M tok j 154 3
  ao : ∀ q, tok = .own q → own q = o
theorem NdS.vlt {T : List Way} {I : Nat → Bool → List Way → Prop} {own : Own} {o : Option (Nat × Nat)} {nb : Nat} {M : Mm} {j : Nat} {due : Bool} {H : List Way} {tok : Tok} {v : V} (h : NdS T I own o nb M j due H tok v) {q n : Nat} (e : v = .gsl q n 3) : q < M.next ∧ n = H.length ∧ ∃ cs, M.obj q = some (.box cs 154) := by
  rcases h.q with ⟨h1, _⟩ | ⟨id, R, h1, h2, h3⟩
  · rw [h1] at e; cases e
  · rw [h1] at e; injection e with e1 e2; subst e1; exact ⟨h2, e2.symm, _, h3⟩
theorem NdS.tlt {T : List Way} {I : Nat → Bool → List Way → Prop} {own : Own} {o : Option (Nat × Nat)} {nb : Nat} {M : Mm} {j : Nat} {due : Bool} {H : List Way} {tok : Tok} {v : V} (h : NdS T I own o nb M j due H tok v) {q : Nat} (e : tok = .own q) : q < M.next ∧ M.obj q = some (.row j 154 3) := by
  rcases h.ap with h1 | ⟨t, h1, h2, h3⟩
  · rw [h1] at e; cases e
  · rw [h1] at e; injection e with e; subst e; exact ⟨h2, h3⟩
/-- It stays, where its own numbers stay. -/
theorem NdS.keep {T : List Way} {I : Nat → Bool → List Way → Prop} {own own' : Own} {o : Option (Nat × Nat)} {nb : Nat} {M M' : Mm} {j : Nat} {due : Bool} {H : List Way} {tok : Tok} {v : V} (h : NdS T I own o nb M j due H tok v) (hn : M.next ≤ M'.next) (ho : ∀ q, q < M.next → own' q = own q)
    (hf : ∀ q, q < M.next → own q = o → (q = nb ∨ (∃ n, v = .gsl q n 3) ∨ tok = .own q) → M'.obj q = M.obj q) : NdS T I own' o nb M' j due H tok v where
  box := (hf nb h.lt h.ow (.inl rfl)).trans h.box
  lt := Nat.lt_of_lt_of_le h.lt hn
  ow := (ho nb h.lt).trans h.ow
  q := h.q.mono hn fun q n e => hf q (h.vlt e).1 (h.qo q n e) (.inr (.inl ⟨n, e⟩))
  hp := h.hp
  st := h.st
  qo := fun q n e => (ho q (h.vlt e).1).trans (h.qo q n e)
  ap := by
    rcases h.ap with h1 | ⟨t, h1, h2, h3⟩
    · exact .inl h1
    · exact .inr ⟨t, h1, Nat.lt_of_lt_of_le h2 hn, (hf t h2 (h.ao t h1) (.inr (.inr h1))).trans h3⟩
  ao := fun q e => (ho q (h.tlt e).1).trans (h.ao q e)
/-- What a row of nodes has at a grip: no node, or its. -/
def NdAt (h : Hand) (l : List Chord) (Gs : List (List Grip)) (own : Own) (y k : Nat) (M : Mm) (x : V) : Prop :=
  x = .lit (.pointer none) ∨ ∃ nb j due H tok v, x = .ptr nb 0 ∧ NdS (tl h l Gs y k) (NdI h l Gs y k) own (some (y, k)) nb M j due H tok v
theorem NdAt.keep {h : Hand} {l : List Chord} {Gs : List (List Grip)} {own own' : Own} {y k : Nat} {M M' : Mm} {x : V} (ha : NdAt h l Gs own y k M x) (hn : M.next ≤ M'.next) (ho : ∀ q, q < M.next → own' q = own q) (hf : ∀ q, q < M.next → own q = some (y, k) → M'.obj q = M.obj q) : NdAt h l Gs own' y k M' x := by
  rcases ha with ha | ⟨nb, j, due, H, tok, v, e, hs⟩
  · exact .inl ha
  · exact .inr ⟨nb, j, due, H, tok, v, e, hs.keep hn ho fun q hq hqo _ => hf q hq hqo⟩
/-- A lister in memory, from the chord i on. -/
structure LsG (h : Hand) (l : List Chord) (Gs : List (List Grip)) (tb nq rt : Nat) (rs : List Nat) (i : Nat) (own : Own) (M : Mm) : Prop where
  tbo : M.obj tb = some (.box [netE h l Gs, .gsl nq l.length 1, .ptr rt 0] 162)
  nqo : M.obj nq = some (.box (rwN rs Gs) 163)
  row : ∀ y, i ≤ y → y < l.length → ∃ R : List V, M.obj (rs.getD y 0) = some (.box R 150) ∧ R.length = (Gs.getD y []).length ∧ ∀ k, k < (Gs.getD y []).length → ∃ x, R[k]? = some x ∧ NdAt h l Gs own y k M x
  inj : ∀ y z, y < z → z < l.length → rs.getD y 0 < rs.getD z 0
  ltt : tb < M.next
  ltn : nq < M.next
  ltr : ∀ y, y < l.length → rs.getD y 0 < M.next
  ot : own tb = none
  on : own nq = none
  oy : ∀ y, y < l.length → own (rs.getD y 0) = none
  cl : ∀ q, M.next ≤ q → own q = none
theorem LsG.keep {h : Hand} {l : List Chord} {Gs : List (List Grip)} {tb nq rt : Nat} {rs : List Nat} {i j : Nat} {own own' : Own} {M M' : Mm} (hL : LsG h l Gs tb nq rt rs i own M) (hij : i ≤ j) (hn : M.next ≤ M'.next) (ho : ∀ q, q < M.next → own' q = own q) (hcl : ∀ q, M'.next ≤ q → own' q = none)
    (h1 : M'.obj tb = M.obj tb) (h2 : M'.obj nq = M.obj nq) (h3 : ∀ y, j ≤ y → y < l.length → M'.obj (rs.getD y 0) = M.obj (rs.getD y 0)) (h4 : ∀ q y k, q < M.next → own q = some (y, k) → j ≤ y → M'.obj q = M.obj q) : LsG h l Gs tb nq rt rs j own' M' where
  tbo := h1.trans hL.tbo
  nqo := h2.trans hL.nqo
  row := fun y hy hyl => by
    obtain ⟨R, r1, r2, r3⟩ := hL.row y (by omega) hyl
    refine ⟨R, (h3 y hy hyl).trans r1, r2, fun k hk => ?_⟩
    obtain ⟨x, x1, x2⟩ := r3 k hk
    exact ⟨x, x1, x2.keep hn ho fun q hq hqo => h4 q y k hq hqo hy⟩
  inj := hL.inj
  ltt := Nat.lt_of_lt_of_le hL.ltt hn
  ltn := Nat.lt_of_lt_of_le hL.ltn hn
  ltr := fun y hy => Nat.lt_of_lt_of_le (hL.ltr y hy) hn
  ot := (ho tb hL.ltt).trans hL.ot
  on := (ho nq hL.ltn).trans hL.on
  oy := fun y hy => (ho _ (hL.ltr y hy)).trans (hL.oy y hy)
  cl := hcl
/-- What a call from the chord i on may change. -/
def FgL (rs : List Nat) (n : Nat) (own : Own) (i : Nat) (M M' : Mm) : Prop :=
  M.next ≤ M'.next ∧ ∀ q, q < M.next → (∀ y k, own q = some (y, k) → y < i) → (∀ y, i ≤ y → y < n → q ≠ rs.getD y 0) → M'.obj q = M.obj q
/-- What get gives of a list. -/
def GtR (T : List Way) (r : Nat) : V := if r < T.length then .tup [.agg [vint (T.getD r noW).1, vint (T.getD r noW).2.1, vint (T.getD r noW).2.2], vbool true] else .tup [.agg [vint 0, vint 0, vint 0], vbool false]
/-- What get leaves. -/
def GpPost (h : Hand) (l : List Chord) (Gs : List (List Grip)) (tb nq rt : Nat) (rs : List Nat) (T : List Way) (i r : Nat) (own : Own) (M : Mm) (res : V) (M' : Mm) : Prop :=
  res = GtR T r ∧ ∃ own', (∀ q, q < M.next → own' q = own q) ∧ LsG h l Gs tb nq rt rs i own' M' ∧ FgL rs l.length own i M M'
theorem gpPost_ex {h : Hand} {l : List Chord} {Gs : List (List Grip)} {tb nq rt : Nat} {rs : List Nat} (T : List Way) {i : Nat} (r : Nat) {own : Own} {M : Mm} (hL : LsG h l Gs tb nq rt rs i own M) : ∃ res M', GpPost h l Gs tb nq rt rs T i r own M res M' :=
  ⟨_, M, rfl, own, fun _ _ => rfl, hL, Nat.le_refl _, fun _ _ _ _ => rfl⟩
/-- The contract of get from the chord i on. -/
def GetOk (h : Hand) (l : List Chord) (Gs : List (List Grip)) (tb nq rt : Nat) (rs : List Nat) (i cnt : Nat) (sub : Nat → List Way) : Prop :=
  ∀ (k r : Nat) (own : Own) (M : Mm), k < cnt → r ≤ 100 → LsG h l Gs tb nq rt rs i own M → SFn Try.prog Gd 112 [.ptr tb 0, vint i, vint k, vint r] M (GpPost h l Gs tb nq rt rs (sub k) i r own M)
/-- From state to state of a node. -/
structure Trn (rs : List Nat) (n lv nb : Nat) (own : Own) (M : Mm) (tok : Tok) (v : V) (own' : Own) (M' : Mm) (tok' : Tok) (v' : V) : Prop where
  nx : M.next ≤ M'.next
  ow : ∀ q, q < M.next → own' q = own q
  fr : ∀ q, q < M.next → q ≠ nb → (∀ n, v ≠ .gsl q n 3) → tok ≠ .own q → (∀ y k, own q = some (y, k) → y < lv) → (∀ y, lv ≤ y → y < n → q ≠ rs.getD y 0) → M'.obj q = M.obj q
  vn : ∀ q n, v' = .gsl q n 3 → (∃ n', v = .gsl q n' 3) ∨ M.next ≤ q
  tn : ∀ q, tok' = .own q → tok = .own q ∨ M.next ≤ q
theorem Trn.refl (rs : List Nat) (n lv nb : Nat) (own : Own) (M : Mm) (tok : Tok) (v : V) : Trn rs n lv nb own M tok v own M tok v :=
  ⟨Nat.le_refl _, fun _ _ => rfl, fun _ _ _ _ _ _ _ => rfl, fun q n e => .inl ⟨n, e⟩, fun _ e => .inl e⟩
theorem Trn.trans {rs : List Nat} {n lv nb : Nat} {own own1 own2 : Own} {M M1 M2 : Mm} {tok tok1 tok2 : Tok} {v v1 v2 : V} (h : Trn rs n lv nb own M tok v own1 M1 tok1 v1) (k : Trn rs n lv nb own1 M1 tok1 v1 own2 M2 tok2 v2) : Trn rs n lv nb own M tok v own2 M2 tok2 v2 where
  nx := Nat.le_trans h.nx k.nx
  ow := fun q hq => (k.ow q (Nat.lt_of_lt_of_le hq h.nx)).trans (h.ow q hq)
  fr := fun q hq h1 h2 h3 h4 h5 => (k.fr q (Nat.lt_of_lt_of_le hq h.nx) h1 (fun n e => (h.vn q n e).elim (fun ⟨n', e'⟩ => h2 n' e') (fun h6 => by omega)) (fun e => (h.tn q e).elim h3 (fun h6 => by omega)) (fun y k e => h4 y k (by rw [← h.ow q hq]; exact e)) h5).trans (h.fr q hq h1 h2 h3 h4 h5)
  vn := fun q n e => (k.vn q n e).elim (fun ⟨n', e'⟩ => h.vn q n' e') (fun h6 => .inr (Nat.le_trans h.nx h6))
  tn := fun q e => (k.tn q e).elim (fun e' => h.tn q e') (fun h6 => .inr (Nat.le_trans h.nx h6))
end Go.Proofs.Ytojjdkoglhecbaa
namespace Go.Proofs.Ytojjdkoglhecbaa
open Go.RowKit
set_option maxRecDepth 100000

abbrev c_hand_lister_get_b_p1 : VC := (.ops 0 [oo 24 .mv [.t 0], oo 25 .mv [.t 1], oo 26 .mv [.t 2], oo 27 (.call 134) [.t 24, .t 25, .t 26], oo 10 .mv [.t 27]])
abbrev c_hand_lister_get_b_p2 : VC := (.ops 0 [oo 75 .mv [.t 10], oo 76 .nilck [.t 75], oo 77 (.fldA 1) [.t 76], oo 78 (.fldA 0) [.t 11], od 79 .ld1 [.t 78] [3], oo 80 (.fldA 0) [.t 14], od 81 .ld1 [.t 80] [5], oo 82 (.bin .add) [.t 79, .t 81], oo 83 (.fldA 0) [.t 12], od 84 .ld1 [.t 83] [8], oo 85 (.bin .sub) [.t 82, .t 84], oo 86 (.fldA 1) [.t 11], od 87 .ld1 [.t 86] [11], oo 88 (.fldA 2) [.t 11], od 89 .ld1 [.t 88] [13], oo 90 (.bin .add) [.t 89, kk 1], oo 91 (.build [li 0, li 0, li 0] [(0, 1), (1, 1), (2, 1)]) [.t 85, .t 87, .t 90], oo 92 (.call 111) [.t 77, .t 91]])
def c_hand_lister_get_b_p3 : VC := (.seq (.ops 0 [oo 74 .mv [.t 15]]) (.cond (.t 74) c_hand_lister_get_b_p2 .skip))
def c_hand_lister_get_b_p4 : VC := (.ops 0 [oo 93 .mv [.t 10], oo 94 .nilck [.t 93], oo 95 (.fldA 3) [.t 94], ⟨none, none, (.st 1), [.t 95, (.c (.lit (.bool false)))], none⟩])
def c_hand_lister_get_b_p5 : VC := (.seq (.seq (.ops 15 [oo 63 .mv [.t 0], oo 64 .mv [.t 1], oo 65 (.bin .add) [.t 64, kk 1], oo 66 (.fldA 1) [.t 11], oo 67 .ld1 [.t 66], oo 68 (.fldA 2) [.t 11], oo 69 .ld1 [.t 68], oo 70 (.bin .add) [.t 69, kk 1], oo 71 (.call 112) [.t 63, .t 65, .t 67, .t 70], oo 62 .mv [.t 71], oo 72 (.ext 0) [.t 62], oo 73 (.ext 1) [.t 62], oo 14 (.alloc 154 [li 0, li 0, li 0]) [], ⟨none, none, (.st 3), [.t 14, .t 72], none⟩, oo 15 .mv [.t 73]]) c_hand_lister_get_b_p3) c_hand_lister_get_b_p4)
def c_hand_lister_get_b_p6 : VC := (.seq (.ops 14 [oo 52 .mv [.t 0], oo 53 .mv [.t 1], oo 54 (.bin .add) [.t 53, kk 1], oo 55 (.fldA 1) [.t 11], oo 56 .ld1 [.t 55], oo 57 (.fldA 2) [.t 11], oo 58 .ld1 [.t 57], oo 59 (.call 112) [.t 52, .t 54, .t 56, .t 58], oo 51 .mv [.t 59], oo 60 (.ext 0) [.t 51], oo 61 (.ext 1) [.t 51], oo 12 (.alloc 154 [li 0, li 0, li 0]) [], ⟨none, none, (.st 3), [.t 12, .t 60], none⟩, oo 13 .mv [.t 61]]) c_hand_lister_get_b_p5)
def c_hand_lister_get_b_p7 : VC := (.seq (.ops 14 [oo 39 .mv [.t 10], oo 40 .nilck [.t 39], oo 41 (.fldA 0) [.t 40], od 42 .ld1 [.t 41] [0, 1, 2], oo 43 .mv [.t 10], oo 44 .nilck [.t 43], oo 45 (.fldA 0) [.t 44], od 46 .ld1 [.t 45] [4, 5, 6], oo 47 .len [.t 46], oo 48 (.bin .sub) [.t 47, kk 1], oo 49 (.ixA 3) [.t 42, .t 48], od 50 (.ldA 3) [.t 49] [0, 1, 2, 3, 4, 5, 6, 7, 8, 9, 10], od 11 (.alloc 154 [li 0, li 0, li 0]) [] [], ⟨none, none, (.st 3), [.t 11, .t 50], none⟩]) c_hand_lister_get_b_p6)
abbrev c_hand_lister_get_b_p8 : VC := (.seq (.ops 0 [oo 105 (.build [li 0, li 0, li 0] []) [], ⟨none, none, (.st 3), [.t 8, .t 105], none⟩, oo 9 .mv [(.c (.lit (.bool false)))]]) .ret)
abbrev c_hand_lister_get_b_p9 : VC := (.ops 0 [oo 116 .mv [.t 10], oo 117 (.fldA 1) [.t 16], oo 118 .ld1 [.t 117], oo 119 (.bin .neq) [.t 118, kk (-1)], oo 120 .nilck [.t 116], oo 121 (.fldA 3) [.t 120], ⟨none, none, (.st 1), [.t 121, .t 119], none⟩])
abbrev c_hand_lister_get_b_p10 : VC := (.seq (.ops 11 [oo 106 .mv [.t 10], oo 107 .mv [.t 10], oo 108 .nilck [.t 107], oo 109 (.fldA 0) [.t 108], od 110 .ld1 [.t 109] [1, 2, 3], od 111 (.ldA 3) [.t 16] [], oo 112 (.mksl 1 3 [li 0, li 0, li 0] [(0, 3)]) [.t 111], oo 113 (.app 154 3 24) [.t 110, .t 112], oo 114 .nilck [.t 106], oo 115 (.fldA 0) [.t 114], ⟨none, none, (.st 1), [.t 115, .t 113], none⟩]) c_hand_lister_get_b_p9)
def c_hand_lister_get_b_p11 : VC := (.seq (.seq (.ops 0 [oo 103 .mv [.t 17], oo 104 (.un .not) [.t 103]]) (.cond (.t 104) c_hand_lister_get_b_p8 .skip)) c_hand_lister_get_b_p10)
def c_hand_lister_get_b_p12 : VC := (.seq (.ops 10 [oo 97 .mv [.t 10], oo 98 .nilck [.t 97], oo 99 (.fldA 1) [.t 98], oo 100 (.call 135) [.t 99], oo 96 .mv [.t 100], oo 101 (.ext 0) [.t 96], oo 102 (.ext 1) [.t 96], oo 16 (.alloc 154 [li 0, li 0, li 0]) [], ⟨none, none, (.st 3), [.t 16, .t 101], none⟩, oo 17 .mv [.t 102]]) c_hand_lister_get_b_p11)
abbrev c_hand_lister_get_b_p13 : VC := (.block 1 (.seq (.seq (.ops 0 [oo 35 .mv [.t 10], oo 36 .nilck [.t 35], oo 37 (.fldA 3) [.t 36], oo 38 .ld1 [.t 37]]) (.cond (.t 38) c_hand_lister_get_b_p7 .skip)) c_hand_lister_get_b_p12))
abbrev c_hand_lister_get_b_p14 : VC := (.seq (.seq (.ops 0 [oo 28 .mv [.t 10], oo 29 .nilck [.t 28], oo 30 (.fldA 0) [.t 29], oo 31 .ld1 [.t 30], oo 32 .len [.t 31], oo 33 .mv [.t 3], oo 34 (.bin .leq) [.t 32, .t 33]]) (.cond (.t 34) .skip (.exit 0))) c_hand_lister_get_b_p13)
@[go_sem] abbrev w_hand_lister_get_b_p14 : Nat := 5316911983139663491615228240853203456
abbrev c_hand_lister_get_b_p16 : VC := (.seq (.ops 0 [oo 122 .mv [.t 10], oo 123 .nilck [.t 122], oo 124 (.fldA 0) [.t 123], oo 125 .ld1 [.t 124], oo 126 .mv [.t 3], oo 127 (.ixA 3) [.t 125, .t 126], oo 128 (.ldA 3) [.t 127], ⟨none, none, (.st 3), [.t 8, .t 128], none⟩, oo 9 .mv [(.c (.lit (.bool true)))]]) .ret)
def c_hand_lister_get_b_p17 : VC := (.seq (.block 0 (.loop c_hand_lister_get_b_p14)) c_hand_lister_get_b_p16)
abbrev c_hand_lister_get_b_p18 : VC := (.seq (.seq (.ops 0 [oo 22 .mv [.t 1], oo 23 (.bin .geq) [.t 22, kk 0]]) (.cond (.t 23) c_hand_lister_get_b_p1 .skip)) c_hand_lister_get_b_p17)
abbrev c_hand_lister_get_b_p19 : VC := (.seq (.ops 0 [oo 18 .mv [.t 0], oo 19 .nilck [.t 18], oo 20 (.fldA 2) [.t 19], oo 21 .ld1 [.t 20], oo 10 .mv [.t 21]]) c_hand_lister_get_b_p18)
def c_hand_lister_get_b : VC := (.seq (.ops 2 [oo 8 (.alloc 154 [li 0, li 0, li 0]) [], oo 9 .mv [(.c (.lit (.bool false)))]]) c_hand_lister_get_b_p19)
theorem k_hand_lister_get_b : Comp Try.prog (fun n => [999998].contains n) gtab 112 129 c_hand_lister_get_b [(.c 8 3 true), .t 9] := ⟨⟨Try.f112, _, Try.func112, rfl, rfl, kr, kr⟩⟩
abbrev c_hand_lister_fingering_b_p1 : VC := (.seq (.ops 0 [⟨(some 18), none, (.build [(.sl 0 [] .exact), li 0] []), [], none⟩, oo 19 .mv [.t 1], oo 20 (.bin .eql) [.t 19, kk 0], ⟨none, none, (.st 2), [.t 4, .t 18], none⟩, oo 5 .mv [.t 20]]) .ret)
abbrev c_hand_lister_fingering_b_p2 : VC := (.seq (.ops 0 [⟨(some 29), none, (.build [(.sl 0 [] .exact), li 0] []), [], none⟩, ⟨none, none, (.st 2), [.t 4, .t 29], none⟩, oo 5 .mv [(.c (.lit (.bool false)))]]) .ret)
abbrev c_hand_lister_fingering_b_p3 : VC := (.ops 0 [oo 70 .mv [.t 0], oo 71 .mv [.t 7], oo 72 (.fldA 1) [.t 6], oo 73 .ld1 [.t 72], oo 74 (.fldA 2) [.t 6], oo 75 .ld1 [.t 74], oo 76 (.call 112) [.t 70, .t 71, .t 73, .t 75], oo 69 .mv [.t 76], oo 77 (.ext 0) [.t 69], oo 78 (.ext 1) [.t 69], ⟨none, none, (.st 3), [.t 6, .t 77], none⟩])
abbrev c_hand_lister_fingering_b_p4 : VC := (.seq (.ops 12 [oo 58 (.fldA 0) [.t 4], od 59 .ld1 [.t 58] [0], oo 60 (.fldA 0) [.t 8], od 61 .ld1 [.t 60] [2], oo 62 (.fldA 1) [.t 8], od 63 .ld1 [.t 62] [4], od 64 (.call 106) [.t 63] [4, 5], ⟨(some 65), none, (.build [li 0, (.sl 0 [] .exact)] [(0, 1), (1, 1)]), [.t 61, .t 64], none⟩, ⟨(some 66), none, (.mksl 1 2 [li 0, (.sl 0 [] .exact)] [(0, 2)]), [.t 65], none⟩, oo 67 (.app 53 2 32) [.t 59, .t 66], oo 68 (.fldA 0) [.t 4], ⟨none, none, (.st 1), [.t 68, .t 67], none⟩]) c_hand_lister_fingering_b_p3)
abbrev c_hand_lister_fingering_b_p5 : VC := (.seq (.ops 16 [oo 44 .mv [.t 0], oo 45 .nilck [.t 44], oo 46 (.fldA 0) [.t 45], od 47 .ld1 [.t 46] [0, 1, 2], oo 48 .nilck [.t 47], oo 49 (.fldA 11) [.t 48], od 50 .ld1 [.t 49] [0, 1, 2, 3, 4, 5], oo 51 .mv [.t 7], oo 52 (.ixA 1) [.t 50, .t 51], od 53 .ld1 [.t 52] [0, 1, 2, 3, 4, 5, 6, 7, 8], oo 54 (.fldA 1) [.t 6], od 55 .ld1 [.t 54] [10], oo 56 (.ixA 2) [.t 53, .t 55], od 57 (.ldA 2) [.t 56] [0, 1, 2, 3, 4, 5, 6, 7, 8, 9, 10, 11, 12], ⟨(some 8), none, (.alloc 53 [li 0, (.sl 0 [] .exact)]), [], (some [])⟩, ⟨none, none, (.st 2), [.t 8, .t 57], none⟩]) c_hand_lister_fingering_b_p4)
abbrev c_hand_lister_fingering_b_p6 : VC := (.ops 0 [oo 79 (.bin .add) [.t 41, kk 1], oo 41 .mv [.t 79]])
abbrev c_hand_lister_fingering_b_p7 : VC := (.seq (.block 1 (.seq (.ops 0 [oo 43 .mv [.t 41], oo 7 .mv [.t 43]]) c_hand_lister_fingering_b_p5)) c_hand_lister_fingering_b_p6)
abbrev c_hand_lister_fingering_b_p8 : VC := (.seq (.cond (.t 42) .skip (.exit 0)) c_hand_lister_fingering_b_p7)
abbrev c_hand_lister_fingering_b_p9 : VC := (.seq (.ops 0 [oo 42 (.bin .lss) [.t 41, .t 40]]) c_hand_lister_fingering_b_p8)
@[go_sem] abbrev w_hand_lister_fingering_b_p9 : Nat := 1208925819612430151451008
abbrev c_hand_lister_fingering_b_p11 : VC := (.seq (.ops 0 [oo 80 (.ldA 2) [.t 4], ⟨none, none, (.st 2), [.t 4, .t 80], none⟩, oo 5 .mv [(.c (.lit (.bool true)))]]) .ret)
abbrev c_hand_lister_fingering_b_p12 : VC := (.seq (.seq (.ops 0 [oo 33 .mv [.t 0], oo 34 .nilck [.t 33], oo 35 (.fldA 0) [.t 34], oo 36 .ld1 [.t 35], oo 37 .nilck [.t 36], oo 38 (.fldA 10) [.t 37], oo 39 .ld1 [.t 38], oo 40 .len [.t 39], oo 41 .mv [kk 0]]) (.block 0 (.loop c_hand_lister_fingering_b_p9))) c_hand_lister_fingering_b_p11)
abbrev c_hand_lister_fingering_b_p13 : VC := (.seq (.ops 0 [oo 30 (.fldA 0) [.t 6], oo 31 .ld1 [.t 30], oo 32 (.fldA 1) [.t 4], ⟨none, none, (.st 1), [.t 32, .t 31], none⟩]) c_hand_lister_fingering_b_p12)
abbrev c_hand_lister_fingering_b_p14 : VC := (.seq (.seq (.ops 0 [oo 27 .mv [.t 5], oo 28 (.un .not) [.t 27]]) (.cond (.t 28) c_hand_lister_fingering_b_p2 .skip)) c_hand_lister_fingering_b_p13)
abbrev c_hand_lister_fingering_b_p15 : VC := (.seq (.ops 9 [oo 22 .mv [.t 0], oo 23 .mv [.t 1], oo 24 (.call 112) [.t 22, kk (-1), kk 0, .t 23], oo 21 .mv [.t 24], oo 25 (.ext 0) [.t 21], oo 26 (.ext 1) [.t 21], oo 6 (.alloc 154 [li 0, li 0, li 0]) [], ⟨none, none, (.st 3), [.t 6, .t 25], none⟩, oo 5 .mv [.t 26]]) c_hand_lister_fingering_b_p14)
abbrev c_hand_lister_fingering_b_p16 : VC := (.seq (.seq (.ops 0 [oo 9 .mv [.t 0], oo 10 .nilck [.t 9], oo 11 (.fldA 0) [.t 10], oo 12 .ld1 [.t 11], oo 13 .nilck [.t 12], oo 14 (.fldA 10) [.t 13], oo 15 .ld1 [.t 14], oo 16 .len [.t 15], oo 17 (.bin .eql) [.t 16, kk 0]]) (.cond (.t 17) c_hand_lister_fingering_b_p1 .skip)) c_hand_lister_fingering_b_p15)
def c_hand_lister_fingering_b : VC := (.seq (.ops 2 [⟨(some 4), none, (.alloc 40 [(.sl 0 [] .exact), li 0]), [], none⟩, oo 5 .mv [(.c (.lit (.bool false)))]]) c_hand_lister_fingering_b_p16)
theorem k_hand_lister_fingering_b : Comp Try.prog (fun n => [999998].contains n) gtab 75 81 c_hand_lister_fingering_b [(.c 4 2 true), .t 5] := ⟨⟨Try.f75, _, Try.func75, rfl, rfl, kr, kr⟩⟩
end Go.Proofs.Ytojjdkoglhecbaa
namespace Go.Proofs.Ytojjdkoglhecbaa
open Go.RowKit

section
variable {h : Hand} {l : List Chord} {Gs : List (List Grip)} {tb nq rt lv nb j : Nat} {rs : List Nat} {own : Own} {o : Option (Nat × Nat)} {T : List Way} {I : Nat → Bool → List Way → Prop} {due : Bool} {H : List Way} {tok : Tok} {v : V} {M : Mm}
/-- More numbers are set aside, new boxes are made: nothing is lost. -/
theorem LsG.up {M' : Mm} (hL : LsG h l Gs tb nq rt rs lv own M) (hn : M.next ≤ M'.next) (hf : ∀ q, q < M.next → M'.obj q = M.obj q) : LsG h l Gs tb nq rt rs lv own M' :=
  hL.keep (Nat.le_refl _) hn (fun _ _ => rfl) (fun q hq => hL.cl q (Nat.le_trans hn hq)) (hf _ hL.ltt) (hf _ hL.ltn) (fun y _ hy => hf _ (hL.ltr y hy)) fun q _ _ hq _ _ => hf q hq
theorem NdS.up {M' : Mm} (hs : NdS T I own o nb M j due H tok v) (hn : M.next ≤ M'.next) (hf : ∀ q, q < M.next → M'.obj q = M.obj q) : NdS T I own o nb M' j due H tok v := hs.keep hn (fun _ _ => rfl) fun q hq _ _ => hf q hq
/-- The rows of nodes are none of a node's numbers. -/
theorem LsG.nrs (hL : LsG h l Gs tb nq rt rs lv own M) (hs : NdS T I own o nb M j due H tok v) {q : Nat} (hq : q = nb ∨ (∃ n, v = .gsl q n 3) ∨ tok = .own q) : ∀ y, lv ≤ y → y < l.length → q ≠ rs.getD y 0 := by
  intro y hy hyl
  obtain ⟨R, r1, _⟩ := hL.row y hy hyl
  rcases hq with rfl | ⟨n, e⟩ | e
  · exact ne_type hs.box r1 (by decide)
  · obtain ⟨_, _, cs, h1⟩ := hs.vlt e
    exact ne_type h1 r1 (by decide)
  · intro e2
    have := (hs.tlt e).2
    rw [e2, r1] at this
    cases this
/-- A call from the next chord on leaves a node as it is. -/
theorem nd_call {res : V} {T' : List Way} {r : Nat} {M' : Mm} (ho : ∀ y k, o = some (y, k) → y < lv) (hL : LsG h l Gs tb nq rt rs lv own M) (hs : NdS T I own o nb M j due H tok v) (hp : GpPost h l Gs tb nq rt rs T' lv r own M res M') :
    ∃ own', LsG h l Gs tb nq rt rs lv own' M' ∧ NdS T I own' o nb M' j due H tok v ∧ Trn rs l.length lv nb own M tok v own' M' tok v ∧ ∀ q cs t, q < M.next → own q = none → M.obj q = some (.box cs t) → t ≠ 150 → M'.obj q = some (.box cs t) := by
  obtain ⟨_, own', h1, h2, h3, h4⟩ := hp
  refine ⟨own', h2, hs.keep h3 h1 fun q hq hqo hqc => h4 q hq (fun y k e => ho y k (by rw [← hqo]; exact e)) (hL.nrs hs hqc), ⟨h3, h1, fun q hq _ _ _ h5 h6 => h4 q hq h5 h6, fun q n e => .inl ⟨n, e⟩, fun _ e => .inl e⟩, fun q cs t hq hqo hb ht => ?_⟩
  refine (h4 q hq (fun y k e => by rw [hqo] at e; cases e) fun y hy hyl => ?_).trans hb
  obtain ⟨R, r1, _⟩ := hL.row y hy hyl
  exact ne_type hb r1 ht
/-- A push to a node's queue. -/
theorem nd_push {w : Way} {r : V} {M' : Mm} (ho : ∀ y k, o = some (y, k) → y < lv) (hL : LsG h l Gs tb nq rt rs lv own M) (hs : NdS T I own o nb M j true H tok v) (hp : PshPost M nb (.sl j (wyC (T.take j)) tok) v (vbool true) H w r M') :
    r = .tup [] ∧ M.next ≤ M'.next ∧ (∀ q, q < M.next → q ≠ nb → (∀ n, v ≠ .gsl q n 3) → M'.obj q = M.obj q) ∧ ∃ id H', M.next ≤ id ∧ id < M'.next ∧ H'.Perm (H ++ [w]) ∧ H'.length = H.length + 1 ∧ HpOk H' ∧ M'.obj id = some (.box (wyC H') 154) ∧ M'.obj nb = some (.box [.sl j (wyC (T.take j)) tok, .gsl id (H.length + 1) 3, .fn 110 [], vbool true] 159) := by
  obtain ⟨p0, p1, id, H', p2, p3, p4, p5, p6, p7, p8, p9⟩ := hp
  exact ⟨p0, p1, p9, id, H', p2, p4, p8, p6, p7, p5, p3⟩
open Classical in
/-- New numbers are the node's own. -/
noncomputable def ownNew (n0 : Nat) (o : Option (Nat × Nat)) (own : Own) (tok' : Tok) (v' : V) : Own := fun q => if n0 ≤ q ∧ ((∃ n, v' = .gsl q n 3) ∨ tok' = .own q) then o else own q
/-- A node whose queue and marks have turned. -/
theorem nd_turn {M' : Mm} {j' : Nat} {due' : Bool} {H' : List Way} {tok' : Tok} {v' : V} (ho : ∀ y k, o = some (y, k) → y < lv) (hL : LsG h l Gs tb nq rt rs lv own M) (hs : NdS T I own o nb M j due H tok v)
    (hn : M.next ≤ M'.next)
    (hf : ∀ q, q < M.next → q ≠ nb → (∀ n, v ≠ .gsl q n 3) → tok ≠ .own q → M'.obj q = M.obj q)
    (hb : M'.obj nb = some (.box [.sl j' (wyC (T.take j')) tok', v', .fn 110 [], vbool due'] 159)) (hq : QV M' v' H') (hp : HpOk H') (hI : I j' due' H') (hap : Apb M' tok' j' 154 3)
    (hv : ∀ q n, v' = .gsl q n 3 → (∃ n', v = .gsl q n' 3) ∨ M.next ≤ q) (ht : ∀ q, tok' = .own q → tok = .own q ∨ M.next ≤ q) :
    LsG h l Gs tb nq rt rs lv (ownNew M.next o own tok' v') M' ∧ NdS T I (ownNew M.next o own tok' v') o nb M' j' due' H' tok' v' ∧ Trn rs l.length lv nb own M tok v (ownNew M.next o own tok' v') M' tok' v' := by
  have hold : ∀ q, q < M.next → ownNew M.next o own tok' v' q = own q := fun q hq => if_neg (fun h => by omega)
  have hvl : ∀ q n, v' = .gsl q n 3 → q < M'.next := fun q n e => by
    rcases hq with ⟨h1, _⟩ | ⟨id, R, h1, h2, _⟩
    · rw [h1] at e; cases e
    · rw [h1] at e; injection e with e; subst e; exact h2
  have htl : ∀ q, tok' = .own q → q < M'.next := fun q e => by
    rcases hap with h1 | ⟨t, h1, h2, _⟩
    · rw [h1] at e; cases e
    · rw [h1] at e; injection e with e; subst e; exact h2
  have hne : ∀ q, own q ≠ o ∨ (q ≠ nb ∧ (∀ n, v ≠ .gsl q n 3) ∧ tok ≠ .own q) → q < M.next → M'.obj q = M.obj q := fun q h hq => by
    rcases h with h | ⟨h1, h2, h3⟩
    · exact hf q hq (fun e => h (by rw [e]; exact hs.ow)) (fun n e => h (hs.qo q n e)) (fun e => h (hs.ao q e))
    · exact hf q hq h1 h2 h3
  have htb : M'.obj tb = M.obj tb := hne tb (.inr ⟨(ne_type hs.box hL.tbo (by decide)).symm, fun n e => by
    obtain ⟨_, _, cs, h1⟩ := hs.vlt e; exact ne_type h1 hL.tbo (by decide) rfl, fun e => by have := (hs.tlt e).2; rw [hL.tbo] at this; cases this⟩) hL.ltt
  have hnq : M'.obj nq = M.obj nq := hne nq (.inr ⟨(ne_type hs.box hL.nqo (by decide)).symm, fun n e => by
    obtain ⟨_, _, cs, h1⟩ := hs.vlt e; exact ne_type h1 hL.nqo (by decide) rfl, fun e => by have := (hs.tlt e).2; rw [hL.nqo] at this; cases this⟩) hL.ltn
  refine ⟨hL.keep (Nat.le_refl _) hn hold (fun q hq => ?_) htb hnq (fun y hy hyl => hne _ (.inr ⟨fun e => hL.nrs hs (.inl e) y hy hyl rfl, fun n e => hL.nrs hs (.inr (.inl ⟨n, e⟩)) y hy hyl rfl, fun e => hL.nrs hs (.inr (.inr e)) y hy hyl rfl⟩) (hL.ltr y hyl)) (fun q y k hq hqo hy => hne q (.inl (fun e => by have := ho y k (e.symm.trans hqo); omega)) hq), ⟨hb, Nat.lt_of_lt_of_le hs.lt hn, (hold nb hs.lt).trans hs.ow, hq, hp, hI, fun q n e => ?_, hap, fun q e => ?_⟩, ⟨hn, hold, fun q hq h1 h2 h3 _ _ => hf q hq h1 h2 h3, hv, ht⟩⟩
  · refine (if_neg (fun h9 => ?_)).trans (hL.cl q (Nat.le_trans hn hq))
    rcases h9.2 with ⟨n, e⟩ | e
    · have := hvl q n e; omega
    · have := htl q e; omega
  · rcases hv q n e with ⟨n', e'⟩ | h9
    · rw [hold q (hs.vlt e').1]; exact hs.qo q n' e'
    · exact if_pos ⟨h9, .inl ⟨n, e⟩⟩
  · rcases ht q e with e' | h9
    · rw [hold q (hs.tlt e').1]; exact hs.ao q e'
    · exact if_pos ⟨h9, .inr e⟩
/-- A box of the call's own is written. -/
theorem LsG.put {own0 : Own} {M0 : Mm} (hL0 : LsG h l Gs tb nq rt rs lv own0 M0) (hL : LsG h l Gs tb nq rt rs lv own M) {b : Nat} (hb : M0.next ≤ b) (hbo : own b = none) (a : AObj) : LsG h l Gs tb nq rt rs lv own (M.put b a) :=
  hL.keep (Nat.le_refl _) (Nat.le_refl _) (fun _ _ => rfl) hL.cl (put_other _ _ (by have := hL0.ltt; omega)) (put_other _ _ (by have := hL0.ltn; omega)) (fun y _ hy => put_other _ _ (by have := hL0.ltr y hy; omega)) fun q y k _ hq _ => put_other _ _ (fun e => by subst e; rw [hbo] at hq; cases hq)
theorem NdS.put {own0 : Own} {M0 : Mm} {j0 : Nat} {due0 : Bool} {H0 : List Way} (hs0 : NdS T I own0 o nb M0 j0 due0 H0 tok v) (hs : NdS T I own o nb M j due H tok v) {b : Nat} (hb : M0.next ≤ b) (a : AObj) : NdS T I own o nb (M.put b a) j due H tok v :=
  hs.keep (Nat.le_refl _) (fun _ _ => rfl) fun q _ _ hq => put_other _ _ (by
    rcases hq with rfl | ⟨n, e⟩ | e
    · have := hs0.lt; omega
    · have := (hs0.vlt e).1; omega
    · have := (hs0.tlt e).1; omega)
theorem Trn.put {own' : Own} {M' : Mm} {tok' : Tok} {v' : V} {n : Nat} (ht : Trn rs n lv nb own M tok v own' M' tok' v') {b : Nat} (hb : M.next ≤ b) (a : AObj) : Trn rs n lv nb own M tok v own' (M'.put b a) tok' v' :=
  ⟨ht.nx, ht.ow, fun q hq h1 h2 h3 h4 h5 => (put_other _ _ (by omega)).trans (ht.fr q hq h1 h2 h3 h4 h5), ht.vn, ht.tn⟩
end
end Go.Proofs.Ytojjdkoglhecbaa
namespace Go.Proofs.Ytojjdkoglhecbaa
open Go.RowKit

/-- What stands behind it. -/
def GdEnd (h : Hand) (l : List Chord) (Gs : List (List Grip)) (tb nq rt : Nat) (rs : List Nat) (lv : Nat) (T : List Way) (I : Nat → Bool → List Way → Prop) (o : Option (Nat × Nat)) (nb j : Nat) (own : Own) (tok : Tok) (v : V) (M M' : Mm) : Prop :=
  ∃ own' H' v', LsG h l Gs tb nq rt rs lv own' M' ∧ NdS T I own' o nb M' j false H' tok v' ∧ Trn rs l.length lv nb own M tok v own' M' tok v'

set_option maxHeartbeats 4000000 in
theorem get_due {h : Hand} {l : List Chord} {Gs : List (List Grip)} {tb nq rt lv nb j cnt : Nat} {rs : List Nat} {own : Own} {o : Option (Nat × Nat)} {T : List Way} {sub : Nat → List Way} {I : Nat → Bool → List Way → Prop} {H : List Way} {tok : Tok} {v : V} {M : Mm} {t : Nat → V} {iz : Int}
    (hI : LsI T sub cnt I) (hIp : ∀ j due W W', I j due W → W'.Perm W → I j due W') (ho : ∀ y k, o = some (y, k) → y < lv) (GS : GetOk h l Gs tb nq rt rs lv cnt sub) (hL : LsG h l Gs tb nq rt rs lv own M) (hs : NdS T I own o nb M j true H tok v) (hj : j ≤ 100) (hr : ∀ m, m < cnt → (sub m).length ≤ 1000000 ∨ True)
    (s0 : t 0 = .ptr tb 0) (s1 : t 1 = vint iz) (hz : iz + 1 = (lv : Int)) (hlv : lv ≤ 1000) (s10 : t 10 = .ptr nb 0) :
    (c_hand_lister_get_b_p7).vx Try.prog Gd (fun e s' => e = .nrm ∧ GdEnd h l Gs tb nq rt rs lv T I o nb j own tok v M s'.m) ⟨t, M⟩ := by
  obtain ⟨m, r, hj0, hrj, hm, hr0, hT, hyes, hno⟩ := hI.due j H hs.st
  have hbox := hs.box
  have hlt := hs.lt
  have hjT := (hI.le j true H hs.st).1
  have hHl := (hI.le j true H hs.st).2
  have hTj : (T.take j).getD (j - 1) noW = T.getD (j - 1) noW := by rw [List.getD_eq_getElem?_getD, List.getElem?_take, if_pos (by omega), List.getD_eq_getElem?_getD]
  have hTl : (T.take j).length = j := by rw [List.length_take]; omega
  have g1 := wyC_at (L := T.take j) (i := j - 1) (by omega)
  rw [hTj, hT] at g1
  dsimp only at g1
  have g2 := wyC_len (T.take j)
  rw [hTl] at g2
  have hnT := hI.num _ (mem_nthW (j := j - 1) (by omega))
  have hnS := hI.snum m hm _ (mem_nthW hr0)
  have w1 : IntKind.i64.wrap ((j : Int) - 1) = ((j - 1 : Nat) : Int) := by rw [w_in (by omega)]; omega
  have c1 : ((j - 1 : Nat) : Int) < (j : Int) := by omega
  have c2 : (j - 1) * 3 + 3 ≤ j * 3 := by omega
  have wz : IntKind.i64.wrap (iz + 1) = (lv : Int) := by rw [hz, w_in (by omega)]
  generalize hx : (T.getD (j - 1) noW).1 = x at *
  unfold c_hand_lister_get_b_p7
  have hL0 := Hid.mk hL
  have hs0 := Hid.mk hs
  replace hyes := Hid.mk hyes
  replace hno := Hid.mk hno
  replace hT := Hid.mk hT
  replace hz := Hid.mk hz
  clear hL hs hr hTj hTl
  repeat' (with_reducible first | refine x_ops ?_ | refine wk ?_ | ((first | refine gd1 ?_ ?_ | refine gd2 ?_ ?_ | refine gd3 ?_ ?_) <;> (first | exact @False.elim _ | intro hc)))
  refine x_genM (fun t' M1 => (t' 0 = .ptr tb 0 ∧ t' 1 = vint iz ∧ t' 10 = .ptr nb 0) ∧ M.next ≤ M1.next ∧ (∀ q, q < M.next → M1.obj q = M.obj q) ∧ ∃ wb, t' 11 = .ptr wb 0 ∧ M.next ≤ wb ∧ wb < M1.next ∧ M1.obj wb = some (.box [vint x, vint (m : Int), vint (r : Int)] 154))
    ⟨⟨vw, vw, vw⟩, by show M.next ≤ M.next + 14; omega, fun q hq => (put_other _ _ (by omega)).trans (put_other _ _ (by omega)), M.next + 12, vv, by omega, by show M.next + 12 < M.next + 14; omega, put_same _ _ _⟩ ?_
  clear s0 s1 s10 g1 g2 w1 c1 c2 hbox
  rintro t1 M1 ⟨⟨s0, s1, s10⟩, hn1, hf1, wb, s11, hwb0, hwb1, owb⟩
  have hL1 := hL0.out.up hn1 hf1
  have hs1 := hs0.out.up hn1 hf1
  have howb : own wb = none := hL0.out.cl wb hwb0
  have hT1 : Trn rs l.length lv nb own M tok v own M1 tok v := ⟨hn1, fun _ _ => rfl, fun q hq _ _ _ _ _ => hf1 q hq, fun q n e => .inl ⟨n, e⟩, fun _ e => .inl e⟩
  have hL1c := hL1.up (M' := ⟨M1.obj, M1.next + 14⟩) (Nat.le_add_right _ _) fun _ _ => rfl
  have hs1c := hs1.up (M' := ⟨M1.obj, M1.next + 14⟩) (Nat.le_add_right _ _) fun _ _ => rfl
  have G1 := GS m r own ⟨M1.obj, M1.next + 14⟩ hm (by omega) hL1c
  have G1e := gpPost_ex (tb := tb) (nq := nq) (rt := rt) (sub m) r hL1c
  unfold c_hand_lister_get_b_p6
  replace hL1 := Hid.mk hL1
  replace hs1 := Hid.mk hs1
  replace hL1c := Hid.mk hL1c
  replace hs1c := Hid.mk hs1c
  replace hT1 := Hid.mk hT1
  replace hf1 := Hid.mk hf1
  have owb0 := Hid.mk owb
  repeat' (with_reducible first | refine x_ops ?_ | refine wk ?_ | ((first | refine gd1 ?_ ?_ | refine gd2 ?_ ?_ | refine gd3 ?_ ?_) <;> (first | exact @False.elim _ | intro hc)))
  refine x_scallR [.ptr tb 0, vint (lv : Int), vint (m : Int), vint (r : Int)] vw G1 G1e ?_
  rintro res M2 hp2
  have hres := hp2.1
  obtain ⟨own2, hL2, hs2, hT2, hfr2⟩ := nd_call ho hL1c.out hs1c.out hp2
  rw [GtR, if_pos hr0] at hres
  subst hres
  have owb2 := hfr2 wb _ _ (by show wb < M1.next + 14; omega) howb owb0.out (by decide)
  have hn2 : M1.next + 14 ≤ M2.next := hT2.nx
  have howb2 : own2 wb = none := (hT2.ow wb (by show wb < M1.next + 14; omega)).trans howb
  have hoxb2 : own2 (M1.next + 11) = none := (hT2.ow _ (by show M1.next + 11 < M1.next + 14; omega)).trans (hL0.out.cl _ (by omega))
  have hTa : Trn rs l.length lv nb own M tok v own2 M2 tok v := (⟨Nat.le_trans hT1.out.nx (Nat.le_add_right _ 14), hT1.out.ow, hT1.out.fr, hT1.out.vn, hT1.out.tn⟩ : Trn rs l.length lv nb own M tok v own ⟨M1.obj, M1.next + 14⟩ tok v).trans hT2
  generalize hwr : (sub m).getD r noW = wr at *
  obtain ⟨cr, mr, rr⟩ := wr
  dsimp only at hnS
  replace hT1 := Hid.mk hT1.out
  replace hTa := Hid.mk hTa
  replace hL2 := Hid.mk hL2
  replace hs2 := Hid.mk hs2
  replace hwr := Hid.mk hwr
  clear G1 G1e hp2 hfr2 hT2 owb
  have hxbm : M1.next + 11 < M2.next := by omega
  have hxbw : ¬ M1.next + 11 = wb := by omega
  repeat' (with_reducible first | refine x_ops ?_ | refine wk ?_ | ((first | refine gd1 ?_ ?_ | refine gd2 ?_ ?_ | refine gd3 ?_ ?_) <;> (first | exact @False.elim _ | intro hc)))
  refine x_genM (fun t' M3 => (t' 0 = .ptr tb 0 ∧ t' 1 = vint iz ∧ t' 10 = .ptr nb 0 ∧ t' 11 = .ptr wb 0) ∧ LsG h l Gs tb nq rt rs lv own2 M3 ∧ NdS T I own2 o nb M3 j true H tok v ∧ Trn rs l.length lv nb own M tok v own2 M3 tok v ∧ wb < M3.next ∧ M3.obj wb = some (.box [vint x, vint (m : Int), vint (r : Int)] 154) ∧
      ∃ xb, t' 12 = .ptr xb 0 ∧ M.next ≤ xb ∧ xb < M3.next ∧ own2 xb = none ∧ M3.obj xb = some (.box [vint cr, vint mr, vint rr] 154))
    ⟨⟨vw, vw, vw, vw⟩, hL0.out.put (hL0.out.put hL2.out (by omega) hoxb2 _) (by omega) hoxb2 _, hs0.out.put (hs0.out.put hs2.out (by omega) _) (by omega) _, (hTa.out.put (by omega) _).put (by omega) _, by show wb < M2.next; omega, (put_other _ _ (by omega)).trans ((put_other _ _ (by omega)).trans owb2), M1.next + 11, vv, by omega, hxbm, hoxb2, put_same _ _ _⟩ ?_
  clear s0 s1 s10 s11 owb0 owb2 hL1 hs1 hL1c hs1c hT1 hf1 hTa hL2 hs2 hxbm hxbw hoxb2 hn2
  rintro t3 M3 ⟨⟨s0, s1, s10, s11⟩, hL3, hs3, hT3, hwb3, owb3, xb, s12, hxb0, hxb3, hoxb, oxb3⟩
  have hn3 := hT3.nx
  have hL3c := hL3.up (M' := ⟨M3.obj, M3.next + 15⟩) (Nat.le_add_right _ _) fun _ _ => rfl
  have hs3c := hs3.up (M' := ⟨M3.obj, M3.next + 15⟩) (Nat.le_add_right _ _) fun _ _ => rfl
  have G2 := GS m (r + 1) own2 ⟨M3.obj, M3.next + 15⟩ hm (by omega) hL3c
  have G2e := gpPost_ex (tb := tb) (nq := nq) (rt := rt) (sub m) (r + 1) hL3c
  have wr1 := w_add1 (k := r) (by omega)
  unfold c_hand_lister_get_b_p5
  replace hL3 := Hid.mk hL3
  replace hs3 := Hid.mk hs3
  replace hL3c := Hid.mk hL3c
  replace hs3c := Hid.mk hs3c
  replace hT3 := Hid.mk hT3
  have owb30 := Hid.mk owb3
  have oxb30 := Hid.mk oxb3
  repeat' (with_reducible first | refine x_ops ?_ | refine wk ?_ | ((first | refine gd1 ?_ ?_ | refine gd2 ?_ ?_ | refine gd3 ?_ ?_) <;> (first | exact @False.elim _ | intro hc)))
  refine x_scallR [.ptr tb 0, vint (lv : Int), vint (m : Int), vint ((r + 1 : Nat) : Int)] vw G2 G2e ?_
  rintro res M4 hp4
  have hres := hp4.1
  obtain ⟨own4, hL4, hs4, hT4, hfr4⟩ := nd_call ho hL3c.out hs3c.out hp4
  have owb4 := hfr4 wb _ _ (by show wb < M3.next + 15; omega) howb2 owb30.out (by decide)
  have oxb4 := hfr4 xb _ _ (by show xb < M3.next + 15; omega) hoxb oxb30.out (by decide)
  have hn4 : M3.next + 15 ≤ M4.next := hT4.nx
  have hoyb4 : own4 (M3.next + 12) = none := (hT4.ow _ (by show M3.next + 12 < M3.next + 15; omega)).trans (hL3.out.cl _ (by omega))
  have hTb : Trn rs l.length lv nb own M tok v own4 M4 tok v := (⟨Nat.le_trans hT3.out.nx (Nat.le_add_right _ 15), hT3.out.ow, hT3.out.fr, hT3.out.vn, hT3.out.tn⟩ : Trn rs l.length lv nb own M tok v own2 ⟨M3.obj, M3.next + 15⟩ tok v).trans hT4
  have hybm : M3.next + 12 < M4.next := by omega
  have hnyw : ¬ M3.next + 12 = wb := by omega
  have hnyx : ¬ M3.next + 12 = xb := by omega
  have hnyn : ¬ M3.next + 12 = nb := by omega
  have hnwn : ¬ wb = nb := by omega
  replace hTb := Hid.mk hTb
  replace hL4 := Hid.mk hL4
  replace hs4 := Hid.mk hs4
  clear G2 G2e hfr4 hT4 owb3 oxb3 hp4
  obtain ⟨b, cn, mn, rn, hb, rfl, hbn⟩ : ∃ (b : Bool) (cn mn rn : Int), (b = decide (r + 1 < (sub m).length)) ∧ res = .tup [.agg [vint cn, vint mn, vint rn], vbool b] ∧ (r + 1 < (sub m).length → cn = ((sub m).getD (r + 1) noW).1) := by
    rw [hres, GtR]
    by_cases hr1 : r + 1 < (sub m).length
    · rw [if_pos hr1]; exact ⟨true, _, _, _, by simp [hr1], rfl, fun _ => rfl⟩
    · rw [if_neg hr1]; exact ⟨false, 0, 0, 0, by simp [hr1], rfl, fun h => absurd h hr1⟩
  replace hbn := Hid.mk hbn
  replace hb := Hid.mk hb
  clear hres
  repeat' (with_reducible first | refine x_ops ?_ | refine wk ?_ | ((first | refine gd1 ?_ ?_ | refine gd2 ?_ ?_ | refine gd3 ?_ ?_) <;> (first | exact @False.elim _ | intro hc)))
  refine x_genM (fun t' M5 => (t' 10 = .ptr nb 0 ∧ t' 11 = .ptr wb 0 ∧ t' 12 = .ptr xb 0 ∧ t' 15 = vbool b) ∧ LsG h l Gs tb nq rt rs lv own4 M5 ∧ NdS T I own4 o nb M5 j true H tok v ∧ Trn rs l.length lv nb own M tok v own4 M5 tok v ∧ (wb < M5.next ∧ M5.obj wb = some (.box [vint x, vint (m : Int), vint (r : Int)] 154)) ∧ (xb < M5.next ∧ M5.obj xb = some (.box [vint cr, vint mr, vint rr] 154)) ∧
      ∃ yb, t' 14 = .ptr yb 0 ∧ yb < M5.next ∧ M5.obj yb = some (.box [vint cn, vint mn, vint rn] 154))
    ⟨⟨vw, vw, vw, vv⟩, hL0.out.put (hL0.out.put hL4.out (by omega) hoyb4 _) (by omega) hoyb4 _, hs0.out.put (hs0.out.put hs4.out (by omega) _) (by omega) _, (hTb.out.put (by omega) _).put (by omega) _, ⟨by show wb < M4.next; omega, (put_other _ _ (by omega)).trans ((put_other _ _ (by omega)).trans owb4)⟩, ⟨by show xb < M4.next; omega, (put_other _ _ (by omega)).trans ((put_other _ _ (by omega)).trans oxb4)⟩, M3.next + 12, vv, hybm, put_same _ _ _⟩ ?_
  clear s0 s1 s10 s11 s12 owb30 oxb30 owb4 oxb4 hL3 hs3 hL3c hs3c hT3 hL4 hs4 hTb hoyb4 hybm hnyw hnyx hnyn hnwn hn4 hn3 hwb3 hxb3
  rintro t5 M5 ⟨⟨s10, s11, s12, s15⟩, hL5, hs5, hT5, ⟨hwb5, owb⟩, ⟨hxb5, oxb⟩, yb, s14, hyb5, oyb⟩
  have hlt5 := hs5.lt
  have onb5 := hs5.box
  have hQ5 := hs5.q
  have hH5 := hs5.hp
  have hrow : ∀ (M' : Mm), M5.next ≤ M'.next → (∀ q, q < M5.next → q ≠ nb → (∀ n, v ≠ .gsl q n 3) → M'.obj q = M5.obj q) → Apb M' tok j 154 3 := fun M' h1 h2 => hs5.ap.mono (fun q hq ho => h2 q hq (fun e => by subst e; rw [onb5] at ho; cases ho) (fun n e => by obtain ⟨_, _, cs, h9⟩ := hs5.vlt e; rw [h9] at ho; cases ho)) h1
  have hL50 := Hid.mk hL5
  have hs50 := Hid.mk hs5
  have hT50 := Hid.mk hT5
  replace hrow := Hid.mk hrow
  have onb50 := Hid.mk onb5
  unfold c_hand_lister_get_b_p3
  clear hL5 hs5 hT5
  cases b
  case false =>
    have hr1 : ¬ r + 1 < (sub m).length := by have := hb.out; simpa using this
    have hI2 := hno.out hr1
    replace hQ5 := Hid.mk hQ5
    replace hI2 := Hid.mk hI2
    clear hr1 hbn
    repeat' (with_reducible first | refine x_ops ?_ | refine wk ?_ | ((first | refine gd1 ?_ ?_ | refine gd2 ?_ ?_ | refine gd3 ?_ ?_) <;> (first | exact @False.elim _ | intro hc)))
    unfold c_hand_lister_get_b_p4
    repeat' (with_reducible first | refine x_ops ?_ | refine wk ?_ | ((first | refine gd1 ?_ ?_ | refine gd2 ?_ ?_ | refine gd3 ?_ ?_) <;> (first | exact @False.elim _ | intro hc)))
    have h9 := nd_turn ho hL50.out hs50.out (M' := M5.put nb (.box [.sl j (wyC (T.take j)) tok, v, .fn 110 [], vbool false] 159)) (j' := j) (due' := false) (H' := H) (tok' := tok) (v' := v) (Nat.le_refl _) (fun q _ hq _ _ => put_other _ _ hq) (put_same _ _ _)
      (hQ5.out.mono (Nat.le_refl _) fun q n e => put_other _ _ (by obtain ⟨_, _, cs, h9⟩ := hs50.out.vlt e; exact ne_type h9 onb50.out (by decide))) hs50.out.hp hI2.out (hrow.out _ (Nat.le_refl _) fun q _ hq _ => put_other _ _ hq) (fun q n e => .inl ⟨n, e⟩) (fun q e => .inl e)
    exact ⟨_, H, v, h9.1, h9.2.1, hT50.out.trans h9.2.2⟩
  have hr1 : r + 1 < (sub m).length := by have := hb.out; simpa using this
  have hcn := hbn.out hr1
  have hI2 := hyes.out hr1
  rw [← hcn] at hI2
  have hnC := hI.snum m hm _ (mem_nthW hr1)
  rw [← hcn] at hnC
  have w5 : IntKind.i64.wrap (x + cn) = x + cn := w_in (by omega)
  have w6 : IntKind.i64.wrap (x + cn - cr) = x + cn - cr := w_in (by omega)
  have PS := push_psh (w := (x + cn - cr, (m : Int), ((r + 1 : Nat) : Int))) onb5 hlt5 hQ5 hH5 (by omega)
  have PE := PshPost.some (fv := .sl j (wyC (T.take j)) tok) (v := v) (dv := vbool true) (H := H) (x + cn - cr, (m : Int), ((r + 1 : Nat) : Int)) hlt5 hH5
  dsimp only at PS hI2
  replace hI2 := Hid.mk hI2
  replace hcn := Hid.mk hcn
  clear hr1 hbn hnC
  repeat' (with_reducible first | refine x_ops ?_ | refine wk ?_ | ((first | refine gd1 ?_ ?_ | refine gd2 ?_ ?_ | refine gd3 ?_ ?_) <;> (first | exact @False.elim _ | intro hc)))
  refine x_scallR [.ptr nb 1, .agg [vint (x + cn - cr), vint (m : Int), vint ((r + 1 : Nat) : Int)]] vw PS PE ?_
  rintro r6 M6 hP
  obtain ⟨rfl, p1, p2, id, H', p3, p4, p5, p6, p7, p8, p9⟩ := nd_push ho hL50.out hs50.out hP
  have hnb6 : nb < M6.next := by omega
  have hid : id ≠ nb := by omega
  replace p2 := Hid.mk p2
  replace p8 := Hid.mk p8
  clear PS PE hP owb oxb oyb onb5
  repeat' (with_reducible first | refine x_ops ?_ | refine wk ?_ | ((first | refine gd1 ?_ ?_ | refine gd2 ?_ ?_ | refine gd3 ?_ ?_) <;> (first | exact @False.elim _ | intro hc)))
  unfold c_hand_lister_get_b_p4
  repeat' (with_reducible first | refine x_ops ?_ | refine wk ?_ | ((first | refine gd1 ?_ ?_ | refine gd2 ?_ ?_ | refine gd3 ?_ ?_) <;> (first | exact @False.elim _ | intro hc)))
  have h9 := nd_turn ho hL50.out hs50.out (M' := M6.put nb (.box [.sl j (wyC (T.take j)) tok, .gsl id (H.length + 1) 3, .fn 110 [], vbool false] 159)) (j' := j) (due' := false) (H' := H') (tok' := tok) (v' := .gsl id (H.length + 1) 3) p1 (fun q hq h1 h2 _ => (put_other _ _ h1).trans (p2.out q hq h1 h2)) (put_same _ _ _)
    (.inr ⟨id, [], by rw [p6], p4, by rw [List.append_nil]; exact (put_other _ _ hid).trans p8.out⟩) p7 (hIp _ _ _ _ hI2.out p5) (hrow.out _ p1 fun q hq h1 h2 => (put_other _ _ h1).trans (p2.out q hq h1 h2)) (fun q n e => by injection e with e; subst e; exact .inr p3) (fun q e => .inl e)
  exact ⟨_, H', .gsl id (H.length + 1) 3, h9.1, h9.2.1, hT50.out.trans h9.2.2⟩
end Go.Proofs.Ytojjdkoglhecbaa
namespace Go.Proofs.Ytojjdkoglhecbaa
open Go.RowKit

/-- What stands behind it. -/
def GpEnd (h : Hand) (l : List Chord) (Gs : List (List Grip)) (tb nq rt : Nat) (rs : List Nat) (lv : Nat) (T : List Way) (I : Nat → Bool → List Way → Prop) (o : Option (Nat × Nat)) (nb rb j : Nat) (own : Own) (tok : Tok) (v : V) (M : Mm) (e : VX) (s' : St) : Prop :=
  (e = .nrm ∧ j < T.length ∧ ∃ own' due' H' tok' v', LsG h l Gs tb nq rt rs lv own' s'.m ∧ NdS T I own' o nb s'.m (j + 1) due' H' tok' v' ∧ Trn rs l.length lv nb own M tok v own' s'.m tok' v') ∨
  (e = .ret ∧ j = T.length ∧ s'.t 8 = .ptr rb 0 ∧ s'.t 9 = vbool false ∧ ∃ Mx, s'.m = Mx.put rb (.box [vint 0, vint 0, vint 0] 154) ∧ LsG h l Gs tb nq rt rs lv own Mx ∧ Trn rs l.length lv nb own M tok v own Mx tok v ∧ ∃ H, NdS T I own o nb Mx j false H tok v)

set_option maxHeartbeats 4000000 in
theorem get_popG {h : Hand} {l : List Chord} {Gs : List (List Grip)} {tb nq rt lv nb rb j cnt : Nat} {rs : List Nat} {own : Own} {o : Option (Nat × Nat)} {T : List Way} {sub : Nat → List Way} {I : Nat → Bool → List Way → Prop} {H : List Way} {tok : Tok} {v : V} {M : Mm} {t : Nat → V} {y0 y1 y2 : V}
    (hI : LsI T sub cnt I) (ho : ∀ y k, o = some (y, k) → y < lv) (hL : LsG h l Gs tb nq rt rs lv own M) (hs : NdS T I own o nb M j false H tok v) (hj : j ≤ 100)
    (s8 : t 8 = .ptr rb 0) (orb : M.obj rb = some (.box [y0, y1, y2] 154)) (lrb : rb < M.next) (nrb : ∀ n, v ≠ .gsl rb n 3) (s10 : t 10 = .ptr nb 0) :
    (c_hand_lister_get_b_p12).vx Try.prog Gd (GpEnd h l Gs tb nq rt rs lv T I o nb rb j own tok v M) ⟨t, M⟩ := by
  have hbox := hs.box
  have hlt := hs.lt
  have hQ := hs.q
  have hH := hs.hp
  have hle := hI.le j false H hs.st
  have hrn : rb ≠ nb := fun e => by subst e; exact ne_type orb hbox (by decide) rfl
  unfold c_hand_lister_get_b_p12
  have hL0 := Hid.mk hL
  have hs0 := Hid.mk hs
  have hbox0 := Hid.mk hbox
  by_cases hHe : H = []
  · subst hHe
    have hjT := hI.fin j hs.st
    have PN := pop_none (M := ⟨M.obj, M.next + 10⟩) (nb := nb) hbox (by show nb < M.next + 10; omega) (hQ.mono (by show M.next ≤ M.next + 10; omega) (fun _ _ _ => rfl))
    have x2 : ¬ rb = M.next + 7 := by omega
    replace hjT := Hid.mk hjT
    replace hQ := Hid.mk hQ
    clear hL hs
    repeat' (with_reducible first | refine x_ops ?_ | refine wk ?_ | ((first | refine gd1 ?_ ?_ | refine gd2 ?_ ?_ | refine gd3 ?_ ?_) <;> (first | exact @False.elim _ | intro hc)))
    refine x_scallR [.ptr nb 1] vw PN ⟨_, ⟨M.obj, M.next + 10⟩, rfl, Nat.le_refl _, fun _ _ => rfl⟩ ?_
    rintro r m2 ⟨rfl, p1, p2⟩
    have p1' : M.next + 10 ≤ m2.next := p1
    have q1 := (p2 rb (by show rb < M.next + 10; omega)).trans orb
    have p2' : ∀ q, q < M.next → m2.obj q = M.obj q := fun q hq => p2 q (by show q < M.next + 10; omega)
    have hrb2 : rb < m2.next := by omega
    replace p2' := Hid.mk p2'
    clear p2 PN p1 orb hbox
    repeat' (with_reducible first | refine x_ops ?_ | refine wk ?_ | ((first | refine gd1 ?_ ?_ | refine gd2 ?_ ?_ | refine gd3 ?_ ?_) <;> (first | exact @False.elim _ | intro hc)))
    unfold c_hand_lister_get_b_p11
    repeat' (with_reducible first | refine x_ops ?_ | refine wk ?_ | ((first | refine gd1 ?_ ?_ | refine gd2 ?_ ?_ | refine gd3 ?_ ?_) <;> (first | exact @False.elim _ | intro hc)))
    have hLu := hL0.out.up (M' := m2) (by omega) p2'.out
    have hbo := hL0.out.cl (M.next + 7) (by omega)
    have hTu : Trn rs l.length lv nb own M tok v own m2 tok v := ⟨by omega, fun _ _ => rfl, fun q hq _ _ _ _ _ => p2'.out q hq, fun q n e => .inl ⟨n, e⟩, fun _ e => .inl e⟩
    exact .inr ⟨rfl, hjT.out, vw, vv, _, rfl, hL0.out.put (hL0.out.put hLu (by omega) hbo _) (by omega) hbo _, (hTu.put (by omega) _).put (by omega) _, [], hs0.out.put (hs0.out.put (hs0.out.up (by omega) p2'.out) (by omega) _) (by omega) _⟩
  have h0 : 0 < H.length := List.length_pos_iff.2 hHe
  obtain ⟨id, R, rfl, hid, ho2⟩ : ∃ id R, v = .gsl id H.length 3 ∧ id < M.next ∧ M.obj id = some (.box (wyC (H ++ R)) 154) := by
    rcases hQ with ⟨_, h1⟩ | h1
    · exact absurd h1 hHe
    · exact h1
  have PP := pop_sfn (M := ⟨M.obj, M.next + 10⟩) (nb := nb) (id := id) (dv := vbool false) (H := H) (R := R) hbox (by show nb < M.next + 10; omega) (by show id < M.next + 10; omega) ho2 h0 hH (by omega)
  have hni := ne_type hbox ho2 (by decide)
  have PE : ∃ (r : V) (M' : Mm), r = V.tup [.agg [vint (H.getD 0 noW).1, vint (H.getD 0 noW).2.1, vint (H.getD 0 noW).2.2], vbool true] ∧ (⟨M.obj, M.next + 10⟩ : Mm).next ≤ M'.next ∧ ∃ H' R', M'.obj nb = some (.box [.sl j (wyC (T.take j)) tok, .gsl id (H.length - 1) 3, .fn 110 [], vbool false] 159) ∧
      M'.obj id = some (.box (wyC (H' ++ R')) 154) ∧ H'.length = H.length - 1 ∧ HpOk H' ∧ (H.getD 0 noW :: H').Perm H ∧ ∀ q, q < (⟨M.obj, M.next + 10⟩ : Mm).next → q ≠ nb → q ≠ id → M'.obj q = (⟨M.obj, M.next + 10⟩ : Mm).obj q := by
    obtain ⟨L, h1, h2⟩ := heap_ex (hdW H)
    exact ⟨_, ((⟨M.obj, M.next + 10⟩ : Mm).put id (.box (wyC (L ++ [])) 154)).put nb (.box [.sl j (wyC (T.take j)) tok, .gsl id (H.length - 1) 3, .fn 110 [], vbool false] 159), rfl, Nat.le_refl _, L, [], put_same _ _ _, (put_other _ _ (fun e => hni e.symm)).trans (put_same _ _ _),
      h2.length_eq.trans (hdW_len H), h1, (List.Perm.cons _ h2).trans (hdW_perm h0), fun q hq hqn hqi => (put_other _ _ hqn).trans (put_other _ _ hqi)⟩
  have hmin := heap_min hH (.refl H) hHe
  have hpop := fun W' hp => hI.pop j H W' (H.getD 0 noW) hs.st hmin.1 hmin.2 hp
  have hrow := hs.ap
  have hlo := hs.ao
  generalize H.getD 0 noW = w at *
  obtain ⟨wc, wn, wr⟩ := w
  dsimp only at *
  have hri : rb ≠ id := fun e => nrb H.length (by rw [e])
  replace hpop := Hid.mk hpop
  replace hmin := Hid.mk hmin
  replace hrow := Hid.mk hrow
  replace hlo := Hid.mk hlo
  have ho20 := Hid.mk ho2
  clear hL hs hQ
  repeat' (with_reducible first | refine x_ops ?_ | refine wk ?_ | ((first | refine gd1 ?_ ?_ | refine gd2 ?_ ?_ | refine gd3 ?_ ?_) <;> (first | exact @False.elim _ | intro hc)))
  refine x_scallR [.ptr nb 1] vw PP PE ?_
  rintro r m2 ⟨rfl, p1, H', R', p3, p4, p5, p6, p7, p8⟩
  have p1' : M.next + 10 ≤ m2.next := p1
  obtain ⟨hjl, hTj, hst⟩ := hpop.out H' p7
  have hnb2 : nb < m2.next := by omega
  have x7 : ¬ M.next + 7 = nb := by omega
  have x8 : M.next + 7 < m2.next := by omega
  have fr : ∀ q, q < M.next → q ≠ nb → q ≠ id → m2.obj q = M.obj q := fun q hq h1 h2 => p8 q (by show q < M.next + 10; omega) h1 h2
  replace fr := Hid.mk fr
  replace p4 := Hid.mk p4
  replace p7 := Hid.mk p7
  replace hst := Hid.mk hst
  replace hTj := Hid.mk hTj
  clear p8 PP PE hbox ho2 orb
  have p3' := Hid.mk p3
  clear p3
  repeat' (with_reducible first | refine x_ops ?_ | refine wk ?_ | ((first | refine gd1 ?_ ?_ | refine gd2 ?_ ?_ | refine gd3 ?_ ?_) <;> (first | exact @False.elim _ | intro hc)))
  refine x_genM (fun t' M3 => (t' 10 = .ptr nb 0 ∧ t' 17 = vbool true) ∧ M.next ≤ M3.next ∧ M3.obj nb = some (.box [.sl j (wyC (T.take j)) tok, .gsl id (H.length - 1) 3, .fn 110 [], vbool false] 159) ∧ M3.obj id = some (.box (wyC (H' ++ R')) 154) ∧ (∀ q, q < M.next → q ≠ nb → q ≠ id → M3.obj q = M.obj q) ∧
      ∃ sb, t' 16 = .ptr sb 0 ∧ M.next ≤ sb ∧ sb < M3.next ∧ M3.obj sb = some (.box [vint wc, vint wn, vint wr] 154))
    ⟨⟨vw, vv⟩, by show M.next ≤ m2.next; omega, (put_other _ _ (by omega)).trans ((put_other _ _ (by omega)).trans p3'.out), (put_other _ _ (by omega)).trans ((put_other _ _ (by omega)).trans p4.out), fun q hq h1 h2 => (put_other _ _ (by omega)).trans ((put_other _ _ (by omega)).trans (fr.out q hq h1 h2)), M.next + 7, vv, by omega, x8, put_same _ _ _⟩ ?_
  clear s8 s10 p3' p4 fr x7 x8 hnb2 p1 p1'
  rintro t3 M3 ⟨⟨s10, s17⟩, hn3, onb, oid, fr, sb, s16, hsb0, hsb3, osb⟩
  have hnb3 : nb < M3.next := by omega
  have hid3 : id < M3.next := by omega
  have hnbt : tok ≠ .own nb := apbT_box hrow.out hbox0.out
  have hidt : tok ≠ .own id := apbT_box hrow.out ho20.out
  have hsbt : tok ≠ .own sb := fun e => by have := (hs0.out.tlt e).1; omega
  have hrow3 : Apb M3 tok j 154 3 := hrow.out.mono (fun q hq ho => fr q hq (fun e => by subst e; rw [hbox0.out] at ho; cases ho) (fun e => by subst e; rw [ho20.out] at ho; cases ho)) hn3
  have hwl : (wyC (T.take j)).length = j * 3 := by rw [wyC_len, List.length_take, Nat.min_eq_left hle.1]
  have hwt : wyC (T.take (j + 1)) = wyC (T.take j) ++ [vint wc, vint wn, vint wr] := by
    have e1 : (T)[j]? = some (wc, wn, wr) := by
      have := hTj.out
      rw [List.getD_eq_getElem?_getD, List.getElem?_eq_getElem hjl] at this
      rw [List.getElem?_eq_getElem hjl]; exact congrArg some this
    rw [List.take_add_one, e1, wyC_app]; rfl
  replace hwt := Hid.mk hwt
  replace hrow3 := Hid.mk hrow3
  replace fr := Hid.mk fr
  have onb0 := Hid.mk onb
  have oid0 := Hid.mk oid
  have osb0 := Hid.mk osb
  unfold c_hand_lister_get_b_p11
  repeat' (with_reducible first | refine x_ops ?_ | refine wk ?_ | ((first | refine gd1 ?_ ?_ | refine gd2 ?_ ?_ | refine gd3 ?_ ?_) <;> (first | exact @False.elim _ | intro hc)))
  refine x_appg (xs := wyC (T.take j)) (ys := [vint wc, vint wn, vint wr]) (k := tok) vw vw (hrow3.out.mono (fun _ _ _ => rfl) (Nat.le_add_right _ _)) hwl rfl (by omega) (by unfold Go.maxLen; omega) (by show M3.next + 7 < M3.next + 11; omega) ?_
  intro tok2 M4 hap4 htk4 hn4 hf4
  have hn4' : M4.next = M3.next + 11 := hn4
  have onb4 := (hf4 nb (by show ¬ nb = M3.next + 7; omega) hnbt).trans onb0.out
  have oid4 := (hf4 id (by show ¬ id = M3.next + 7; omega) hidt).trans oid0.out
  have osb4 := (hf4 sb (by show ¬ sb = M3.next + 7; omega) hsbt).trans osb0.out
  have fr4 : ∀ q, q < M.next → q ≠ nb → q ≠ id → tok ≠ .own q → M4.obj q = M.obj q := fun q hq h1 h2 h3 => (hf4 q (by show ¬ q = M3.next + 7; omega) h3).trans (fr.out q hq h1 h2)
  have htk5 : ∀ q, tok2 = .own q → tok = .own q ∨ M.next ≤ q := fun q e => (htk4 q e).imp (fun h => h) fun h => by have h9 : q = M3.next + 7 := h; omega
  have hnb4 : nb < M4.next := by omega
  have hsb4 : sb < M4.next := by omega
  have hsn : ¬ sb = nb := by omega
  replace fr4 := Hid.mk fr4
  replace htk5 := Hid.mk htk5
  replace hap4 := Hid.mk hap4
  have onb40 := Hid.mk onb4
  replace oid4 := Hid.mk oid4
  clear hf4 htk4 hn4 onb oid osb
  repeat' (with_reducible first | refine x_ops ?_ | refine wk ?_ | ((first | refine gd1 ?_ ?_ | refine gd2 ?_ ?_ | refine gd3 ?_ ?_) <;> (first | exact @False.elim _ | intro hc)))
  have e5 : ∀ q, q ≠ nb → ((⟨(M4.put nb (.box [.sl (j + 1) (wyC (T.take j) ++ [vint wc, vint wn, vint wr]) tok2, .gsl id (H.length - 1) 3, .fn 110 [], vbool false] 159)).obj, M3.next + 11⟩ : Mm).put nb (.box [.sl (j + 1) (wyC (T.take (j + 1))) tok2, .gsl id (H.length - 1) 3, .fn 110 [], vbool (!(wn == -1))] 159)).obj q = M4.obj q := fun q hq => (put_other _ _ hq).trans (put_other _ _ hq)
  have h9 := nd_turn ho hL0.out hs0.out (M' := ((⟨(M4.put nb (.box [.sl (j + 1) (wyC (T.take j) ++ [vint wc, vint wn, vint wr]) tok2, .gsl id (H.length - 1) 3, .fn 110 [], vbool false] 159)).obj, M3.next + 11⟩ : Mm).put nb (.box [.sl (j + 1) (wyC (T.take (j + 1))) tok2, .gsl id (H.length - 1) 3, .fn 110 [], vbool (!(wn == -1))] 159)))
    (j' := j + 1) (due' := !(wn == -1)) (H' := H') (tok' := tok2) (v' := .gsl id (H.length - 1) 3) (by show M.next ≤ M3.next + 11; omega) (fun q hq h1 h2 h3 => (e5 q h1).trans (fr4.out q hq h1 (fun e => h2 H.length (by rw [e])) h3)) (put_same _ _ _)
    (.inr ⟨id, R', by rw [p5], by show id < M3.next + 11; omega, (e5 id (fun e => hni e.symm)).trans oid4.out⟩) p6 hst.out (hap4.out.mono (fun q hq ho => e5 q (fun e => by subst e; rw [onb40.out] at ho; cases ho)) (by rw [hn4']; exact Nat.le_refl _)) (fun q n e => by injection e with e; subst e; exact .inl ⟨_, rfl⟩) htk5.out
  rw [hwt.out] at h9
  exact .inl ⟨rfl, hjl, _, !(wn == -1), H', tok2, .gsl id (H.length - 1) 3, h9⟩
end Go.Proofs.Ytojjdkoglhecbaa
