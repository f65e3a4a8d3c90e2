/- What is tuned there and back, on lists. Nothing is proved of the program here. -/
import Derived.Test.YtbdhjpdjbogggaaDoorX12
import Derived.Test.YtbdhjpdjbogggaaDoorPl5
namespace Go.Proofs.YtbdhjpdjbogggaaDoor
open Go.RowKit
set_option linter.unusedSimpArgs false
set_option linter.unusedVariables false

def tuneO (cs : List Crs) (ss : List Int) (co b : Int) : List Crs × List Int × Int :=
  if chk cs ss = 0 then
    if co < 1 ∨ (cs.length : Int) < co then ([], [], 12)
    else if b < -127 ∨ 127 < b then ([], [], 1)
    else if chk (tuned cs (co.toNat - 1) b) ss = 0 then (tuned cs (co.toNat - 1) b, ss, 0)
    else ([], [], chk (tuned cs (co.toNat - 1) b) ss)
  else ([], [], chk cs ss)
theorem tuneV_O (cs : List Crs) (ss : List Int) (co b : Int) : tuneV cs ss co b = capV (tuneO cs ss co b) := by
  unfold tuneV tuneO
  split
  · split
    · rfl
    · split
      · rfl
      · unfold tunV
        split <;> rfl
  · rfl
theorem tuneO_zero {cs c : List Crs} {ss s : List Int} {co b : Int} (h : tuneO cs ss co b = (c, s, 0)) :
    chk cs ss = 0 ∧ 1 ≤ co ∧ co ≤ cs.length ∧ -127 ≤ b ∧ b ≤ 127 ∧ c = tuned cs (co.toNat - 1) b ∧ s = ss ∧ chk c ss = 0 := by
  unfold tuneO at h
  split at h
  · rename_i h0
    split at h
    · simp at h
    · split at h
      · simp at h
      · split at h
        · rename_i h3
          simp at h
          obtain ⟨rfl, rfl⟩ := h
          exact ⟨h0, by omega, by omega, by omega, by omega, rfl, rfl, h3⟩
        · rename_i h3
          simp at h
          exact absurd h.2.2 h3
  · rename_i h0
    simp at h
    exact absurd h.2.2 h0
theorem tuned_length (cs : List Crs) (k : Nat) (b : Int) : (tuned cs k b).length = cs.length := by unfold tuned; rw [List.length_set]
theorem tuneO_length (cs : List Crs) (ss : List Int) (co b : Int) : (tuneO cs ss co b).1.length ≤ cs.length ∧ (tuneO cs ss co b).2.1.length ≤ ss.length := by
  unfold tuneO
  split
  · split
    · simp
    · split
      · simp
      · split
        · simp [tuned_length]
        · simp
  · simp
theorem set_getD (l : List Crs) (k i : Nat) (x : Crs) (h : k < l.length) : (l.set k x).getD i default = if i = k then x else l.getD i default := by
  rw [List.getD_eq_getElem?_getD, List.getElem?_set]
  by_cases h1 : k = i
  · subst h1; rw [if_pos rfl, if_pos h, if_pos rfl]; rfl
  · rw [if_neg h1, if_neg (Ne.symm h1), List.getD_eq_getElem?_getD]
theorem tuned_at {cs : List Crs} {k : Nat} {b : Int} (h : k < cs.length) (i : Nat) : (tuned cs k b).getD i default = if i = k then ⟨IntKind.i64.wrap ((cs.getD k default).p + b), (cs.getD k default).f, (cs.getD k default).o⟩ else cs.getD i default := set_getD _ _ _ _ h
section
variable {cs : List Crs} {ss : List Int} {co b : Int}
theorem pitch_at (h0 : chk cs ss = 0) {k : Nat} (hk : k < cs.length) : 0 ≤ (cs.getD k default).p ∧ (cs.getD k default).p ≤ 127 := by
  obtain ⟨_, _, _, h⟩ := chk_zero h0
  have hm : cs.getD k default ∈ cs := by
    rw [List.getD_eq_getElem?_getD, List.getElem?_eq_getElem hk]; exact List.getElem_mem hk
  have := crsE_zero (h _ hm)
  exact ⟨this.2.2.1, this.2.2.2.1⟩
theorem tuned_back (h0 : chk cs ss = 0) (h1 : 1 ≤ co) (h2 : co ≤ cs.length) (hb : -127 ≤ b ∧ b ≤ 127) (hc : chk (tuned cs (co.toNat - 1) b) ss = 0) : tuneO (tuned cs (co.toNat - 1) b) ss co (-b) = (cs, ss, 0) := by
  have hk : co.toNat - 1 < cs.length := by omega
  have hp := pitch_at h0 hk
  have hw : ∀ x : Int, -1000 ≤ x ∧ x ≤ 1000 → IntKind.i64.wrap x = x := fun x hx => wrapS hx
  have e : tuned (tuned cs (co.toNat - 1) b) (co.toNat - 1) (-b) = cs := by
    have h3 := tuned_at (cs := cs) (b := b) hk (co.toNat - 1)
    rw [if_pos rfl] at h3
    rw [tuned, h3]
    dsimp only
    rw [hw ((cs.getD (co.toNat - 1) default).p + b) (by omega), hw _ (by omega), show (cs.getD (co.toNat - 1) default).p + b + -b = (cs.getD (co.toNat - 1) default).p by omega]
    rw [tuned, List.set_set]
    apply List.ext_getElem
    · rw [List.length_set]
    · intro i h4 h5
      rw [List.getElem_set]
      split
      · rename_i h6
        subst h6
        rw [List.getD_eq_getElem?_getD, List.getElem?_eq_getElem hk]; rfl
      · rfl
  unfold tuneO
  rw [if_pos hc, if_neg (by rw [tuned_length]; omega), if_neg (by omega), e, if_pos h0]
theorem tuned_atE (h0 : chk cs ss = 0) (h1 : 1 ≤ co) (h2 : co ≤ cs.length) (hc : chk (tuned cs (co.toNat - 1) b) ss = 0) {c f : Int} (h3 : 1 ≤ c) (h4 : c ≤ cs.length) : atE (tuned cs (co.toNat - 1) b) ss c f = atE cs ss c f := by
  rw [atE_is hc h3 (by rw [tuned_length]; exact h4), atE_is h0 h3 h4, tuned_at (by omega)]
  by_cases h : c.toNat - 1 = co.toNat - 1
  · rw [if_pos h, h]
  · rw [if_neg h]
theorem tuned_atV (h0 : chk cs ss = 0) (h1 : 1 ≤ co) (h2 : co ≤ cs.length) (hb : -127 ≤ b ∧ b ≤ 127) (hc : chk (tuned cs (co.toNat - 1) b) ss = 0) {c f : Int} (h3 : 1 ≤ c) (h4 : c ≤ cs.length) (he : atE cs ss c f = 0) :
    atV (tuned cs (co.toNat - 1) b) ss c f = (if c = co then IntKind.i64.wrap (atV cs ss c f + b) else atV cs ss c f) := by
  have hE := tuned_atE (b := b) h0 h1 h2 hc (f := f) h3 h4
  unfold atV
  rw [hE, if_pos he, if_pos he, tuned_at (by omega)]
  by_cases h : c = co
  · subst h
    rw [if_pos rfl, if_pos rfl]
    dsimp only
    have hk : c.toNat - 1 < cs.length := by omega
    have hp := pitch_at h0 hk
    have hp2 := pitch_at hc (k := c.toNat - 1) (by rw [tuned_length]; exact hk)
    obtain ⟨_, _, hs, _⟩ := chk_zero h0
    have hw : ∀ x : Int, -1000 ≤ x ∧ x ≤ 1000 → IntKind.i64.wrap x = x := fun x hx => wrapS hx
    rw [hw ((cs.getD (c.toNat - 1) default).p + b) (by omega)]
    rw [atE_is h0 h3 h4] at he
    have hf : ¬ (f < 0 ∨ (cs.getD (c.toNat - 1) default).f < f) := fun hh => by rw [if_pos hh] at he; cases he
    obtain ⟨_, _, _, hall⟩ := chk_zero h0
    have hm : cs.getD (c.toNat - 1) default ∈ cs := by
      rw [List.getD_eq_getElem?_getD, List.getElem?_eq_getElem hk]; exact List.getElem_mem hk
    have hz := crsE_zero (hall _ hm)
    have hbd : 0 ≤ (if 0 < f then ss.getD (f.toNat - 1) 0 else 0) ∧ (if 0 < f then ss.getD (f.toNat - 1) 0 else 0) ≤ 127 := by
      split
      · have hn := steps_nth hs (f.toNat - 1) (by omega)
        omega
      · omega
    unfold stopOf
    generalize (if 0 < f then ss.getD (f.toNat - 1) 0 else 0) = st at hbd ⊢
    rw [hw _ (by omega)]
    omega
  · rw [if_neg h, if_neg (by omega)]
/-- All courses are tuned one after another. -/
theorem tune_step {k : Nat} (hk : k < cs.length) {l : List Crs} {s : List Int} (h : tuneO (mapT (upBy b) cs k) ss ((k : Int) + 1) b = (l, s, 0)) : l = mapT (upBy b) cs (k + 1) ∧ s = ss ∧ -127 ≤ b ∧ b ≤ 127 ∧ chk l ss = 0 := by
  obtain ⟨_, _, _, h4, h5, h6, h7, h8⟩ := tuneO_zero h
  refine ⟨?_, h7, h4, h5, h8⟩
  rw [h6, show ((k : Int) + 1).toNat - 1 = k by omega]
  have := mapT_succ (g := upBy b) hk
  rw [← this, tuned, mapT_at hk]
  rfl
end
end Go.Proofs.YtbdhjpdjbogggaaDoor
