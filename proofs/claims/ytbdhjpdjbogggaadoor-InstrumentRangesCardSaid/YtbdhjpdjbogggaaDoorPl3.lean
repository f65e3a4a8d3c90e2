/- Plain: the places of a pitch (the law Finds). -/
import Derived.Test.YtbdhjpdjbogggaaDoorW16
namespace Go.Proofs.YtbdhjpdjbogggaaDoor
open Go.RowKit

theorem steps_up : ∀ (l : Int) (ss : List Int), stepsOk l ss = true → (∀ k : Nat, k < ss.length → l < ss.getD k 0) ∧ (∀ i j : Nat, i < j → j < ss.length → ss.getD i 0 < ss.getD j 0)
  | _, [], _ => ⟨fun k hk => by simp at hk, fun i j _ hj => by simp at hj⟩
  | l, x :: r, h => by
    simp only [stepsOk, Bool.and_eq_true, decide_eq_true_eq] at h
    obtain ⟨h1, h2⟩ := steps_up x r h.2
    refine ⟨fun k hk => ?_, fun i j hij hj => ?_⟩
    · cases k with
      | zero => simp; omega
      | succ k =>
        have := h1 k (by simpa using hk)
        simp only [List.getD_cons_succ]; omega
    · cases j with
      | zero => omega
      | succ j =>
        have hj' : j < r.length := by simpa using hj
        cases i with
        | zero =>
          have := h1 j hj'
          simp only [List.getD_cons_succ, List.getD_cons_zero]; exact this
        | succ i =>
          have := h2 i j (by omega) hj'
          simp only [List.getD_cons_succ]; exact this
theorem stop_up {ss : List Int} (h : stepsOk 0 ss = true) (p : Int) {i j : Nat} (hij : i < j) (hj : j ≤ ss.length) : stopOf ss p i < stopOf ss p j := by
  obtain ⟨h1, h2⟩ := steps_up 0 ss h
  have e : ((j : Int)).toNat - 1 = j - 1 := by omega
  rw [stopOf, stopOf, if_pos (by omega : (0 : Int) < (j : Int)), e]
  by_cases hi : i = 0
  · subst hi
    have := h1 (j - 1) (by omega)
    rw [if_neg (by omega)]
    omega
  · have e2 : ((i : Int)).toNat - 1 = i - 1 := by omega
    have := h2 (i - 1) (j - 1) (by omega) (by omega)
    rw [if_pos (by omega), e2]
    omega
theorem plOne_cases {ss : List Int} (h : stepsOk 0 ss = true) (r : Int) (k : Nat) (c : Crs) : ∀ m : Nat, m ≤ ss.length + 1 →
    plOne ss r k c m = [] ∧ (∀ f : Nat, f < m → stopOf ss c.p (f : Int) ≠ r) ∨ ∃ f : Nat, f < m ∧ plOne ss r k c m = [(k + 1, f)] ∧ stopOf ss c.p (f : Int) = r
  | 0, _ => .inl ⟨rfl, fun f hf => by omega⟩
  | m + 1, hm => by
    by_cases hs : stopOf ss c.p (m : Int) = r
    · rw [plOne_yes hs]
      rcases plOne_cases h r k c m (by omega) with ⟨h1, _⟩ | ⟨f, hf, _, h2⟩
      · exact .inr ⟨m, by omega, by rw [h1]; rfl, hs⟩
      · have := stop_up h c.p hf (by omega)
        omega
    · rw [plOne_no hs]
      rcases plOne_cases h r k c m (by omega) with ⟨h1, h2⟩ | ⟨f, hf, h1, h2⟩
      · refine .inl ⟨h1, fun f hf => ?_⟩
        by_cases e : f = m
        · rw [e]; exact hs
        · exact h2 f (by omega)
      · exact .inr ⟨f, by omega, h1, h2⟩
theorem plTo_spec {cs : List Crs} {ss : List Int} (h : stepsOk 0 ss = true) (hc : ∀ k : Nat, k < cs.length → 0 ≤ (cs.getD k default).f ∧ (cs.getD k default).f ≤ (ss.length : Int)) (r : Int) : ∀ k : Nat, k ≤ cs.length →
    (plTo cs ss r k).Pairwise (fun a b => a.1 < b.1) ∧ ∀ x ∈ plTo cs ss r k, 1 ≤ x.1 ∧ x.1 ≤ k ∧ (x.2 : Int) ≤ (cs.getD (x.1 - 1) default).f ∧ stopOf ss (cs.getD (x.1 - 1) default).p (x.2 : Int) = r
  | 0, _ => by simp [plTo]
  | k + 1, hk => by
    obtain ⟨h1, h2⟩ := plTo_spec h hc r k (by omega)
    have hck := hc k (by omega)
    rw [plTo_succ]
    rcases plOne_cases h r k (cs.getD k default) ((cs.getD k default).f.toNat + 1) (by omega) with ⟨e, _⟩ | ⟨f, hf, e, hs⟩
    · rw [e, List.append_nil]
      exact ⟨h1, fun x hx => by obtain ⟨a, b, c, d⟩ := h2 x hx; exact ⟨a, by omega, c, d⟩⟩
    · rw [e]
      refine ⟨?_, fun x hx => ?_⟩
      · rw [List.pairwise_append]
        refine ⟨h1, by simp, fun a ha b hb => ?_⟩
        have := (h2 a ha).2.1
        simp at hb
        rw [hb]; show a.1 < k + 1; omega
      · rcases List.mem_append.1 hx with hx | hx
        · obtain ⟨a, b, c, d⟩ := h2 x hx; exact ⟨a, by omega, c, d⟩
        · simp at hx
          rw [hx]
          exact ⟨by simp, by simp, by show (f : Int) ≤ (cs.getD (k + 1 - 1) default).f; rw [Nat.add_sub_cancel]; omega, by show stopOf ss (cs.getD (k + 1 - 1) default).p (f : Int) = r; rw [Nat.add_sub_cancel]; exact hs⟩
theorem plTo_mem {cs : List Crs} {ss : List Int} {r : Int} {k j f : Nat} (hj : j < k) (hf : (f : Int) ≤ (cs.getD j default).f) (hs : stopOf ss (cs.getD j default).p (f : Int) = r) : (j + 1, f) ∈ plTo cs ss r k := by
  unfold plTo plOne
  rw [List.mem_flatMap]
  refine ⟨j, by simpa using hj, ?_⟩
  rw [List.mem_map]
  refine ⟨f, ?_, rfl⟩
  rw [List.mem_filter]
  refine ⟨by rw [List.mem_range]; omega, by simpa using hs⟩

/-- What Finds looks for. -/
theorem finds_spec {cs : List Crs} {ss : List Int} {co f : Int} (he : atE cs ss co f = 0) : ∃ c0 f0 : Nat, co = c0 ∧ f = f0 ∧ plE cs ss (atV cs ss co f) = 0 ∧ (c0, f0) ∈ plV cs ss (atV cs ss co f) ∧
    (plV cs ss (atV cs ss co f)).Pairwise (fun a b => a.1 < b.1) ∧ ∀ x ∈ plV cs ss (atV cs ss co f), atE cs ss x.1 x.2 = 0 ∧ atV cs ss x.1 x.2 = atV cs ss co f := by
  have he' := he
  rw [atE] at he
  by_cases hz : chk cs ss = 0
  · rw [if_neg (by rw [hz]; decide)] at he
    by_cases h1 : co < 1 ∨ (cs.length : Int) < co
    · rw [if_pos h1] at he; cases he
    · rw [if_neg h1] at he
      by_cases h2 : f < 0 ∨ (cs.getD (co.toNat - 1) default).f < f
      · rw [if_pos h2] at he; cases he
      · obtain ⟨z1, z2, z3, z4⟩ := chk_zero hz
        have hfit : ∀ k : Nat, k < cs.length → crsE ss (cs.getD k default) = 0 := fun k hk => by
          rw [List.getD_eq_getElem?_getD, List.getElem?_eq_getElem hk]
          exact z4 _ (List.getElem_mem hk)
        have hc := fun k hk => let g := crsE_fit (hfit k hk); (⟨g.1, g.2.1⟩ : 0 ≤ (cs.getD k default).f ∧ (cs.getD k default).f ≤ (ss.length : Int))
        obtain ⟨j, rfl⟩ : ∃ j : Nat, co = (j : Int) + 1 := ⟨co.toNat - 1, by omega⟩
        obtain ⟨f0, rfl⟩ : ∃ f0 : Nat, f = f0 := ⟨f.toNat, by omega⟩
        have ej : ((j : Int) + 1).toNat - 1 = j := by omega
        rw [ej] at h2
        have hj : j < cs.length := by omega
        have hv : atV cs ss ((j : Int) + 1) (f0 : Int) = stopOf ss (cs.getD j default).p (f0 : Int) := by rw [atV, if_pos he', ej]
        obtain ⟨q1, q2, q3, q4, q5⟩ := crsE_fit (hfit j hj)
        have hb : 0 ≤ stopOf ss (cs.getD j default).p (f0 : Int) ∧ stopOf ss (cs.getD j default).p (f0 : Int) ≤ 127 := by
          have hlo : (cs.getD j default).p ≤ stopOf ss (cs.getD j default).p (f0 : Int) := by
            by_cases h0 : f0 = 0
            · subst h0; simp [stopOf]
            · have := stop_up z3 (cs.getD j default).p (i := 0) (j := f0) (by omega) (by omega)
              have e0 : stopOf ss (cs.getD j default).p ((0 : Nat) : Int) = (cs.getD j default).p := by simp [stopOf]
              omega
          have hhi : stopOf ss (cs.getD j default).p (f0 : Int) ≤ stopOf ss (cs.getD j default).p (cs.getD j default).f := by
            obtain ⟨g, hg⟩ : ∃ g : Nat, (cs.getD j default).f = g := ⟨(cs.getD j default).f.toNat, by omega⟩
            rw [hg]
            by_cases h0 : f0 = g
            · rw [h0]; exact Int.le_refl _
            · have := stop_up z3 (cs.getD j default).p (i := f0) (j := g) (by omega) (by omega)
              omega
          have hm : stopOf ss (cs.getD j default).p (cs.getD j default).f ≤ hiOf ss (cs.getD j default).p (cs.getD j default).f (cs.getD j default).o := by
            have e : ((cs.getD j default).f - 1).toNat = (cs.getD j default).f.toNat - 1 := by omega
            rw [stopOf, hiOf, e]
            split <;> split <;> omega
          omega
        have hpe : plE cs ss (atV cs ss ((j : Int) + 1) (f0 : Int)) = 0 := by rw [hv, plE, if_neg (by rw [hz]; decide), if_neg (by omega)]
        have hpv : plV cs ss (atV cs ss ((j : Int) + 1) (f0 : Int)) = plTo cs ss (atV cs ss ((j : Int) + 1) (f0 : Int)) cs.length := by rw [plV, if_pos hpe]
        obtain ⟨s1, s2⟩ := plTo_spec z3 hc (atV cs ss ((j : Int) + 1) (f0 : Int)) cs.length (Nat.le_refl _)
        refine ⟨j + 1, f0, by simp, rfl, hpe, ?_, by rw [hpv]; exact s1, fun x hx => ?_⟩
        · rw [hpv]
          exact plTo_mem hj (by omega) hv.symm
        · rw [hpv] at hx
          obtain ⟨a, b, c, d⟩ := s2 x hx
          have ex : ((x.1 : Int)).toNat - 1 = x.1 - 1 := by omega
          have hE : atE cs ss x.1 x.2 = 0 := by rw [atE, if_neg (by rw [hz]; decide), if_neg (by omega), if_neg (by rw [ex]; omega)]
          exact ⟨hE, by rw [atV, if_pos hE, ex, d]⟩
  · rw [if_pos hz] at he; exact absurd he hz
end Go.Proofs.YtbdhjpdjbogggaaDoor
