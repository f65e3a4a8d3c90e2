/- Two capos are one, on lists. Nothing is proved of the program here. -/
import Derived.Test.YtbdhjpdjbogggaaDoorX4
import Derived.Test.YtbdhjpdjbogggaaDoorW12
namespace Go.Proofs.YtbdhjpdjbogggaaDoor
open Go.RowKit

theorem wrapS {x : Int} (h : -1000 ≤ x ∧ x ≤ 1000) : IntKind.i64.wrap x = x := IntWalk.i64_in _ (by omega)
theorem steps_nth : ∀ {ss : List Int} {l : Int}, stepsOk l ss = true → ∀ i, i < ss.length → l < ss.getD i 0 ∧ ss.getD i 0 ≤ 127
  | [], _, _, i, hi => by simp at hi
  | x :: r, l, h, i, hi => by
    simp only [stepsOk, Bool.and_eq_true, decide_eq_true_eq] at h
    cases i with
    | zero => exact ⟨h.1.1, h.1.2⟩
    | succ i =>
      have := steps_nth h.2 i (by simpa using hi)
      rw [List.getD_cons_succ]
      omega
theorem steps_lt : ∀ {ss : List Int} {l : Int}, stepsOk l ss = true → ∀ i j, i < j → j < ss.length → ss.getD i 0 < ss.getD j 0
  | [], _, _, i, j, _, hj => by simp at hj
  | x :: r, l, h, i, j, hij, hj => by
    simp only [stepsOk, Bool.and_eq_true, decide_eq_true_eq] at h
    cases j with
    | zero => omega
    | succ j =>
      rw [List.getD_cons_succ]
      have hj' : j < r.length := by simpa using hj
      cases i with
      | zero => exact (steps_nth h.2 j hj').1
      | succ i => rw [List.getD_cons_succ]; exact steps_lt h.2 i j (by omega) hj'
theorem steps_of : ∀ {ss : List Int} {l : Int}, (∀ i, i < ss.length → ss.getD i 0 ≤ 127 ∧ l < ss.getD i 0) → (∀ i j, i < j → j < ss.length → ss.getD i 0 < ss.getD j 0) → stepsOk l ss = true
  | [], _, _, _ => rfl
  | x :: r, l, h, h2 => by
    simp only [stepsOk, Bool.and_eq_true, decide_eq_true_eq]
    have h0 := h 0 (by simp)
    rw [List.getD_cons_zero] at h0
    refine ⟨⟨h0.2, h0.1⟩, steps_of (fun i hi => ?_) fun i j hij hj => ?_⟩
    · have a := h (i + 1) (by simpa using hi)
      have b := h2 0 (i + 1) (by omega) (by simpa using hi)
      rw [List.getD_cons_succ] at a b
      rw [List.getD_cons_zero] at b
      exact ⟨a.1, b⟩
    · have b := h2 (i + 1) (j + 1) (by omega) (by simpa using hj)
      rw [List.getD_cons_succ, List.getD_cons_succ] at b
      exact b
theorem crsAll_of {ss : List Int} : ∀ {cs : List Crs}, (∀ c ∈ cs, crsE ss c = 0) → crsAll ss cs = 0
  | [], _ => rfl
  | c :: r, h => by
    rw [crsAll_ok (h c (List.mem_cons_self ..))]
    exact crsAll_of fun d hd => h d (List.mem_cons_of_mem _ hd)
theorem chk_of {cs : List Crs} {ss : List Int} (h1 : cs.length ≤ 14) (h2 : ss.length ≤ 18) (h3 : cs ≠ []) (h4 : stepsOk 0 ss = true) (h5 : ∀ c ∈ cs, crsE ss c = 0) : chk cs ss = 0 := by
  rw [chk, if_neg (by omega), if_neg h3, if_pos h4]
  exact crsAll_of h5
theorem chk_ne {cs : List Crs} {ss : List Int} (h : chk cs ss = 0) : cs ≠ [] := by
  rintro rfl
  unfold chk at h
  split at h
  · cases h
  · cases h
theorem crsE_zero {ss : List Int} {c : Crs} (h : crsE ss c = 0) : 0 ≤ c.f ∧ c.f ≤ ss.length ∧ 0 ≤ c.p ∧ c.p ≤ 127 ∧ hiOf ss c.p c.f c.o ≤ 127 := by
  unfold crsE at h
  split at h
  · cases h
  · split at h
    · cases h
    · omega
theorem ext_getD {l l' : List Int} (hl : l.length = l'.length) (h : ∀ i, i < l.length → l.getD i 0 = l'.getD i 0) : l = l' :=
  List.ext_getElem hl fun i h1 h2 => by
    have := h i h1
    rw [List.getD_eq_getElem?_getD, List.getD_eq_getElem?_getD, List.getElem?_eq_getElem h1, List.getElem?_eq_getElem h2] at this
    exact this
section
variable {cs : List Crs} {ss : List Int} {K J : Nat}
theorem capS_get {b : Int} (h4 : stepsOk 0 ss = true) (hb : 0 ≤ b ∧ b ≤ 127) {i : Nat} (hi : K + i < ss.length) : (capS b ss K).getD i 0 = ss.getD (K + i) 0 - b := by
  have h := steps_nth h4 (K + i) hi
  rw [List.getD_eq_getElem?_getD, capS, List.getElem?_map, List.getElem?_drop]
  rw [List.getD_eq_getElem?_getD, List.getElem?_eq_getElem hi, Option.getD_some] at h
  rw [List.getElem?_eq_getElem hi, Option.map_some, Option.getD_some, List.getD_eq_getElem?_getD, List.getElem?_eq_getElem hi, Option.getD_some]
  exact wrapS (by omega)
theorem capS_steps (h4 : stepsOk 0 ss = true) (h0 : 0 < K) (hK : K ≤ ss.length) : stepsOk 0 (capS (ss.getD (K - 1) 0) ss K) = true := by
  have hb := steps_nth h4 (K - 1) (by omega)
  refine steps_of (fun i hi => ?_) fun i j hij hj => ?_
  · rw [capS_length] at hi
    rw [capS_get h4 (by omega) (by omega)]
    have h1 := steps_nth h4 (K + i) (by omega)
    have h2 := steps_lt h4 (K - 1) (K + i) (by omega) (by omega)
    omega
  · rw [capS_length] at hj
    rw [capS_get h4 (by omega) (by omega), capS_get h4 (by omega) (by omega)]
    have h2 := steps_lt h4 (K + i) (K + j) (by omega) (by omega)
    omega
theorem capC_is {c : Crs} {b : Int} (hc : crsE ss c = 0) (hb : 0 ≤ b ∧ b ≤ 127) (hl : ss.length ≤ 18) (hK : K ≤ ss.length) (hf : c.f ≠ 0) : capC K b c = ⟨c.p + b, c.f - K, c.o⟩ := by
  have h := crsE_zero hc
  rw [capC, if_neg hf, wrapS (by omega), wrapS (by omega)]
theorem capC_ok {c : Crs} (h4 : stepsOk 0 ss = true) (hl : ss.length ≤ 18) (h0 : 0 < K) (hK : K ≤ ss.length) (hc : crsE ss c = 0) (hf : c.f = 0 ∨ K < c.f) : crsE (capS (ss.getD (K - 1) 0) ss K) (capC K (ss.getD (K - 1) 0) c) = 0 := by
  have h := crsE_zero hc
  have hb := steps_nth h4 (K - 1) (by omega)
  by_cases hz : c.f = 0
  · rw [capC, if_pos hz]
    refine crsE_0 ⟨by omega, by omega⟩ ?_
    have := h.2.2.2.2
    unfold hiOf at this ⊢
    rw [if_neg (by omega)] at this ⊢
    omega
  · rw [capC_is hc (by omega) hl hK hz]
    have hi := h.2.2.2.2
    have hlt : K < c.f := by omega
    have hx := steps_lt h4 (K - 1) (c.f - 1).toNat (by omega) (by omega)
    have hg : (capS (ss.getD (K - 1) 0) ss K).getD (c.f - K - 1).toNat 0 = ss.getD (c.f - 1).toNat 0 - ss.getD (K - 1) 0 := by
      rw [capS_get h4 (by omega) (by omega)]
      congr 2
      omega
    unfold hiOf at hi
    rw [if_pos (by omega)] at hi
    refine crsE_0 ⟨?_, ?_⟩ ?_
    · show 0 ≤ c.f - K; omega
    · show c.f - K ≤ _; rw [capS_length]; omega
    · show ¬ (c.p + _ < 0 ∨ 127 < c.p + _ ∨ 127 < hiOf _ (c.p + _) (c.f - K) c.o)
      unfold hiOf
      rw [if_pos (by omega), hg]
      by_cases ho : c.o = true
      · rw [if_pos ho] at hi ⊢; omega
      · rw [if_neg ho] at hi ⊢; omega
theorem capO_pos (hc : chk cs ss = 0) (hK : K ≤ ss.length) (h0 : 0 < K) (hg : cs.all (capGood K) = true) : capO cs ss K = (cs.map (capC K (ss.getD (K - 1) 0)), capS (ss.getD (K - 1) 0) ss K, 0) := by
  rw [capO, if_pos hc, if_neg (by omega), if_neg (by omega), if_pos hg]
  rfl
theorem capO_bad (hc : chk cs ss = 0) (hK : K ≤ ss.length) (h0 : 0 < K) (hg : ¬ cs.all (capGood K) = true) : capO cs ss K = ([], [], 13) := by
  rw [capO, if_pos hc, if_neg (by omega), if_neg (by omega), if_neg hg]
theorem capO_far (hc : chk cs ss = 0) (hK : ss.length < K) : capO cs ss K = ([], [], 13) := by
  rw [capO, if_pos hc, if_pos (by omega)]
theorem capO_nil (hc : chk cs ss = 0) : capO cs ss (0 : Nat) = (cs, ss, 0) := by
  rw [capO, if_pos hc, if_neg (by omega), if_pos (by rfl)]
theorem capO_twice (h0 : (capO cs ss K).2.2 = 0) (hall : ∀ c ∈ cs, ¬ (0 < c.f ∧ c.f ≤ K)) : capO (capO cs ss K).1 (capO cs ss K).2.1 J = capO cs ss ((K + J : Nat) : Int) := by
  by_cases hc : chk cs ss = 0
  · obtain ⟨l1, l2, h4, h5⟩ := chk_zero hc
    rcases Nat.eq_zero_or_pos K with rfl | hK0
    · rw [capO_nil hc, Nat.zero_add]
    · rcases Nat.lt_or_ge ss.length K with hlt | hK
      · rw [capO_far hc hlt] at h0; cases h0
      · by_cases hg : cs.all (capGood K) = true
        · have hb := steps_nth h4 (K - 1) (by omega)
          have hf : ∀ c ∈ cs, c.f = 0 ∨ K < c.f := fun c hm => by
            have := hall c hm
            have := crsE_zero (h5 c hm)
            omega
          rw [capO_pos hc hK hK0 hg]
          have hc' : chk (cs.map (capC K (ss.getD (K - 1) 0))) (capS (ss.getD (K - 1) 0) ss K) = 0 := by
            refine chk_of (by simpa using l1) (by rw [capS_length]; omega) (fun e => chk_ne hc (List.map_eq_nil_iff.1 e)) (capS_steps h4 hK0 hK) fun d hd => ?_
            obtain ⟨c, hm, rfl⟩ := List.mem_map.1 hd
            exact capC_ok h4 l2 hK0 hK (h5 c hm) (hf c hm)
          show capO (cs.map (capC K (ss.getD (K - 1) 0))) (capS (ss.getD (K - 1) 0) ss K) J = _
          rcases Nat.eq_zero_or_pos J with rfl | hJ0
          · rw [capO_nil hc', Nat.add_zero, capO_pos hc hK hK0 hg]
          · rcases Nat.lt_or_ge (ss.length - K) J with hlt | hJ
            · rw [capO_far hc' (by rw [capS_length]; exact hlt), capO_far hc (by omega)]
            · have hgood : (cs.map (capC K (ss.getD (K - 1) 0))).all (capGood J) = cs.all (capGood ((K + J : Nat) : Int)) := by
                rw [List.all_map, Bool.eq_iff_iff, List.all_eq_true, List.all_eq_true]
                have key : ∀ c ∈ cs, capGood J (capC K (ss.getD (K - 1) 0) c) = capGood ((K + J : Nat) : Int) c := fun c hm => by
                  by_cases hz : c.f = 0
                  · rw [capC, if_pos hz, capGood, capGood, hz]; rfl
                  · have := hf c hm
                    rw [capC_is (h5 c hm) (by omega) l2 hK hz]
                    rw [Bool.eq_iff_iff]
                    simp only [capGood, Bool.or_eq_true, beq_iff_eq, decide_eq_true_eq]
                    omega
                exact ⟨fun h c hm => by rw [← key c hm]; exact h c hm, fun h c hm => by show capGood J _ = true; rw [key c hm]; exact h c hm⟩
              by_cases hg2 : cs.all (capGood ((K + J : Nat) : Int)) = true
              · have hb2 := steps_nth h4 (K + J - 1) (by omega)
                have hlt2 := steps_lt h4 (K - 1) (K + J - 1) (by omega) (by omega)
                have hbb : (capS (ss.getD (K - 1) 0) ss K).getD (J - 1) 0 = ss.getD (K + J - 1) 0 - ss.getD (K - 1) 0 := by
                  rw [capS_get h4 (by omega) (by omega), show K + (J - 1) = K + J - 1 by omega]
                rw [capO_pos hc' (by rw [capS_length]; exact hJ) hJ0 (by rw [hgood]; exact hg2), capO_pos hc (by omega) (by omega) hg2, hbb]
                refine Prod.ext ?_ (Prod.ext ?_ rfl)
                · show List.map _ (List.map _ cs) = _
                  rw [List.map_map]
                  refine List.map_congr_left fun c hm => ?_
                  show capC J _ (capC K _ c) = _
                  by_cases hz : c.f = 0
                  · rw [capC, capC, if_pos hz, if_pos hz, capC, if_pos hz]
                  · have hz2 := hf c hm
                    have hcz := crsE_zero (h5 c hm)
                    rw [capC_is (h5 c hm) (by omega) l2 hK hz, capC_is (h5 c hm) (by omega) l2 (by omega) hz, capC, if_neg (by show ¬ (c.f - K = 0); omega)]
                    show Crs.mk (IntKind.i64.wrap (c.p + _ + _)) (IntKind.i64.wrap (c.f - K - J)) c.o = _
                    rw [wrapS (by omega), wrapS (by omega)]
                    congr 1 <;> omega
                · show capS _ (capS _ ss K) J = capS _ ss (K + J)
                  refine ext_getD (by rw [capS_length, capS_length, capS_length]; omega) fun i hi => ?_
                  rw [capS_length, capS_length] at hi
                  have := steps_nth h4 (K + J + i) (by omega)
                  rw [capS_get (capS_steps h4 hK0 hK) (by omega) (by rw [capS_length]; omega), capS_get h4 (by omega) (by omega), capS_get h4 (by omega) (by omega), show K + (J + i) = K + J + i by omega]
                  omega
              · rw [capO_bad hc' (by rw [capS_length]; exact hJ) hJ0 (by rw [hgood]; exact hg2), capO_bad hc (by omega) (by omega) hg2]
        · rw [capO_bad hc hK hK0 hg] at h0; cases h0
  · rw [capO, if_neg hc] at h0; exact absurd h0 hc
end
end Go.Proofs.YtbdhjpdjbogggaaDoor
