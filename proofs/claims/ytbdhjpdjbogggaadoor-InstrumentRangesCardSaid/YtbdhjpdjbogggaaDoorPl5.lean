/- What sounds under a capo, on lists. Nothing is proved of the program here. -/
import Derived.Test.YtbdhjpdjbogggaaDoorX12
namespace Go.Proofs.YtbdhjpdjbogggaaDoor
open Go.RowKit
theorem atE_is {cs : List Crs} {ss : List Int} {co f : Int} (h : chk cs ss = 0) (h1 : 1 ≤ co) (h2 : co ≤ cs.length) : atE cs ss co f = if f < 0 ∨ (cs.getD (co.toNat - 1) default).f < f then 13 else 0 := by
  unfold atE
  rw [if_neg (fun h' => h' h), if_neg (by omega)]
theorem map_getD (g : Crs → Crs) {l : List Crs} {i : Nat} (h : i < l.length) : (l.map g).getD i default = g (l.getD i default) := by
  rw [List.getD_eq_getElem?_getD, List.getElem?_map, List.getD_eq_getElem?_getD, List.getElem?_eq_getElem h]; rfl
section
variable {cs : List Crs} {ss : List Int} {K : Nat}
theorem capC_ok2 {c : Crs} (h4 : stepsOk 0 ss = true) (hl : ss.length ≤ 18) (h0 : 0 < K) (hK : K ≤ ss.length) (hc : crsE ss c = 0) (hf : c.f = 0 ∨ K ≤ c.f) : crsE (capS (ss.getD (K - 1) 0) ss K) (capC K (ss.getD (K - 1) 0) c) = 0 := by
  by_cases he : c.f = K
  · have h := crsE_zero hc
    have hb := steps_nth h4 (K - 1) (by omega)
    rw [capC_is hc (by omega) hl hK (by omega)]
    have hi := h.2.2.2.2
    unfold hiOf at hi
    rw [if_pos (by omega), show (c.f - 1).toNat = K - 1 by omega] at hi
    refine crsE_0 ⟨?_, ?_⟩ ?_
    · show 0 ≤ c.f - K; omega
    · show c.f - K ≤ _; omega
    · show ¬ (c.p + _ < 0 ∨ 127 < c.p + _ ∨ 127 < hiOf _ (c.p + _) (c.f - K) c.o)
      unfold hiOf
      rw [if_neg (by omega)]
      by_cases ho : c.o = true
      · rw [if_pos ho] at hi ⊢; omega
      · rw [if_neg ho] at hi ⊢; omega
  · exact capC_ok h4 hl h0 hK hc (by omega)
theorem capO_sounds {co fr : Int} (h0 : (capO cs ss K).2.2 = 0) (hco : 1 ≤ co ∧ co ≤ cs.length) (hfr : 0 ≤ fr) :
    (atV (capO cs ss K).1 (capO cs ss K).2.1 co fr = atV cs ss co (fr + if (cs.getD (co.toNat - 1) default).f = 0 then 0 else (K : Int))) ∧
    (atE (capO cs ss K).1 (capO cs ss K).2.1 co fr = atE cs ss co (fr + if (cs.getD (co.toNat - 1) default).f = 0 then 0 else (K : Int))) := by
  by_cases hc : chk cs ss = 0
  · obtain ⟨l1, l2, h4, h5⟩ := chk_zero hc
    rcases Nat.eq_zero_or_pos K with rfl | hK0
    · rw [capO_nil hc]
      simp
    · rcases Nat.lt_or_ge ss.length K with hlt | hK
      · rw [capO_far hc hlt] at h0; cases h0
      · by_cases hg : cs.all (capGood K) = true
        · have hb := steps_nth h4 (K - 1) (by omega)
          have hf : ∀ c ∈ cs, c.f = 0 ∨ K ≤ c.f := fun c hm => by
            have := List.all_eq_true.1 hg c hm
            simp only [capGood, Bool.or_eq_true, beq_iff_eq, decide_eq_true_eq] at this
            omega
          rw [capO_pos hc hK hK0 hg]
          have hc' : chk (cs.map (capC K (ss.getD (K - 1) 0))) (capS (ss.getD (K - 1) 0) ss K) = 0 := by
            refine chk_of (by simpa using l1) (by rw [capS_length]; omega) (fun e => chk_ne hc (List.map_eq_nil_iff.1 e)) (capS_steps h4 hK0 hK) fun d hd => ?_
            obtain ⟨c, hm, rfl⟩ := List.mem_map.1 hd
            exact capC_ok2 h4 l2 hK0 hK (h5 c hm) (hf c hm)
          show atV (cs.map (capC K (ss.getD (K - 1) 0))) (capS (ss.getD (K - 1) 0) ss K) co fr = _ ∧ atE (cs.map (capC K (ss.getD (K - 1) 0))) (capS (ss.getD (K - 1) 0) ss K) co fr = _
          have hn : co.toNat - 1 < cs.length := by omega
          have hgd := map_getD (capC K (ss.getD (K - 1) 0)) hn
          have hm : cs.getD (co.toNat - 1) default ∈ cs := by rw [List.getD_eq_getElem?_getD, List.getElem?_eq_getElem hn]; exact List.getElem_mem _
          have hE : atE (cs.map (capC K (ss.getD (K - 1) 0))) (capS (ss.getD (K - 1) 0) ss K) co fr = atE cs ss co (fr + if (cs.getD (co.toNat - 1) default).f = 0 then 0 else (K : Int)) := by
            rw [atE_is hc' hco.1 (by rw [List.length_map]; exact hco.2), atE_is hc hco.1 hco.2, hgd]
            have e0 := hf _ hm
            have e5 := h5 _ hm
            generalize cs.getD (co.toNat - 1) default = c at *
            by_cases hz : c.f = 0
            · rw [capC, if_pos hz, if_pos hz, Int.add_zero]
            · rw [capC_is e5 (by omega) l2 hK hz, if_neg hz]
              show (if fr < 0 ∨ c.f - K < fr then (13 : Int) else 0) = _
              by_cases hq : c.f - K < fr
              · rw [if_pos (.inr hq), if_pos (by omega)]
              · rw [if_neg (by omega), if_neg (by omega)]
          refine ⟨?_, hE⟩
          unfold atV
          rw [hE, hgd]
          by_cases hx : atE cs ss co (fr + if (cs.getD (co.toNat - 1) default).f = 0 then 0 else (K : Int)) = 0
          · rw [if_pos hx, if_pos hx]
            have e0 := hf _ hm
            have e5 := h5 _ hm
            have hle : fr + (if (cs.getD (co.toNat - 1) default).f = 0 then 0 else (K : Int)) ≤ (cs.getD (co.toNat - 1) default).f := by
              rw [atE_is hc hco.1 hco.2] at hx
              rcases Int.lt_or_le (cs.getD (co.toNat - 1) default).f (fr + if (cs.getD (co.toNat - 1) default).f = 0 then 0 else (K : Int)) with h | h
              · rw [if_pos (.inr h)] at hx; cases hx
              · exact h
            generalize cs.getD (co.toNat - 1) default = c at *
            have hcz := crsE_zero e5
            by_cases hz : c.f = 0
            · rw [if_pos hz] at hle ⊢
              rw [capC, if_pos hz]
              have : fr = 0 := by omega
              subst this
              rfl
            · rw [if_neg hz] at hle ⊢
              rw [capC_is e5 (by omega) l2 hK hz]
              unfold stopOf
              show c.p + _ + _ = _
              rw [if_pos (show 0 < fr + (K : Int) by omega)]
              by_cases hz2 : 0 < fr
              · rw [if_pos hz2, capS_get h4 (by omega) (by omega), show K + (fr.toNat - 1) = (fr + (K : Int)).toNat - 1 by omega]
                omega
              · rw [if_neg hz2, show (fr + (K : Int)).toNat - 1 = K - 1 by omega]
                omega
          · rw [if_neg hx, if_neg hx]
        · rw [capO_bad hc hK hK0 hg] at h0; cases h0
  · rw [capO, if_neg hc] at h0; exact absurd h0 hc
end
end Go.Proofs.YtbdhjpdjbogggaaDoor
