/- ParseName, joined. -/
import Derived.Test.YtbdhjpdjbogggaaDoorW5
namespace Go.Proofs.YtbdhjpdjbogggaaDoor
open Go.RowKit

theorem hasPrefix_one (r : List UInt8) (c : UInt8) : Lib.hasPrefix r [c] = (r.head? == some c) := by
  cases r with
  | nil => rfl
  | cons x r =>
    simp only [Lib.hasPrefix, List.isPrefixOf, List.head?_cons, Bool.and_true]
    exact BEq.comm

theorem parseName_any (s : ByteArray) (w : World) (hg : Gnd w) :
    Calls Tryd.prog 24 #[.string s] w fun e1 w' => e1 = .returned (.tuple #[.agg #[.int .i64 (pnV s.data.toList).1, .int .i64 (pnV s.data.toList).2.1, .int .i64 (pnV s.data.toList).2.2], .int .i64 (pnE s.data.toList)]) ∧ Below w.heap.size w w' := by
  cases ht : s.data.toList with
  | nil =>
    exact pn_empty s w (by rw [ByteArray.toList_eq, ht]; rfl)
  | cons c t =>
    have hsz : s.size = t.length + 1 := by have : s.data.toList.length = s.size := by simp
                                           rw [← this, ht]; rfl
    have h1 : 0 < s.size := by omega
    have h0 : s.toList.isEmpty = false := by rw [ByteArray.toList_eq, ht]; rfl
    have hc : ∀ h : 0 < s.size, s[0]'h = c := by
      intro h
      have e : s.data.toList[0]? = some (s[0]'h) := by rw [List.getElem?_eq_getElem (by simpa using h)]; rfl
      rw [ht] at e; simpa using e.symm
    by_cases hl : letOf c < 0
    · have hO : pnO (c :: t) = none := by simp only [pnO, if_pos hl]
      have hE : pnE (c :: t) = 4 := by simp only [pnE, hO]
      have hV : pnV (c :: t) = (0, 0, 0) := by simp only [pnV, hO]
      rw [hE, hV]
      exact pn_letter s c w h1 h0 hc hl
    · obtain ⟨r, hr⟩ : ∃ r, s.extract 1 s.size = r := ⟨_, rfl⟩
      have hrl : r.data.toList = t := by rw [← hr, ext1, ht]; rfl
      have hrs : r.data.toList.length = r.size := by simp
      have hl' : 0 ≤ Lib.indexByte [67, 68, 69, 70, 71, 65, 66] c := by have : ¬ Lib.indexByte letters c < 0 := hl; simp only [letters] at this; omega
      -- what follows the sign
      obtain ⟨r2, a, ha, hr2l, hae⟩ : ∃ r2 a, ((Lib.hasPrefix r.data.toList [35] = true ∧ r.extract 1 r.size = r2 ∧ 0 < r.size ∧ a = 1) ∨ (Lib.hasPrefix r.data.toList [35] = false ∧ Lib.hasPrefix r.data.toList [98] = true ∧ r.extract 1 r.size = r2 ∧ 0 < r.size ∧ a = -1) ∨
          (Lib.hasPrefix r.data.toList [35] = false ∧ Lib.hasPrefix r.data.toList [98] = false ∧ r = r2 ∧ a = 0)) ∧ r2.data.toList = altR t ∧ a = altA t := by
        by_cases h35 : t.head? = some 35
        · refine ⟨_, _, .inl ⟨by rw [hasPrefix_one, hrl]; simpa using h35, rfl, ?_, rfl⟩, ?_, ?_⟩
          · cases t with
            | nil => simp at h35
            | cons _ _ => rw [← hrs, hrl]; simp
          · rw [ext1, hrl, altR, if_pos h35]
          · rw [altA, if_pos h35]
        · by_cases h98 : t.head? = some 98
          · refine ⟨_, _, .inr (.inl ⟨by rw [hasPrefix_one, hrl]; simpa using h35, by rw [hasPrefix_one, hrl]; simpa using h98, rfl, ?_, rfl⟩), ?_, ?_⟩
            · cases t with
              | nil => simp at h98
              | cons _ _ => rw [← hrs, hrl]; simp
            · rw [ext1, hrl, altR, if_neg h35, if_pos h98]
            · rw [altA, if_neg h35, if_pos h98]
          · refine ⟨_, _, .inr (.inr ⟨by rw [hasPrefix_one, hrl]; simpa using h35, by rw [hasPrefix_one, hrl]; simpa using h98, rfl, rfl⟩), ?_, ?_⟩
            · rw [hrl, altR, if_neg h35, if_neg h98]
            · rw [altA, if_neg h35, if_neg h98]
      have hr2s : r2.data.toList.length = r2.size := by simp
      obtain ⟨d, hd⟩ : ∃ d, d = (altR t).headD 0 := ⟨_, rfl⟩
      have hd0 : ∀ h : 0 < r2.size, r2[0]'h = d := by
        intro h
        have e : r2.data.toList[0]? = some (r2[0]'h) := by rw [List.getElem?_eq_getElem (by simpa using h)]; rfl
        rw [hd, ← hr2l]
        cases hx : r2.data.toList with
        | nil => rw [hx] at e; simp at e
        | cons x y => rw [hx] at e; simpa using e.symm
      have q1 : (r2.toList == [45, 49]) = decide (altR t = [45, 49]) := by rw [ByteArray.toList_eq, hr2l]; by_cases h : altR t = [45, 49] <;> simp [h]
      cases ho : octOf (altR t) with
      | none =>
        have hO : pnO (c :: t) = none := by simp only [pnO, if_neg hl, ho, Option.map_none]
        have hE : pnE (c :: t) = 4 := by simp only [pnE, hO]
        have hV : pnV (c :: t) = (0, 0, 0) := by simp only [pnV, hO]
        rw [hE, hV]
        refine pn_form s r r2 c a w h1 h0 hc hl' hr ha d ?_
        unfold octOf at ho
        by_cases k1 : altR t = [45, 49]
        · rw [if_pos k1] at ho; cases ho
        · rw [if_neg k1] at ho
          by_cases k2 : (altR t).length = 1 ∧ digB ((altR t).headD 0) = true
          · rw [if_pos k2] at ho; cases ho
          · by_cases k3 : (altR t).length = 1
            · right
              refine ⟨by rw [q1]; simpa using k1, by rw [← hr2s, hr2l, k3]; rfl, by rw [← hr2s, hr2l, k3]; decide, hd0, ?_⟩
              have : ¬ digB d = true := fun h => k2 ⟨k3, by rw [← hd]; exact h⟩
              simp [digB] at this
              omega
            · left
              refine ⟨by rw [q1]; simpa using k1, ?_⟩
              simp only [beq_eq_false_iff_ne]
              rw [← hr2s, hr2l]; omega
      | some o =>
        have hO : pnO (c :: t) = some (letOf c, a, o) := by simp only [pnO, if_neg hl, ho, Option.map_some, hae]
        have hoo : ((r2.toList == [45, 49]) = true ∧ o = -1) ∨ ((r2.toList == [45, 49]) = false ∧ ((r2.size : Int) == 1) = true ∧ 0 < r2.size ∧ (∀ h : 0 < r2.size, r2[0]'h = d) ∧ 48 ≤ (d.toNat : Int) ∧ (d.toNat : Int) ≤ 57 ∧ o = (d.toNat : Int) - 48) := by
          unfold octOf at ho
          by_cases k1 : altR t = [45, 49]
          · rw [if_pos k1] at ho
            exact .inl ⟨by rw [q1]; simpa using k1, by injection ho with ho; exact ho.symm⟩
          · rw [if_neg k1] at ho
            by_cases k2 : (altR t).length = 1 ∧ digB ((altR t).headD 0) = true
            · rw [if_pos k2, ← hd] at ho
              have k4 := k2.2
              rw [← hd] at k4
              simp [digB] at k4
              exact .inr ⟨by rw [q1]; simpa using k1, by rw [← hr2s, hr2l, k2.1]; rfl, by rw [← hr2s, hr2l, k2.1]; decide, hd0, k4.1, k4.2, by injection ho with ho; exact ho.symm⟩
            · rw [if_neg k2] at ho; cases ho
        have hS : ∀ W, Below w.heap.size w W → w.heap.size + 2 ≤ W.heap.size → Calls Tryd.prog 56 #[.agg #[.int .i64 (Lib.indexByte [67, 68, 69, 70, 71, 65, 66] c), .int .i64 a, .int .i64 o]] W fun e1 w1 =>
            e1 = .returned (.tuple #[.int .i64 (sndP (letOf c) a o), .int .i64 (sndE (letOf c) a o)]) ∧ Below (w.heap.size + 2) W w1 ∧ Below w.heap.size w w1 := fun W hW hz =>
          (sounding_any _ _ _ W (hg.up hW)).mono fun e w1 ⟨he, hb⟩ => ⟨he, hb.mono hz, hW.trans (hb.mono hW.size)⟩
        by_cases hR : right (letOf c) a o = true
        · have hE : pnE (c :: t) = 0 := by simp only [pnE, hO, hR, if_true]
          have hV : pnV (c :: t) = (letOf c, a, o) := by simp only [pnV, hO, hR, if_true]
          rw [hE, hV]
          rw [(snd_good hR).2] at hS
          exact pn_good s r r2 c a o w h1 h0 hc hl' hr ha d hoo _ hS
        · have hR' : right (letOf c) a o = false := by simpa using hR
          have hE : pnE (c :: t) = 10 := by simp only [pnE, hO, hR']; rfl
          have hV : pnV (c :: t) = (0, 0, 0) := by simp only [pnV, hO, hR']; rfl
          rw [hE, hV]
          rw [(snd_bad hR').2] at hS
          exact pn_pitch s r r2 c a o w h1 h0 hc hl' hr ha d hoo _ 10 hS (show (10 : Int) ≠ 0 by decide)
end Go.Proofs.YtbdhjpdjbogggaaDoor
