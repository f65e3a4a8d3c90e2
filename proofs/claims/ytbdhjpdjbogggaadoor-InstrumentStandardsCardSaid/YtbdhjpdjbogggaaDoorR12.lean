/- course of the reference, joined. -/
import Derived.Test.YtbdhjpdjbogggaaDoorR11
import Derived.Test.YtbdhjpdjbogggaaDoorPl2
namespace Go.Proofs.YtbdhjpdjbogggaaDoor
open Go.RowKit

theorem get_data (s : ByteArray) (k : Nat) (h : k < s.size) : ∃ h' : k < s.data.toList.length, s[k]'h = s.data.toList[k]'h' := ⟨by simpa using h, rfl⟩

theorem rcourse_any (s : ByteArray) (w : World) (hsz : s.size ≤ 5000) :
    Calls Tryd.prog 75 #[.string s] w fun e1 w' => e1 = .returned (.tuple #[.agg #[.int .i64 (crsOf s.data.toList).2.p, .int .i64 (crsOf s.data.toList).2.f, .bool (crsOf s.data.toList).2.o], .int .i64 (crsOf s.data.toList).1]) ∧ Below w.heap.size w w' := by
  have hsl : s.data.toList.length = s.size := by simp
  -- the sign at the end
  obtain ⟨u, oc, hus, hs, hcr⟩ : ∃ (u : ByteArray) (oc : Bool), u.size ≤ 5000 ∧
      ((oc = false ∧ u = s ∧ s.size ≤ 0) ∨ (oc = false ∧ u = s ∧ 0 < s.size ∧ ∀ h : s.size - 1 < s.size, (((s[s.size - 1]'h).toNat : Int) == 43) = false) ∨
        (oc = true ∧ s.extract 0 (s.size - 1) = u ∧ 0 < s.size ∧ ∀ h : s.size - 1 < s.size, (((s[s.size - 1]'h).toNat : Int) == 43) = true)) ∧ crsOf s.data.toList = rcsT u.data.toList oc := by
    by_cases h0 : s.size = 0
    · have hn : s.data.toList = [] := List.eq_nil_of_length_eq_zero (by omega)
      exact ⟨s, false, hsz, .inl ⟨rfl, rfl, by omega⟩, (rcsT_plain _ (by rw [hn]; simp)).symm⟩
    · have hlt : s.size - 1 < s.size := by omega
      obtain ⟨h', hg⟩ := get_data s (s.size - 1) hlt
      have hgl : s.data.toList.getLast? = some (s[s.size - 1]'hlt) := by
        rw [List.getLast?_eq_getElem?, hsl, List.getElem?_eq_getElem h', hg]
      by_cases h43 : s[s.size - 1]'hlt = 43
      · refine ⟨s.extract 0 (s.size - 1), true, ?_, .inr (.inr ⟨rfl, rfl, by omega, fun _ => by rw [h43]; rfl⟩), ?_⟩
        · rw [ByteArray.size_extract]; omega
        · rw [rcsT_plus, Lib.extract_data, List.drop_zero, Nat.sub_zero]
          congr 1
          rw [← h43, hg, ← List.take_succ_eq_append_getElem h', show s.size - 1 + 1 = s.size by omega, List.take_of_length_le (by omega)]
      · refine ⟨s, false, hsz, .inr (.inl ⟨rfl, rfl, by omega, fun _ => ?_⟩), (rcsT_plain _ (by rw [hgl]; simpa using h43)).symm⟩
        rw [beq_eq_false_iff_ne]
        intro h
        exact h43 (UInt8.toNat_inj.1 (by rw [show (43 : UInt8).toNat = 43 from rfl]; omega))
  rw [hcr]
  have hul : u.data.toList.length = u.size := by simp
  obtain ⟨I, hI⟩ : ∃ I, I = ixC 47 u.data.toList := ⟨_, rfl⟩
  have hIle : I ≤ u.size := by rw [hI, ← hul]; exact ixC_le _ _
  have hne : ∀ k (h : k < u.size), k < I → (((u[k]'h).toNat : Int) == 47) = false := by
    intro k h hk
    obtain ⟨h', hg⟩ := get_data u k h
    have := List.not_of_lt_findIdx (p := fun x : UInt8 => x == 47) (xs := u.data.toList) (i := k) (by rw [hI] at hk; exact hk)
    rw [hg, beq_eq_false_iff_ne]
    intro e
    have e2 : u.data.toList[k] = 47 := UInt8.toNat_inj.1 (by rw [show (47 : UInt8).toNat = 47 from rfl]; omega)
    rw [e2] at this
    simp at this
  have heq : ∀ h : I < u.size, (((u[I]'h).toNat : Int) == 47) = true := by
    intro h
    obtain ⟨h', hg⟩ := get_data u I h
    have h2 := List.findIdx_getElem (p := fun x : UInt8 => x == 47) (xs := u.data.toList) (w := by have h5 := h'; rw [hI] at h5; exact h5)
    have h3 : u.data.toList[I]'h' = 47 := by
      have h4 := beq_iff_eq.1 h2
      subst hI
      exact h4
    rw [hg, h3]; rfl
  obtain ⟨nm, hnm⟩ : ∃ nm, u.extract 0 I = nm := ⟨_, rfl⟩
  obtain ⟨rs, hrs⟩ : ∃ rs, u.extract (I + 1) u.size = rs := ⟨_, rfl⟩
  have enm : nm.data.toList = u.data.toList.take I := by rw [← hnm, Lib.extract_data, List.drop_zero, Nat.sub_zero]
  have ers : rs.data.toList = u.data.toList.drop (I + 1) := by rw [← hrs]; exact Lib.extract_to_end u (I + 1)
  have hcs : rcsT u.data.toList oc = if I = u.size then (4, crsZ) else if pnE nm.data.toList = 4 then (4, crsZ) else if numOk rs.data.toList = false then (4, crsZ)
      else if pnE nm.data.toList ≠ 0 then (pnE nm.data.toList, crsZ) else (0, ⟨pit (pnV nm.data.toList).1 (pnV nm.data.toList).2.1 (pnV nm.data.toList).2.2, numN rs.data.toList, oc⟩) := by
    rw [rcsT, enm, ers, ← hI, hul]
  rw [hcs]
  have hR : right (pnV nm.data.toList).1 (pnV nm.data.toList).2.1 (pnV nm.data.toList).2.2 = true := by
    generalize nm.data.toList = t
    have h0 : right 0 0 0 = true := by decide +kernel
    simp only [pnV]
    cases pnO t with
    | none => exact h0
    | some x =>
      obtain ⟨l, a, o⟩ := x
      by_cases h : right l a o = true
      · simp [h]
      · simpa [h] using h0
  have HP : Hid (∀ W, Calls Tryd.prog 25 #[.string nm] W fun e1 w1 => e1 = .returned (.tuple #[.agg #[.int .i64 (pnV nm.data.toList).1, .int .i64 (pnV nm.data.toList).2.1, .int .i64 (pnV nm.data.toList).2.2], .int .i64 (pnE nm.data.toList)]) ∧ Below W.heap.size W w1) := Lib.hid fun W => rparseName_any nm W
  have HN : Hid (∀ W, Calls Tryd.prog 76 #[.string rs] W fun e1 w1 => e1 = .returned (.tuple #[.int .i64 (numN rs.data.toList), .bool (numOk rs.data.toList)]) ∧ W = w1) := Lib.hid fun W => rnumber_any rs W
  clear hcs hcr hI enm ers hsl hul
  generalize hl : (pnV nm.data.toList).1 = l at *
  generalize ha : (pnV nm.data.toList).2.1 = a at *
  generalize ho : (pnV nm.data.toList).2.2 = o at *
  generalize he : pnE nm.data.toList = e at *
  generalize hn : numN rs.data.toList = n at *
  generalize hk : numOk rs.data.toList = ok at *
  have HS : Hid (∀ W, Calls Tryd.prog 57 #[.agg #[.int .i64 l, .int .i64 a, .int .i64 o]] W fun e1 w1 => e1 = .returned (.tuple #[.int .i64 (pit l a o), .int .i64 0]) ∧ Below W.heap.size W w1) := Lib.hid fun W =>
    (rsounding_any l a o W).mono fun e1 w1 ⟨he, hw⟩ => ⟨by rw [he, (snd_good hR).1, (snd_good hR).2], hw⟩
  have key := rcourse_walk s u nm rs oc ok I l a o e n _ w hs hsz hus hIle (Lib.hid hne) (Lib.hid heq) hnm hrs HP HN HS
  by_cases h1 : I = u.size
  · rw [if_pos h1]
    exact key _ _ _ _ (.inl ⟨h1, rfl, rfl, rfl, rfl⟩)
  · rw [if_neg h1]
    by_cases h4 : e = 4
    · rw [if_pos h4]
      exact key _ _ _ _ (.inr (.inl ⟨by omega, by simpa using h4, rfl, rfl, rfl, rfl⟩))
    · rw [if_neg h4]
      cases ok
      · rw [if_pos rfl]
        exact key _ _ _ _ (.inr (.inr (.inl ⟨by omega, by simpa using h4, rfl, rfl, rfl, rfl, rfl⟩)))
      · rw [if_neg (by decide)]
        by_cases h0 : e = 0
        · rw [if_neg (by omega)]
          exact key _ _ _ _ (.inr (.inr (.inr (.inr ⟨by omega, by simpa using h4, rfl, by simpa using h0, rfl, rfl, rfl, rfl⟩))))
        · rw [if_pos h0]
          exact key _ _ _ _ (.inr (.inr (.inr (.inl ⟨by omega, by simpa using h4, rfl, by simpa using h0, rfl, rfl, rfl, rfl⟩))))
end Go.Proofs.YtbdhjpdjbogggaaDoor
