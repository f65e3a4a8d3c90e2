/- A box that nobody knows of stands beside a call. Nothing is proved of the program here. -/
import Derived.Test.YtdefefeifcdogaaGreatVm
set_option linter.unusedSimpArgs false
set_option linter.unusedVariables false
namespace Go.Proofs.YtdefefeifcdogaaGreat
open Go.RowKit
section
variable {P : Program} {G : Ground} {E E' : Env} {m m' : Mm} {w w' : World}
/-- A box that stood beside is there again behind. -/
theorem MemR.again {i : Nat} {cs : List V} {t : TypeId} (hs : Step NoX E m w E' m' w') (hm : MemR E (m.put i (.box cs t)) w) (hm' : MemR E' m' w') (hi : m.obj i = none) (hin : i < m.next) :
    Step NoX E (m.put i (.box cs t)) w E' (m'.put i (.box cs t)) w' ∧ MemR E' (m'.put i (.box cs t)) w' := by
  have hobi : (m.put i (.box cs t)).obj i = some (.box cs t) := if_pos rfl
  have hobi' : (m'.put i (.box cs t)).obj i = some (.box cs t) := if_pos rfl
  have hobj : ∀ j, j ≠ i → (m.put i (.box cs t)).obj j = m.obj j := fun j hj => if_neg hj
  have hobj' : ∀ j, j ≠ i → (m'.put i (.box cs t)).obj j = m'.obj j := fun j hj => if_neg hj
  obtain ⟨b, c, hφ, hh, hv, hM⟩ := hm.box i cs t hobi
  have hlt := heap_lt hh
  have up : ∀ j x, BlkOf E m j x → j ≠ i ∧ BlkOf E (m.put i (.box cs t)) j x := by
    rintro j x (⟨a1, a2, h1, h2⟩ | ⟨a1, a2, a3, a4, h1, h2⟩ | ⟨a1, h1, h2⟩)
    · have hji : j ≠ i := fun e => by subst e; rw [hi] at h1; cases h1
      exact ⟨hji, .inl ⟨a1, a2, (hobj j hji).trans h1, h2⟩⟩
    · have hji : j ≠ i := fun e => by subst e; rw [hi] at h1; cases h1
      exact ⟨hji, .inr (.inl ⟨a1, a2, a3, a4, (hobj j hji).trans h1, h2⟩)⟩
    · have hji : j ≠ i := fun e => by subst e; rw [hi] at h1; cases h1
      exact ⟨hji, .inr (.inr ⟨a1, (hobj j hji).trans h1, h2⟩)⟩
  have hib : BlkOf E (m.put i (.box cs t)) i b := .inl ⟨cs, t, hobi, hφ⟩
  have hnb : ∀ j, ¬ BlkOf E m j b := fun j hj => (up j b hj).1 (hm.inj j i b (up j b hj).2 hib)
  have hkeep := hs.kept b hlt hnb
  obtain ⟨hloc, ho'⟩ := hs.oldloc i hin (fun h => h) hi
  have hφ' : E'.φ i = some b := (hs.oldφ i hin (fun h => h)).trans hφ
  have hM' : ∀ o, E'.M b o = none := fun o => by
    cases h : E'.M b o with
    | none => rfl
    | some v =>
      rcases hs.newM b o v h with h1 | h1 | ⟨j, h1⟩
      · rw [hM o] at h1; cases h1
      · omega
      · exact absurd h1 (hnb j)
  have hnb' : ∀ j, ¬ BlkOf E' m' j b := fun j hj => by
    obtain ⟨k, hk⟩ := hs.blk j b hj hlt
    exact hnb k hk
  have dn : ∀ j x, BlkOf E' (m'.put i (.box cs t)) j x → (j = i ∧ x = b) ∨ (j ≠ i ∧ BlkOf E' m' j x) := by
    intro j x hx
    by_cases hji : j = i
    · subst hji
      rcases hx with ⟨a1, a2, h1, h2⟩ | ⟨a1, a2, a3, a4, h1, h2⟩ | ⟨a1, h1, h2⟩
      · rw [hφ'] at h2; cases h2; exact .inl ⟨rfl, rfl⟩
      · rw [hobi'] at h1; cases h1
      · rw [hobi'] at h1; cases h1
    · refine .inr ⟨hji, ?_⟩
      rcases hx with ⟨a1, a2, h1, h2⟩ | ⟨a1, a2, a3, a4, h1, h2⟩ | ⟨a1, h1, h2⟩
      · exact .inl ⟨a1, a2, (hobj' j hji).symm.trans h1, h2⟩
      · exact .inr (.inl ⟨a1, a2, a3, a4, (hobj' j hji).symm.trans h1, h2⟩)
      · exact .inr (.inr ⟨a1, (hobj' j hji).symm.trans h1, h2⟩)
  refine ⟨⟨hs.le, hs.next, hs.oldφ, fun j hj hx hn => ?_, hs.os, hs.tape, hs.output, hs.drawn, hs.size, fun x hx hn => hs.kept x hx fun j hj => hn j (up j x hj).2, fun j x hx hxl => ?_, fun x o v h => ?_⟩, ⟨hm'.stable, fun j hj => ?_, fun j cs' t' hj => ?_, fun j n e size hj => ?_, fun j h hj => ?_, fun j k x h1 h2 => ?_, fun j cs' t' s A k x c' h1 h2 h3 h4 => ?_⟩⟩
  · have hji : j ≠ i := fun e => by subst e; rw [hobi] at hn; cases hn
    have h1 := hs.oldloc j hj hx ((hobj j hji).symm.trans hn)
    exact ⟨h1.1, (hobj' j hji).trans h1.2⟩
  · rcases dn j x hx with ⟨rfl, rfl⟩ | ⟨_, h1⟩
    · exact ⟨j, hib⟩
    · obtain ⟨k, hk⟩ := hs.blk j x h1 hxl
      exact ⟨k, (up k x hk).2⟩
  · rcases hs.newM x o v h with h1 | h1 | ⟨j, h1⟩
    · exact .inl h1
    · exact .inr (.inl h1)
    · exact .inr (.inr ⟨j, (up j x h1).2⟩)
  · have hji : j ≠ i := fun e => by
      subst e
      have h1 : m'.next ≤ j := hj
      have h2 := hs.next
      omega
    have h1 := hm'.fresh j hj
    exact ⟨h1.1, h1.2.1, (hobj' j hji).trans h1.2.2⟩
  · by_cases hji : j = i
    · subst hji
      rw [hobi'] at hj; cases hj
      exact ⟨b, c, hφ', hkeep.trans hh, VRs.mono hs.le hv, hM'⟩
    · exact hm'.box j cs' t' ((hobj' j hji).symm.trans hj)
  · by_cases hji : j = i
    · subst hji; rw [hobi'] at hj; cases hj
    · exact hm'.row j n e size ((hobj' j hji).symm.trans hj)
  · by_cases hji : j = i
    · subst hji; rw [hobi'] at hj; cases hj
    · exact hm'.oth j h ((hobj' j hji).symm.trans hj)
  · rcases dn j x h1 with ⟨rfl, rfl⟩ | ⟨hj, h3⟩
    · rcases dn k x h2 with ⟨rfl, _⟩ | ⟨_, h4⟩
      · rfl
      · exact absurd h4 (hnb' k)
    · rcases dn k x h2 with ⟨rfl, rfl⟩ | ⟨_, h4⟩
      · exact absurd h3 (hnb' j)
      · exact hm'.inj j k x h3 h4
  · by_cases hji : j = i
    · subst hji
      rw [hobi'] at h1; cases h1
      rw [hφ'] at h3; cases h3
      exact hm.siz j cs t s A k b c' hobi ((hloc s).symm.trans h2) hφ (hkeep.symm.trans h4)
    · exact hm'.siz j cs' t' s A k x c' ((hobj' j hji).symm.trans h1) h2 h3 h4
/-- A box that nobody knows of stands beside a call. -/
theorem SFn.beside {f : FuncId} {vs : List V} {Post : V → Mm → Prop} (h : SFn P G f vs m Post) {i : Nat} (hi : m.obj i = none) (hin : i < m.next) (cs : List V) (t : TypeId) :
    SFn P G f vs (m.put i (.box cs t)) fun r m2 => ∃ m1, Post r m1 ∧ m.next ≤ m1.next ∧ (∀ q, q < m.next → m.obj q = none → m1.obj q = none) ∧ m2 = m1.put i (.box cs t) := by
  intro E w cargs hG hm hv
  have hd := (hm.del i).2
  have e : (m.put i (.box cs t)).del i = m := by
    show (⟨fun j => if j = i then none else if j = i then some (.box cs t) else m.obj j, m.next⟩ : Mm) = m
    cases m with
    | mk o n =>
      congr 1
      funext j
      by_cases hj : j = i
      · subst hj; rw [if_pos rfl]; exact hi.symm
      · rw [if_neg hj, if_neg hj]
  rw [e] at hd
  refine (h E w cargs hG hd hv).mono ?_
  rintro e w' ⟨v, r, m', E', he, hP, hs, hm', hr⟩
  obtain ⟨h1, h2⟩ := MemR.again hs hm hm' hi hin
  exact ⟨v, r, _, E', he, ⟨m', hP, hs.next, fun q hq hn => (hs.oldloc q hq (fun h => h) hn).2, rfl⟩, h1, h2, hr⟩
theorem KeepL.of {base : Nat} {js : List Nat} {m m1 : Mm} (h1 : m.next ≤ m1.next) (h2 : ∀ q, q < m.next → m.obj q = none → m1.obj q = none) : KeepL base js m m1 := ⟨h1, fun _ _ hj hn => h2 _ hj hn⟩
/-- What stood nowhere below the mark stands nowhere behind a call. -/
theorem SFn.keeps {f : FuncId} {vs : List V} {Post : V → Mm → Prop} (h : SFn P G f vs m Post) : SFn P G f vs m fun r m1 => Post r m1 ∧ m.next ≤ m1.next ∧ ∀ q, q < m.next → m.obj q = none → m1.obj q = none := by
  intro E w cargs hG hm hv
  refine (h E w cargs hG hm hv).mono ?_
  rintro e w' ⟨v, r, m', E', he, hP, hs, hm', hr⟩
  exact ⟨v, r, _, E', he, ⟨hP, hs.next, fun q hq hn => (hs.oldloc q hq (fun h => h) hn).2⟩, hs, hm', hr⟩
end
end Go.Proofs.YtdefefeifcdogaaGreat
