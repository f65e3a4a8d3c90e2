/- A text of grips is read: the program, on values. -/
import Derived.Test.YtgabmmdllcbkoaaGreatDoorWE
import Derived.Test.YtgabmmdllcbkoaaGreatDoorWA
set_option linter.unusedSimpArgs false
set_option linter.unusedVariables false
set_option maxRecDepth 100000
namespace Go.Proofs.YtgabmmdllcbkoaaGreatDoor
open Go.RowKit
/-! ### Lists whose words are all read -/
theorem mapM_cons {α β : Type} (f : α → Option β) (x : α) (l : List α) : (x :: l).mapM f = (f x).bind fun a => (l.mapM f).map (a :: ·) := by
  rw [List.mapM_cons]
  cases f x with
  | none => rfl
  | some a => cases l.mapM f <;> rfl
theorem mapM_snoc {α β : Type} (f : α → Option β) : ∀ (l : List α) (x : α) {ns : List β} {v : β}, l.mapM f = some ns → f x = some v → (l ++ [x]).mapM f = some (ns ++ [v])
  | [], x, ns, v, h, hx => by
    have : ns = [] := by simpa using h.symm
    subst this
    rw [List.nil_append, mapM_cons, hx]; rfl
  | y :: l, x, ns, v, h, hx => by
    rw [mapM_cons] at h
    rw [List.cons_append, mapM_cons]
    cases hy : f y with
    | none => rw [hy] at h; cases h
    | some a =>
      rw [hy] at h
      cases hl : l.mapM f with
      | none => rw [hl] at h; cases h
      | some m =>
        rw [hl] at h
        have e : a :: m = ns := by injection h
        subst e
        show ((l ++ [x]).mapM f).map (a :: ·) = _
        rw [mapM_snoc f l x hl hx]; rfl
theorem mapM_bad {α β : Type} (f : α → Option β) {x : α} (hx : f x = none) : ∀ {l : List α}, x ∈ l → l.mapM f = none
  | y :: l, h => by
    rw [mapM_cons]
    rcases List.mem_cons.1 h with rfl | h
    · rw [hx]; rfl
    · rw [mapM_bad f hx h]
      cases f y <;> rfl
theorem mapM_take {α β : Type} (f : α → Option β) (d : α) {l : List α} {k : Nat} (hk : k < l.length) {ns : List β} {v : β} (h : (l.take k).mapM f = some ns) (hx : f (l.getD k d) = some v) : (l.take (k + 1)).mapM f = some (ns ++ [v]) := by
  rw [take_getD d hk]; exact mapM_snoc f _ _ h hx
theorem mapM_len {α β : Type} (f : α → Option β) : ∀ {l : List α} {ns : List β}, l.mapM f = some ns → ns.length = l.length
  | [], ns, h => by
    have : ns = [] := by simpa using h.symm
    subst this; rfl
  | y :: l, ns, h => by
    rw [mapM_cons] at h
    cases hy : f y with
    | none => rw [hy] at h; cases h
    | some a =>
      rw [hy] at h
      cases hl : l.mapM f with
      | none => rw [hl] at h; cases h
      | some m =>
        rw [hl] at h
        have e : a :: m = ns := by injection h
        subst e
        rw [List.length_cons, List.length_cons, mapM_len f hl]
theorem ofNs_snoc {ns : List Int} {v : Int} (h : ns ≠ []) : ofNs (ns ++ [v]) = ⟨(ofNs ns).pos, (ofNs ns).fingers ++ [v]⟩ := by
  cases ns with
  | nil => exact absurd rfl h
  | cons a l => rfl
theorem ofNs_len (ns : List Int) : (ofNs ns).fingers.length = ns.length - 1 := by
  cases ns <;> rfl
theorem atP_cases {l : List UInt8} {r : V} (h : AtP l r) : (∃ v, atoiO l = some v ∧ r = .tup [vint v, .lit .nilIface]) ∨ (atoiO l = none ∧ ∃ n te pe, r = .tup [vint n, .lit (.iface te pe)]) := by
  unfold AtP at h
  unfold atoiO
  cases hl : Lib.atoiAll l with
  | ok v => rw [hl] at h; exact .inl ⟨v, rfl, h⟩
  | range => rw [hl] at h; exact .inr ⟨rfl, h⟩
  | _ => rw [hl] at h; exact .inr ⟨rfl, h⟩
theorem splitC_le (c : UInt8) : ∀ (s : List UInt8), (splitC c s).length ≤ s.length + 1 ∧ ∀ w ∈ splitC c s, w.length ≤ s.length
  | [] => ⟨by simp [splitC], fun w hw => by simp [splitC] at hw; subst hw; simp⟩
  | x :: s => by
    obtain ⟨h1, h2⟩ := splitC_le c s
    have hne := splitC_ne c s
    rw [splitC]
    generalize splitC c s = r at *
    by_cases hx : x = c
    · rw [if_pos hx]
      refine ⟨by simp; omega, fun w hw => ?_⟩
      rcases List.mem_cons.1 hw with rfl | hw
      · simp
      · have := h2 w hw; simp; omega
    · rw [if_neg hx]
      cases r with
      | nil => exact absurd rfl hne
      | cons a t =>
        refine ⟨by simp at h1 ⊢; omega, fun w hw => ?_⟩
        rcases List.mem_cons.1 hw with rfl | hw
        · have := h2 a (List.mem_cons_self ..); simp; omega
        · have := h2 w (List.mem_cons_of_mem _ hw); simp; omega
theorem lnsP_le (s : List UInt8) : (lnsP s).length ≤ s.length + 1 ∧ ∀ w ∈ lnsP s, w.length ≤ s.length := by
  obtain ⟨h1, h2⟩ := splitC_le 10 s
  unfold lnsP
  split
  · exact ⟨by rw [List.length_dropLast]; omega, fun w hw => h2 w (List.dropLast_subset _ hw)⟩
  · exact ⟨h1, h2⟩
end Go.Proofs.YtgabmmdllcbkoaaGreatDoor
