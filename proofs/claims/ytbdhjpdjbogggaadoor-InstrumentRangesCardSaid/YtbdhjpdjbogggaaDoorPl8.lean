/- Plain: lowest, highest and rank of courses. Nothing is proved of the program here. -/
import Derived.Test.YtbdhjpdjbogggaaDoorPl3
import Derived.Test.YtbdhjpdjbogggaaDoorX12
namespace Go.Proofs.YtbdhjpdjbogggaaDoor
open Go.RowKit
set_option linter.unusedSimpArgs false
set_option linter.unusedVariables false

def cr (cs : List Crs) (k : Nat) : Crs := cs.getD k default
def loT (cs : List Crs) : Nat → Int
  | 0 => 127
  | k + 1 => if (cs.getD k default).p < loT cs k then (cs.getD k default).p else loT cs k
def hiT (cs : List Crs) (ss : List Int) : Nat → Int
  | 0 => 0
  | k + 1 => if stopOf ss (cs.getD k default).p (cs.getD k default).f > hiT cs ss k then stopOf ss (cs.getD k default).p (cs.getD k default).f else hiT cs ss k
/-- Where the frets of a course have been looked at below m. -/
def loF (cs : List Crs) (k : Nat) : Nat → Int
  | 0 => loT cs k
  | _ + 1 => loT cs (k + 1)
def hiF (cs : List Crs) (ss : List Int) (k : Nat) : Nat → Int
  | 0 => hiT cs ss k
  | m + 1 => if stopOf ss (cs.getD k default).p m > hiT cs ss k then stopOf ss (cs.getD k default).p m else hiT cs ss k
theorem stop_zero (ss : List Int) (p : Int) : stopOf ss p ((0 : Nat) : Int) = p := by simp [stopOf]
theorem stop_le {ss : List Int} (h : stepsOk 0 ss = true) (p : Int) {i j : Nat} (hij : i ≤ j) (hj : j ≤ ss.length) : stopOf ss p i ≤ stopOf ss p j := by
  rcases Nat.lt_or_ge i j with h1 | h1
  · exact Int.le_of_lt (stop_up h p h1 hj)
  · rw [show i = j by omega]; exact Int.le_refl _
theorem loF_succ {cs : List Crs} {ss : List Int} (h : stepsOk 0 ss = true) {k m : Nat} (hm : m ≤ ss.length) :
    (if stopOf ss (cs.getD k default).p m < loF cs k m then stopOf ss (cs.getD k default).p m else loF cs k m) = loF cs k (m + 1) := by
  cases m with
  | zero => rw [stop_zero]; rfl
  | succ m =>
    have h1 := stop_le h (cs.getD k default).p (i := 0) (j := m + 1) (by omega) hm
    rw [stop_zero] at h1
    rw [if_neg]
    · rfl
    · show ¬ _ < loT cs (k + 1)
      rw [loT]
      split <;> omega
theorem max_step {a b c : Int} (h : a ≤ b) : (if b > (if a > c then a else c) then b else (if a > c then a else c)) = (if b > c then b else c) := by
  by_cases h2 : a > c
  · rw [if_pos h2, if_pos (show b > c by omega)]
    by_cases h3 : b > a
    · rw [if_pos h3]
    · rw [if_neg h3]; omega
  · rw [if_neg h2]
theorem hiF_succ {cs : List Crs} {ss : List Int} (h : stepsOk 0 ss = true) {k m : Nat} (hm : m ≤ ss.length) :
    (if stopOf ss (cs.getD k default).p m > hiF cs ss k m then stopOf ss (cs.getD k default).p m else hiF cs ss k m) = hiF cs ss k (m + 1) := by
  cases m with
  | zero => rfl
  | succ m =>
    have h1 := stop_le h (cs.getD k default).p (i := m) (j := m + 1) (by omega) hm
    exact max_step h1
theorem hiF_end {cs : List Crs} {ss : List Int} {k : Nat} (hf : 0 ≤ (cs.getD k default).f) : hiF cs ss k ((cs.getD k default).f.toNat + 1) = hiT cs ss (k + 1) := by
  rw [hiF, hiT, show (((cs.getD k default).f.toNat : Nat) : Int) = (cs.getD k default).f by omega]

/-! ### Lists in a strict order -/
theorem eq_of_order {α : Type} {R : α → α → Prop} (hi : ∀ a, ¬ R a a) (ht : ∀ a b, R a b → R b a → False) : ∀ {l m : List α}, l.Pairwise R → m.Pairwise R → (∀ a, a ∈ l ↔ a ∈ m) → l = m
  | [], [], _, _, _ => rfl
  | [], b :: m, _, _, h => by have := (h b).2 (List.mem_cons_self ..); cases this
  | a :: l, [], _, _, h => by have := (h a).1 (List.mem_cons_self ..); cases this
  | a :: l, b :: m, hl, hm, h => by
    rw [List.pairwise_cons] at hl hm
    have hab : a = b := by
      have h1 := (h a).1 (List.mem_cons_self ..)
      have h2 := (h b).2 (List.mem_cons_self ..)
      rcases List.mem_cons.1 h1 with e | h1
      · exact e
      · rcases List.mem_cons.1 h2 with e | h2
        · exact e.symm
        · exact (ht _ _ (hl.1 _ h2) (hm.1 _ h1)).elim
    subst hab
    rw [eq_of_order hi ht hl.2 hm.2 fun c => ⟨fun hc => ?_, fun hc => ?_⟩]
    · rcases List.mem_cons.1 ((h c).1 (List.mem_cons_of_mem _ hc)) with e | h3
      · subst e; exact absurd (hl.1 _ hc) (hi _)
      · exact h3
    · rcases List.mem_cons.1 ((h c).2 (List.mem_cons_of_mem _ hc)) with e | h3
      · subst e; exact absurd (hm.1 _ hc) (hi _)
      · exact h3

/-- The open pitch of a course by its number. -/
def pch (cs : List Crs) (a : Int) : Int := (cs.getD (a.toNat - 1) default).p
def Hig (cs : List Crs) (a b : Int) : Prop := pch cs b < pch cs a ∨ (pch cs a = pch cs b ∧ a < b)
theorem Hig.irr (cs : List Crs) (a : Int) : ¬ Hig cs a a := by unfold Hig; omega
theorem Hig.asy (cs : List Crs) (a b : Int) (h : Hig cs a b) (h' : Hig cs b a) : False := by unfold Hig at h h'; omega
/-- The courses in their order, as far as the first k go. -/
def Ranked (cs : List Crs) (k : Nat) (l : List Int) : Prop := l.length = k ∧ l.Pairwise (Hig cs) ∧ ∀ a, a ∈ l ↔ 1 ≤ a ∧ a ≤ k
theorem Ranked.eq {cs : List Crs} {k : Nat} {l m : List Int} (h : Ranked cs k l) (h' : m.Pairwise (Hig cs)) (h2 : ∀ a, a ∈ m ↔ 1 ≤ a ∧ a ≤ k) : l = m :=
  eq_of_order (Hig.irr cs) (Hig.asy cs) h.2.1 h' fun a => (h.2.2 a).trans (h2 a).symm
theorem Ranked.put {cs : List Crs} {k : Nat} {x y : List Int} (h : Ranked cs k (x ++ y)) (hy : ∀ a ∈ y, pch cs a < pch cs ((k : Int) + 1)) (hx : x = [] ∨ ∃ z a, x = z ++ [a] ∧ pch cs ((k : Int) + 1) ≤ pch cs a) : Ranked cs (k + 1) (x ++ ((k : Int) + 1) :: y) := by
  obtain ⟨h1, h2, h3⟩ := h
  have hxs : ∀ a ∈ x, pch cs ((k : Int) + 1) ≤ pch cs a := by
    rcases hx with rfl | ⟨z, b, rfl, hb⟩
    · intro a ha; cases ha
    · intro a ha
      rcases List.mem_append.1 ha with ha | ha
      · rw [List.pairwise_append, List.pairwise_append] at h2
        have := h2.1.2.2 a ha b (List.mem_cons_self ..)
        unfold Hig at this
        omega
      · rw [List.mem_singleton] at ha; subst ha; exact hb
  rw [List.pairwise_append] at h2
  refine ⟨by simp at h1 ⊢; omega, ?_, fun a => ?_⟩
  · rw [List.pairwise_append]
    refine ⟨h2.1, ?_, fun a ha b hb => ?_⟩
    · rw [List.pairwise_cons]
      exact ⟨fun b hb => .inl (hy b hb), h2.2.1⟩
    · rcases List.mem_cons.1 hb with rfl | hb
      · have h4 := (h3 a).1 (List.mem_append_left _ ha)
        have h5 := hxs a ha
        unfold Hig
        omega
      · exact h2.2.2 a ha b hb
  · have h4 := h3 a
    rw [List.mem_append] at h4
    rw [List.mem_append, List.mem_cons]
    constructor
    · rintro (h | h | h)
      · have := h4.1 (.inl h); omega
      · omega
      · have := h4.1 (.inr h); omega
    · intro h
      by_cases e : a = (k : Int) + 1
      · exact .inr (.inl e)
      · rcases h4.2 (by omega) with h | h
        · exact .inl h
        · exact .inr (.inr h)

/-- The courses of one pitch, among the first m. -/
def eqTo (cs : List Crs) (p : Int) : Nat → List Int
  | 0 => []
  | m + 1 => if pch cs ((m : Int) + 1) = p then eqTo cs p m ++ [(m : Int) + 1] else eqTo cs p m
theorem eqTo_mem {cs : List Crs} {p : Int} : ∀ {m : Nat} {a : Int}, a ∈ eqTo cs p m ↔ 1 ≤ a ∧ a ≤ m ∧ pch cs a = p
  | 0, a => by simp [eqTo]; omega
  | m + 1, a => by
    have ih := eqTo_mem (cs := cs) (p := p) (m := m) (a := a)
    rw [eqTo]
    split
    · rename_i h
      rw [List.mem_append, List.mem_singleton, ih]
      constructor
      · rintro (⟨h1, h2, h3⟩ | h1)
        · exact ⟨h1, by omega, h3⟩
        · subst h1; exact ⟨by omega, by omega, h⟩
      · rintro ⟨h1, h2, h3⟩
        by_cases e : a = (m : Int) + 1
        · exact .inr e
        · exact .inl ⟨h1, by omega, h3⟩
    · rename_i h
      rw [ih]
      constructor
      · rintro ⟨h1, h2, h3⟩; exact ⟨h1, by omega, h3⟩
      · rintro ⟨h1, h2, h3⟩
        refine ⟨h1, ?_, h3⟩
        rcases Int.lt_or_le (m : Int) a with h4 | h4
        · have : a = (m : Int) + 1 := by omega
          subst this; exact absurd h3 h
        · exact h4
theorem eqTo_up {cs : List Crs} {p : Int} : ∀ {m : Nat}, (eqTo cs p m).Pairwise (Hig cs)
  | 0 => by simp [eqTo]
  | m + 1 => by
    rw [eqTo]
    split
    · rename_i h
      rw [List.pairwise_append]
      refine ⟨eqTo_up, by simp, fun a ha b hb => ?_⟩
      rw [List.mem_singleton] at hb
      have := eqTo_mem.1 ha
      subst hb
      unfold Hig
      omega
    · exact eqTo_up
theorem eqTo_le {cs : List Crs} {p : Int} : ∀ m : Nat, (eqTo cs p m).length ≤ m
  | 0 => Nat.le_refl _
  | m + 1 => by
    have := eqTo_le (cs := cs) (p := p) m
    rw [eqTo]
    split
    · simp; omega
    · omega
/-- Of the pitches from 127 down, j have been looked at. -/
def rkTo (cs : List Crs) : Nat → List Int
  | 0 => []
  | j + 1 => rkTo cs j ++ eqTo cs (127 - (j : Int)) cs.length
theorem rkTo_mem {cs : List Crs} : ∀ {j : Nat} {a : Int}, a ∈ rkTo cs j ↔ 1 ≤ a ∧ a ≤ cs.length ∧ 127 - (j : Int) < pch cs a ∧ pch cs a ≤ 127
  | 0, a => by simp [rkTo]; try omega
  | j + 1, a => by
    rw [rkTo, List.mem_append, rkTo_mem, eqTo_mem]
    omega
theorem rkTo_up {cs : List Crs} : ∀ {j : Nat}, (rkTo cs j).Pairwise (Hig cs)
  | 0 => by simp [rkTo]
  | j + 1 => by
    rw [rkTo, List.pairwise_append]
    refine ⟨rkTo_up, eqTo_up, fun a ha b hb => ?_⟩
    have h1 := rkTo_mem.1 ha
    have h2 := eqTo_mem.1 hb
    unfold Hig
    omega
theorem rkTo_le {cs : List Crs} : ∀ j : Nat, (rkTo cs j).length ≤ j * cs.length
  | 0 => by simp [rkTo]
  | j + 1 => by
    have := rkTo_le (cs := cs) j
    have h2 := eqTo_le (cs := cs) (p := 127 - (j : Int)) cs.length
    rw [rkTo, List.length_append, Nat.add_mul]
    omega
theorem rank_eq {cs : List Crs} {l : List Int} (h : Ranked cs cs.length l) (hp : ∀ k : Nat, k < cs.length → 0 ≤ (cs.getD k default).p ∧ (cs.getD k default).p ≤ 127) : l = rkTo cs 128 :=
  h.eq rkTo_up fun a => by
    rw [rkTo_mem]
    constructor
    · rintro ⟨h1, h2, _, _⟩; exact ⟨h1, h2⟩
    · rintro ⟨h1, h2⟩
      have := hp (a.toNat - 1) (by omega)
      unfold pch
      omega
end Go.Proofs.YtbdhjpdjbogggaaDoor
