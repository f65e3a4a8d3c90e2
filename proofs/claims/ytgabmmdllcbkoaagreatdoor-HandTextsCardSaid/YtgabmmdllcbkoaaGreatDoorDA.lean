/- The text of grips, in plain terms: written, and read back. Nothing is run here. -/
import Derived.Test.YtgabmmdllcbkoaaGreatDoorGB
import Derived.Test.YtgabmmdllcbkoaaGreatDoorShelf
set_option linter.unusedSimpArgs false
set_option linter.unusedVariables false
namespace Go.Proofs.YtgabmmdllcbkoaaGreatDoor
open Go.RowKit

/-- The text of a grip, and of grips. -/
def fgx (f : Int) : List UInt8 := 32 :: Lib.itoa f
def gtx (g : Grip) : List UInt8 := Lib.itoa g.pos ++ g.fingers.flatMap fgx ++ [10]
def wtx (l : List Grip) : List UInt8 := l.flatMap gtx
/-- What can be written. -/
def okF (f : Int) : Prop := 1 ≤ f ∧ f ≤ 4
def okW (g : Grip) : Prop := (1 ≤ g.pos ∧ g.pos ≤ 18) ∧ g.fingers.length ≤ 14 ∧ ∀ f ∈ g.fingers, okF f
instance (f : Int) : Decidable (okF f) := by unfold okF; infer_instance
instance (g : Grip) : Decidable (okW g) := by unfold okW; infer_instance
def allW (l : List Grip) : Prop := ∀ g ∈ l, okW g
instance (l : List Grip) : Decidable (allW l) := by unfold allW; infer_instance
/-- What Write answers. -/
def wrR (l : List Grip) : List UInt8 × Int := if 400 < l.length then ([], 2) else if allW l then (wtx l, 0) else ([], 61)

/-! ### Texts cut at a byte -/
def splitC (c : UInt8) : List UInt8 → List (List UInt8)
  | [] => [[]]
  | x :: r => if x = c then [] :: splitC c r else match splitC c r with
    | h :: t => (x :: h) :: t
    | [] => [[x]]

theorem splitC_ne (c : UInt8) (l : List UInt8) : splitC c l ≠ [] := by
  cases l with
  | nil => simp [splitC]
  | cons x r =>
    simp only [splitC]
    split
    · simp
    · split <;> simp

theorem splitC_miss (c : UInt8) : ∀ l : List UInt8, Lib.indexByte l c = -1 → splitC c l = [l]
  | [], _ => rfl
  | x :: r, h => by
    simp only [Lib.indexByte] at h
    by_cases hx : x = c
    · subst hx; simp at h
    · have hx' : (x == c) = false := by simpa using hx
      have hge := Lib.indexByte_ge r c
      simp only [hx'] at h
      by_cases hr : Lib.indexByte r c = -1
      · simp only [splitC, if_neg hx, splitC_miss c r hr]
      · simp [hr] at h; omega

theorem splitC_hit (c : UInt8) : ∀ (l : List UInt8) (i : Nat), Lib.indexByte l c = (i : Int) → splitC c l = l.take i :: splitC c (l.drop (i + 1))
  | [], i, h => by simp only [Lib.indexByte] at h; omega
  | x :: r, i, h => by
    simp only [Lib.indexByte] at h
    by_cases hx : x = c
    · subst hx
      simp at h
      obtain rfl : i = 0 := by omega
      simp [splitC]
    · have hx' : (x == c) = false := by simpa using hx
      have hge := Lib.indexByte_ge r c
      simp only [hx'] at h
      by_cases hr : Lib.indexByte r c = -1
      · simp [hr] at h
        try omega
      · simp [hr] at h
        obtain ⟨j, rfl⟩ : ∃ j, i = j + 1 := ⟨i - 1, by omega⟩
        have := splitC_hit c r j (by omega)
        simp only [splitC, if_neg hx, this, List.take_succ_cons, List.drop_succ_cons]

theorem splitK_C (c : UInt8) : ∀ (n : Nat) (l : List UInt8), l.length ≤ n → Lib.splitK [c] 0 (Lib.count l [c]) l = splitC c l := by
  intro n
  induction n with
  | zero =>
    intro l hl
    have : l = [] := List.eq_nil_of_length_eq_zero (by omega)
    subst this
    rfl
  | succ n ih =>
    intro l hl
    have hge := Lib.indexByte_ge l c
    by_cases hm : Lib.indexByte l c = -1
    · rw [splitC_miss c l hm, Lib.count_miss (by rw [Lib.index_one, hm])]
      rfl
    · obtain ⟨i, hi⟩ : ∃ i : Nat, Lib.indexByte l c = (i : Int) := ⟨(Lib.indexByte l c).toNat, by omega⟩
      have hi' : Lib.index l [c] = (i : Int) := by rw [Lib.index_one, hi]
      have hlen : l ≠ [] := by rintro rfl; simp only [Lib.indexByte] at hi; omega
      rw [splitC_hit c l i hi, Lib.count_hit (by simp) hi', Nat.add_comm]
      have hne : ¬ ((i : Int) == -1) = true := by simp
      simp only [Lib.splitK, hi', if_neg hne, Int.toNat_natCast, Nat.add_zero, List.length_singleton]
      rw [ih (l.drop (i + 1)) (by
        have : 0 < l.length := List.length_pos_iff.2 hlen
        simp only [List.length_drop]; omega)]

theorem split_eq (c : UInt8) (s : ByteArray) : (Lib.splitB ⟨#[c]⟩ 0 (Lib.countB s ⟨#[c]⟩) s).map (·.data.toList) = splitC c s.data.toList := by
  rw [Lib.splitB_data]
  exact splitK_C c _ _ (Nat.le_refl _)

theorem splitC_len (c : UInt8) : ∀ l : List UInt8, (splitC c l).length ≤ l.length + 1
  | [] => by simp [splitC]
  | x :: r => by
    have := splitC_len c r
    have h := splitC_ne c r
    simp only [splitC]
    split
    · simp; omega
    · split
      · rename_i h t e; rw [e] at this; simp at this ⊢; omega
      · simp
theorem splitC_part (c : UInt8) : ∀ (l : List UInt8), ∀ x ∈ splitC c l, x.length ≤ l.length
  | [], x, hx => by simp [splitC] at hx; simp [hx]
  | y :: r, x, hx => by
    have ih := splitC_part c r
    simp only [splitC] at hx
    split at hx
    · rcases List.mem_cons.1 hx with rfl | hx
      · simp
      · have := ih x hx; simp; omega
    · split at hx
      · rename_i h t e
        rcases List.mem_cons.1 hx with rfl | hx
        · have := ih h (by rw [e]; simp); simp; omega
        · have := ih x (by rw [e]; simp [hx]); simp; omega
      · simp at hx; simp [hx]
theorem splitC_self (c : UInt8) : ∀ u : List UInt8, c ∉ u → splitC c u = [u]
  | [], _ => rfl
  | x :: u, h => by
    have hx : x ≠ c := fun e => h (by simp [e])
    have := splitC_self c u (fun e => h (by simp [e]))
    rw [splitC, if_neg hx, this]
theorem splitC_cons (c : UInt8) (r : List UInt8) : ∀ u : List UInt8, c ∉ u → splitC c (u ++ c :: r) = u :: splitC c r
  | [], _ => by rw [List.nil_append, splitC, if_pos rfl]
  | x :: u, h => by
    have hx : x ≠ c := fun e => h (by simp [e])
    have := splitC_cons c r u (fun e => h (by simp [e]))
    rw [List.cons_append, splitC, if_neg hx, this]
/-! ### Numerals -/
theorem it_fin : ∀ n : Fin 19, (Lib.itoa (n.val : Int)).length ≤ 2 ∧ 0 < (Lib.itoa (n.val : Int)).length ∧ ¬ (10 : UInt8) ∈ Lib.itoa (n.val : Int) ∧ ¬ (32 : UInt8) ∈ Lib.itoa (n.val : Int) ∧ Lib.atoiAll (Lib.itoa (n.val : Int)) = .ok (n.val : Int) ∧ Lib.itoa (n.val : Int) = Lib.decDigits n.val := by decide +kernel
theorem it_at {f : Int} (h0 : 0 ≤ f) (h1 : f ≤ 18) : (Lib.itoa f).length ≤ 2 ∧ 0 < (Lib.itoa f).length ∧ ¬ (10 : UInt8) ∈ Lib.itoa f ∧ ¬ (32 : UInt8) ∈ Lib.itoa f ∧ Lib.atoiAll (Lib.itoa f) = .ok f ∧ Lib.itoa f = Lib.decDigits f.toNat := by
  obtain ⟨n, rfl⟩ : ∃ n : Nat, f = n := ⟨f.toNat, by omega⟩
  exact it_fin ⟨n, by omega⟩
theorem it_inj {a b : Int} (ha : 0 ≤ a ∧ a ≤ 18) (hb : 0 ≤ b ∧ b ≤ 18) (h : Lib.itoa a = Lib.itoa b) : a = b := by
  have h1 := (it_at ha.1 ha.2).2.2.2.2.1
  have h2 := (it_at hb.1 hb.2).2.2.2.2.1
  rw [h, h2] at h1
  injection h1 with h1; exact h1.symm
end Go.Proofs.YtgabmmdllcbkoaaGreatDoor
