/- Plain laws on texts: splitting at one byte. -/
import Derived.Test.YtbdhjpdjbogggaaDoorBase
import Derived.Test.YtbdhjpdjbogggaaDoorShelf
namespace Go.Proofs.YtbdhjpdjbogggaaDoor
open Go.RowKit

def splitC (c : UInt8) : List UInt8 → List (List UInt8)
  | [] => [[]]
  | x :: r => if x = c then [] :: splitC c r else match splitC c r with
    | h :: t => (x :: h) :: t
    | [] => [[x]]

theorem splitC_ne (c : UInt8) (l : List UInt8) : splitC c l ≠ [] := by
  cases l with
  | nil => simp [splitC]
  | cons x r =>
    simp only [splitC]
    split
    · simp
    · split <;> simp

theorem splitC_miss (c : UInt8) : ∀ l : List UInt8, Lib.indexByte l c = -1 → splitC c l = [l]
  | [], _ => rfl
  | x :: r, h => by
    simp only [Lib.indexByte] at h
    by_cases hx : x = c
    · subst hx; simp at h
    · have hx' : (x == c) = false := by simpa using hx
      have hge := Lib.indexByte_ge r c
      simp only [hx'] at h
      by_cases hr : Lib.indexByte r c = -1
      · simp only [splitC, if_neg hx, splitC_miss c r hr]
      · simp [hr] at h; omega

theorem splitC_hit (c : UInt8) : ∀ (l : List UInt8) (i : Nat), Lib.indexByte l c = (i : Int) → splitC c l = l.take i :: splitC c (l.drop (i + 1))
  | [], i, h => by simp only [Lib.indexByte] at h; omega
  | x :: r, i, h => by
    simp only [Lib.indexByte] at h
    by_cases hx : x = c
    · subst hx
      simp at h
      obtain rfl : i = 0 := by omega
      simp [splitC]
    · have hx' : (x == c) = false := by simpa using hx
      have hge := Lib.indexByte_ge r c
      simp only [hx'] at h
      by_cases hr : Lib.indexByte r c = -1
      · simp [hr] at h
        try omega
      · simp [hr] at h
        obtain ⟨j, rfl⟩ : ∃ j, i = j + 1 := ⟨i - 1, by omega⟩
        have := splitC_hit c r j (by omega)
        simp only [splitC, if_neg hx, this, List.take_succ_cons, List.drop_succ_cons]

theorem splitK_C (c : UInt8) : ∀ (n : Nat) (l : List UInt8), l.length ≤ n → Lib.splitK [c] 0 (Lib.count l [c]) l = splitC c l := by
  intro n
  induction n with
  | zero =>
    intro l hl
    have : l = [] := List.eq_nil_of_length_eq_zero (by omega)
    subst this
    rfl
  | succ n ih =>
    intro l hl
    have hge := Lib.indexByte_ge l c
    by_cases hm : Lib.indexByte l c = -1
    · rw [splitC_miss c l hm, Lib.count_miss (by rw [Lib.index_one, hm])]
      rfl
    · obtain ⟨i, hi⟩ : ∃ i : Nat, Lib.indexByte l c = (i : Int) := ⟨(Lib.indexByte l c).toNat, by omega⟩
      have hi' : Lib.index l [c] = (i : Int) := by rw [Lib.index_one, hi]
      have hlen : l ≠ [] := by rintro rfl; simp only [Lib.indexByte] at hi; omega
      rw [splitC_hit c l i hi, Lib.count_hit (by simp) hi', Nat.add_comm]
      have hne : ¬ ((i : Int) == -1) = true := by simp
      simp only [Lib.splitK, hi', if_neg hne, Int.toNat_natCast, Nat.add_zero, List.length_singleton]
      rw [ih (l.drop (i + 1)) (by
        have : 0 < l.length := List.length_pos_iff.2 hlen
        simp only [List.length_drop]; omega)]

theorem split_eq (c : UInt8) (s : ByteArray) : (Lib.splitB ⟨#[c]⟩ 0 (Lib.countB s ⟨#[c]⟩) s).map (·.data.toList) = splitC c s.data.toList := by
  rw [Lib.splitB_data]
  exact splitK_C c _ _ (Nat.le_refl _)

theorem splitC_len (c : UInt8) : ∀ l : List UInt8, (splitC c l).length ≤ l.length + 1
  | [] => by simp [splitC]
  | x :: r => by
    have := splitC_len c r
    have h := splitC_ne c r
    simp only [splitC]
    split
    · simp; omega
    · split
      · rename_i h t e; rw [e] at this; simp at this ⊢; omega
      · simp
theorem splitC_part (c : UInt8) : ∀ (l : List UInt8), ∀ x ∈ splitC c l, x.length ≤ l.length
  | [], x, hx => by simp [splitC] at hx; simp [hx]
  | y :: r, x, hx => by
    have ih := splitC_part c r
    simp only [splitC] at hx
    split at hx
    · rcases List.mem_cons.1 hx with rfl | hx
      · simp
      · have := ih x hx; simp; omega
    · split at hx
      · rename_i h t e
        rcases List.mem_cons.1 hx with rfl | hx
        · have := ih h (by rw [e]; simp); simp; omega
        · have := ih x (by rw [e]; simp [hx]); simp; omega
      · simp at hx; simp [hx]

/-- The place of the first word that is x; the length, if there is none. -/
def ixOf (x : List UInt8) : List (List UInt8) → Nat
  | [] => 0
  | y :: r => if y = x then 0 else ixOf x r + 1
theorem ixOf_le (x : List UInt8) : ∀ l, ixOf x l ≤ l.length
  | [] => Nat.le_refl _
  | y :: r => by have := ixOf_le x r; simp only [ixOf]; split <;> simp; omega
theorem data_inj {a b : ByteArray} (h : a.data.toList = b.data.toList) : a = b := by
  cases a; cases b; simpa using h
theorem idxOfS_eq (x : ByteArray) (zs : List ByteArray) : Lib.idxOfS zs x = if ixOf x.data.toList (zs.map (·.data.toList)) < zs.length then (ixOf x.data.toList (zs.map (·.data.toList)) : Int) else -1 := by
  have h : ∀ (zs : List ByteArray) (i : Nat), Lib.idxFromS zs x i = if ixOf x.data.toList (zs.map (·.data.toList)) < zs.length then ((i + ixOf x.data.toList (zs.map (·.data.toList)) : Nat) : Int) else -1 := by
    intro zs
    induction zs with
    | nil => intro i; simp [Lib.idxFromS, ixOf]
    | cons z zs ih =>
      intro i
      simp only [Lib.idxFromS, List.map_cons, ixOf, List.length_cons]
      by_cases hz : z = x
      · subst hz; simp
      · have hz' : ¬ z.data.toList = x.data.toList := fun e => hz (data_inj e)
        rw [if_neg hz', if_neg hz, ih (i + 1)]
        by_cases hlt : ixOf x.data.toList (zs.map (·.data.toList)) < zs.length
        · rw [if_pos hlt, if_pos (by omega)]; omega
        · rw [if_neg hlt, if_neg (by omega)]
  have := h zs 0
  rw [Lib.idxOfS, this]
  simp
end Go.Proofs.YtbdhjpdjbogggaaDoor
