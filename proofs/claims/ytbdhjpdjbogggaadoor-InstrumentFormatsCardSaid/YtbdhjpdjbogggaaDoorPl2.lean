/- Plain: the word of a course, as the reference reads it. -/
import Derived.Test.YtbdhjpdjbogggaaDoorW6
namespace Go.Proofs.YtbdhjpdjbogggaaDoor
open Go.RowKit

def ixC (c : UInt8) (l : List UInt8) : Nat := l.findIdx (fun x => x == c)
theorem ixC_le (c : UInt8) (l : List UInt8) : ixC c l ≤ l.length := List.findIdx_le_length
theorem ixC_cons (c b : UInt8) (l : List UInt8) : ixC c (b :: l) = if b = c then 0 else ixC c l + 1 := by
  unfold ixC
  rw [List.findIdx_cons]
  by_cases h : b = c
  · simp [h]
  · have : (b == c) = false := by simpa using h
    simp [h, this]
theorem index_ix (c : UInt8) : ∀ l : List UInt8, Lib.index l [c] = if ixC c l < l.length then (ixC c l : Int) else -1
  | [] => rfl
  | b :: l => by
    have ih := index_ix c l
    have hp : [c].isPrefixOf (b :: l) = (c == b) := by simp [List.isPrefixOf]
    simp only [Lib.index, hp, ixC_cons]
    by_cases h : b = c
    · subst h; simp
    · have hcb : (c == b) = false := by simpa using fun e => h e.symm
      simp only [hcb, if_neg h, ih]
      by_cases h2 : ixC c l < l.length
      · have : ((ixC c l : Int) == -1) = false := by simp
        simp [h2, this]
      · simp [h2]
theorem cut_ix (c : UInt8) (l : List UInt8) : Lib.cut l [c] = if ixC c l < l.length then (l.take (ixC c l), l.drop (ixC c l + 1), true) else (l, [], false) := by
  unfold Lib.cut
  rw [index_ix]
  by_cases h : ixC c l < l.length
  · simp [h]
  · simp [h]
theorem ixC_snoc (c x : UInt8) (u : List UInt8) (hx : x ≠ c) : ixC c (u ++ [x]) = if ixC c u < u.length then ixC c u else u.length + 1 := by
  induction u with
  | nil => simp [ixC, hx]
  | cons b u ih =>
    rw [List.cons_append, ixC_cons, ixC_cons, ih]
    by_cases h : b = c
    · simp [h]
    · by_cases h2 : ixC c u < u.length <;> simp [h, h2]
theorem suffix_snoc (l : List UInt8) (x : UInt8) : Lib.hasSuffix (l ++ [x]) [x] = true := by
  unfold Lib.hasSuffix
  rw [List.isSuffixOf_iff_suffix]
  exact List.suffix_append _ _
theorem suffix_last (l : List UInt8) (x : UInt8) (h : l.getLast? ≠ some x) : Lib.hasSuffix l [x] = false := by
  rw [Bool.eq_false_iff]
  intro hs
  unfold Lib.hasSuffix at hs
  rw [List.isSuffixOf_iff_suffix] at hs
  obtain ⟨p, hp⟩ := hs
  exact h (by rw [← hp]; simp)

/-- The reference's way: the sign at the end first, then the stroke. -/
def rcsT (u : List UInt8) (o : Bool) : Int × Crs :=
  if ixC 47 u = u.length then (4, crsZ)
  else if pnE (u.take (ixC 47 u)) = 4 then (4, crsZ)
  else if numOk (u.drop (ixC 47 u + 1)) = false then (4, crsZ)
  else if pnE (u.take (ixC 47 u)) ≠ 0 then (pnE (u.take (ixC 47 u)), crsZ)
  else (0, ⟨pit (pnV (u.take (ixC 47 u))).1 (pnV (u.take (ixC 47 u))).2.1 (pnV (u.take (ixC 47 u))).2.2, numN (u.drop (ixC 47 u + 1)), o⟩)

theorem rcsT_plain (t : List UInt8) (h : t.getLast? ≠ some 43) : rcsT t false = crsOf t := by
  have hle := ixC_le 47 t
  unfold rcsT crsOf
  rw [cut_ix]
  by_cases h1 : ixC 47 t < t.length
  · have h2 : ¬ ixC 47 t = t.length := by omega
    have hl : (t.drop (ixC 47 t + 1)).getLast? ≠ some 43 := by
      rw [List.getLast?_drop]
      split
      · simp
      · exact h
    have hs := suffix_last _ _ hl
    have ht : Lib.trimSuffix (t.drop (ixC 47 t + 1)) [43] = t.drop (ixC 47 t + 1) := by unfold Lib.trimSuffix; rw [hs]; rfl
    simp only [if_pos h1, if_neg h2, ht, hs]
    rfl
  · have h2 : ixC 47 t = t.length := by omega
    simp only [if_neg h1, if_pos h2]
    rfl
theorem rcsT_plus (u : List UInt8) : rcsT u true = crsOf (u ++ [43]) := by
  have hle := ixC_le 47 u
  unfold rcsT crsOf
  rw [cut_ix, ixC_snoc 47 43 u (by decide)]
  by_cases h1 : ixC 47 u < u.length
  · have h2 : ¬ ixC 47 u = u.length := by omega
    have h3 : ixC 47 u < (u ++ [43]).length := by simp; omega
    have e1 : (u ++ [43]).take (ixC 47 u) = u.take (ixC 47 u) := List.take_append_of_le_length (by omega)
    have e2 : (u ++ [43]).drop (ixC 47 u + 1) = u.drop (ixC 47 u + 1) ++ [43] := List.drop_append_of_le_length (by omega)
    have hs := suffix_snoc (u.drop (ixC 47 u + 1)) 43
    have ht : Lib.trimSuffix (u.drop (ixC 47 u + 1) ++ [43]) [43] = u.drop (ixC 47 u + 1) := by
      unfold Lib.trimSuffix
      rw [hs]
      simp
    simp only [if_pos h1, if_neg h2, if_pos h3, e1, e2, ht, hs]
    rfl
  · have h2 : ixC 47 u = u.length := by omega
    have h3 : ¬ u.length + 1 < (u ++ [43]).length := by simp
    simp only [if_neg h1, if_pos h2, if_neg h3]
    rfl
end Go.Proofs.YtbdhjpdjbogggaaDoor
