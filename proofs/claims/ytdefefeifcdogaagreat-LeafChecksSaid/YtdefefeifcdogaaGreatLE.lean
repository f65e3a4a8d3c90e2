/- How many readings a column has, by the reference. -/
import Derived.Test.YtdefefeifcdogaaGreatLD
namespace Go.Proofs.YtdefefeifcdogaaGreat
open Go.RowKit
set_option linter.unusedSimpArgs false
set_option linter.unusedVariables false

/-- The number of readings of the first cells, at most 1001. -/
def manyK (c : Clm) : Nat → Nat
  | 0 => min c.sgs.length 1001
  | k + 1 => min (manyK c k * (c.ce.getD k []).length) 1001
theorem manyK_le (c : Clm) : ∀ k, manyK c k ≤ 1001
  | 0 => Nat.min_le_right _ _
  | k + 1 => Nat.min_le_right _ _
def manyC (c : Clm) : Nat := manyK c c.ce.length
theorem min_int (a b : Nat) : (if (b : Int) < (a : Int) then (b : Int) else (a : Int)) = ((min a b : Nat) : Int) := by
  by_cases h : b < a
  · rw [if_pos (by omega), Nat.min_eq_right (by omega)]
  · rw [if_neg (by omega), Nat.min_eq_left (by omega)]
theorem many_fn (c : Clm) (hs : ClmSm c) : Fn Tryz.prog Gd 79 [c.val] (vint (manyC c)) := by
  refine Fn.of_vx0 k_theorboref10_many (by simp) (by rw [V.pures, pure_clm]; rfl) ?_
  have hls := hs.ls
  have hlc := hs.lc
  have hle := Hid.mk hs.le
  unfold c_theorboref10_many
  have m0 : (if (1001 : Int) < (c.sgs.length : Int) then (1001 : Int) else (c.sgs.length : Int)) = ((manyK c 0 : Nat) : Int) := min_int c.sgs.length 1001
  clear hs
  repeat' (with_reducible first | refine x_ops ?_ | refine wk ?_ | ((first | refine gd1 ?_ ?_ | refine gd2 ?_ ?_ | refine gd3 ?_ ?_) <;> (first | exact @False.elim _ | intro hc)))
  refine x_loopF w_theorboref10_many_p3 kr c.ce.length (fun k t => t 4 = vint k ∧ t 3 = vint (manyK c k)) ?_ ?_
  · exact ⟨vv, vw⟩
  clear m0
  rintro k t hk ⟨h4, h3⟩
  by_cases hlt : k < c.ce.length
  · have g1 := iss_at (l := c.ce) (k := k) hlt
    have c1 : (k : Int) < (c.ce.length : Int) := by omega
    have w2 := w_add1 (k := k) (by omega)
    have h5 := manyK_le c k
    have h6 := hle.out k hlt
    have h7 : manyK c k * (c.ce.getD k []).length ≤ 1001 * 17592186044416 := Nat.mul_le_mul h5 h6
    have w3 : IntKind.i64.wrap (((manyK c k : Nat) : Int) * (((c.ce.getD k []).length : Nat) : Int)) = ((manyK c k * (c.ce.getD k []).length : Nat) : Int) := by rw [w_in (by rw [← Int.natCast_mul]; omega), Int.natCast_mul]
    have m1 : (if (1001 : Int) < ((manyK c k * (c.ce.getD k []).length : Nat) : Int) then (1001 : Int) else ((manyK c k * (c.ce.getD k []).length : Nat) : Int)) = ((manyK c (k + 1) : Nat) : Int) := min_int _ 1001
    have hlt0 := Hid.mk hlt
    generalize hz : manyK c (k + 1) = z at *
    replace hz := Hid.mk hz
    generalize manyK c k * (c.ce.getD k []).length = y at *
    clear hlt hk h5 h6 h7
    repeat' (with_reducible first | refine x_ops ?_ | refine wk ?_ | ((first | refine gd1 ?_ ?_ | refine gd2 ?_ ?_ | refine gd3 ?_ ?_) <;> (first | exact @False.elim _ | intro hc)))
    refine nf hlt0.out ⟨vv, ?_⟩ rfl
    rw [hz.out]
    exact vw
  · have c1 : ¬ ((k : Int) < (c.ce.length : Int)) := by omega
    have hkl : k = c.ce.length := by omega
    subst hkl
    clear hlt hk
    repeat' (with_reducible first | refine x_ops ?_ | refine wk ?_ | ((first | refine gd1 ?_ ?_ | refine gd2 ?_ ?_ | refine gd3 ?_ ?_) <;> (first | exact @False.elim _ | intro hc)))
    exact finV_lit vv rfl
/-- All rows of one number of each of the first cells, in order. -/
def crsK (ce : List (List Int)) : Nat → List (List Int)
  | 0 => [[]]
  | k + 1 => (crsK ce k).flatMap fun r => (ce.getD k []).map fun n => r ++ [n]
/-- The readings of a column, in order. -/
def rdgs (c : Clm) : List Rdg := c.sgs.flatMap fun s => (crsK c.ce c.ce.length).map fun r => ⟨s, r⟩
end Go.Proofs.YtdefefeifcdogaaGreat
