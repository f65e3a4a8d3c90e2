/- The own cost of a grip, program and reference, on values. -/
import Derived.Test.YtojjdkoglhecbaaK1
namespace Go.Proofs.Ytojjdkoglhecbaa
open Go.RowKit
set_option linter.unusedSimpArgs false
set_option linter.unusedVariables false

/-- The places of the finger number k + 1. -/
def plF (c : Chord) (g : Grip) (k : Nat) : List (Int × Int) := plU c.down g.fingers ((k + 1 : Nat) : Int) c.down.length
def ownT (h : Hand) (c : Chord) (g : Grip) (k : Nat) : Int :=
  if (plF c g k).length = 0 then 0 else (if 1 < (plF c g k).length then h.bar else 0) + h.stretch * dist ((plF c g k).getD 0 (0, 0)).2 (g.pos + ((k + 1 : Nat) : Int) - 1)
def ownU (h : Hand) (c : Chord) (g : Grip) : Nat → Int
  | 0 => 0
  | k + 1 => ownU h c g k + ownT h c g k
/-- The own cost of a grip. -/
def ownC (h : Hand) (c : Chord) (g : Grip) : Int := ownU h c g h.low.length
theorem plF_fret {c : Chord} (hc : ChordOk c) {g : Grip} {k i : Nat} (hi : i < (plF c g k).length) : 1 ≤ ((plF c g k).getD i (0, 0)).2 ∧ ((plF c g k).getD i (0, 0)).2 ≤ 18 := by
  have hm : (plF c g k).getD i (0, 0) ∈ plF c g k := by
    rw [List.getD_eq_getElem?_getD, List.getElem?_eq_getElem hi]; exact List.getElem_mem hi
  obtain ⟨j, h1, _, h3⟩ := plU_mem hm
  have h2 := (hc.each j h1).2
  rw [h3] at h2
  exact h2
theorem dist_bound {a b n : Int} (h1 : a - b ≤ n) (h2 : b - a ≤ n) : dist a b ≤ n := by rw [dist]; split <;> assumption
theorem mul_bound {a b : Int} (ha : 0 ≤ a ∧ a ≤ 1000) (hb : 0 ≤ b ∧ b ≤ 100) : 0 ≤ a * b ∧ a * b ≤ 100000 := by
  refine ⟨Int.mul_nonneg ha.1 hb.1, ?_⟩
  have h1 := Int.mul_le_mul_of_nonneg_right ha.2 hb.1
  omega
theorem ownT_bound {h : Hand} (hk : HandOk h) {c : Chord} (hc : ChordOk c) {g : Grip} (hp : 1 ≤ g.pos ∧ g.pos ≤ 18) {k : Nat} (hkl : k < h.low.length) : 0 ≤ ownT h c g k ∧ ownT h c g k ≤ 101000 := by
  rw [ownT]
  split
  · omega
  · rename_i hl
    have hfr := plF_fret hc (g := g) (k := k) (i := 0) (by omega)
    have n4 := hk.n4
    have hd : 0 ≤ dist ((plF c g k).getD 0 (0, 0)).2 (g.pos + ((k + 1 : Nat) : Int) - 1) ∧ dist ((plF c g k).getD 0 (0, 0)).2 (g.pos + ((k + 1 : Nat) : Int) - 1) ≤ 100 := ⟨dist_le, dist_bound (by omega) (by omega)⟩
    have hm := mul_bound hk.stretch hd
    have hb := hk.bar
    split <;> omega
theorem ownU_bound {h : Hand} (hk : HandOk h) {c : Chord} (hc : ChordOk c) {g : Grip} (hp : 1 ≤ g.pos ∧ g.pos ≤ 18) : ∀ {k : Nat}, k ≤ h.low.length → 0 ≤ ownU h c g k ∧ ownU h c g k ≤ 101000 * k
  | 0, _ => by rw [ownU]; omega
  | k + 1, hkl => by
    have h1 := ownU_bound hk hc hp (k := k) (by omega)
    have h2 := ownT_bound hk hc hp (g := g) (k := k) (by omega)
    rw [ownU]; omega

set_option maxHeartbeats 2000000 in
theorem own_fn (h : Hand) (hk : HandOk h) (c : Chord) (hc : ChordOk c) (hf : FitC c) (g : Grip) (hl : g.fingers.length = c.down.length) (hp : 1 ≤ g.pos ∧ g.pos ≤ 18) : Fn Try.prog Gd 81 [h.val, c.val, g.val] (vint (ownC h c g)) := by
  refine Fn.of_vx0 k_hand_own (by simp) (by rw [V.pures, pure_hand, V.pures, pure_chord, V.pures, pure_grip]; rfl) ?_
  have n4 := hk.n4
  have PL := fun v => places_fn c hf g hl v
  unfold Chord.val Chord.cells Grip.val Grip.cells at PL
  unfold c_hand_own Hand.val Chord.val Chord.cells Grip.val Grip.cells
  replace hl := Hid.mk hl
  replace hp := Hid.mk hp
  repeat' (with_reducible first | refine x_ops ?_ | refine wk ?_ | ((first | refine gd1 ?_ ?_ | refine gd2 ?_ ?_ | refine gd3 ?_ ?_) <;> (first | exact @False.elim _ | intro hc)))
  refine x_loopF w_hand_own_p7 (by kernel_rfl) h.low.length (fun k t => t 8 = vint ((k + 1 : Nat) : Int) ∧ t 7 = vint (ownU h c g k)) ?_ ?_
  · exact ⟨vv, vv⟩
  rintro k t hkk ⟨h8, h7⟩
  by_cases hlt : k < h.low.length
  · have c1 : ((k + 1 : Nat) : Int) ≤ (h.low.length : Int) := by omega
    have w1 : IntKind.i64.wrap (((k + 1 : Nat) : Int) + 1) = ((k + 1 + 1 : Nat) : Int) := w_add1 (by omega)
    have P1 := PL ((k + 1 : Nat) : Int)
    have eP : plU c.down g.fingers ((k + 1 : Nat) : Int) c.down.length = plF c g k := rfl
    rw [eP] at P1
    have b1 := ownU_bound hk hc hp.out (g := g) (k := k) (by omega)
    have b2 := ownU_bound hk hc hp.out (g := g) (k := k + 1) (by omega)
    have hU : ownU h c g (k + 1) = ownU h c g k + ownT h c g k := rfl
    have hT : ownT h c g k = if (plF c g k).length = 0 then 0 else (if 1 < (plF c g k).length then h.bar else 0) + h.stretch * dist ((plF c g k).getD 0 (0, 0)).2 (g.pos + ((k + 1 : Nat) : Int) - 1) := rfl
    by_cases hz : (plF c g k).length = 0
    · rw [if_pos hz] at hT
      replace hU : Hid (ownU h c g (k + 1) = ownU h c g k) := ⟨by rw [hU, hT]; omega⟩
      have e1 : (((plF c g k).length : Int) == 0) = true := by rw [hz]; rfl
      clear hT b1 b2 eP hz PL
      repeat' (with_reducible first | refine x_ops ?_ | refine wk ?_ | (with_reducible refine xc (P1) ?_) | ((first | refine gd1 ?_ ?_ | refine gd2 ?_ ?_ | refine gd3 ?_ ?_) <;> (first | exact @False.elim _ | intro hc)))
      exact nf (by omega) ⟨vv, by rw [hU.out]; exact vw⟩ rfl
    · rw [if_neg hz] at hT
      have e1 : (((plF c g k).length : Int) == 0) = false := by simp; exact fun h => hz (by rw [h]; rfl)
      have hfr := plF_fret hc (g := g) (k := k) (i := 0) (by omega)
      have hp1 := hp.out
      have hst := hk.stretch
      have hbr := hk.bar
      have g1 := pls_at1 (l := plF c g k) (k := 0) (by omega)
      have g2 := pls_len (plF c g k)
      have c2 : (0 : Int) < ((plF c g k).length : Int) := by omega
      have D1 := distance_fn ((plF c g k).getD 0 (0, 0)).2 (g.pos + ((k + 1 : Nat) : Int) - 1) (by omega)
      have hd : 0 ≤ dist ((plF c g k).getD 0 (0, 0)).2 (g.pos + ((k + 1 : Nat) : Int) - 1) ∧ dist ((plF c g k).getD 0 (0, 0)).2 (g.pos + ((k + 1 : Nat) : Int) - 1) ≤ 100 := ⟨dist_le, dist_bound (by omega) (by omega)⟩
      have hm := mul_bound hst hd
      have w2 : IntKind.i64.wrap (g.pos + ((k + 1 : Nat) : Int)) = g.pos + ((k + 1 : Nat) : Int) := w_in (by omega)
      have w3 : IntKind.i64.wrap (g.pos + ((k + 1 : Nat) : Int) - 1) = g.pos + ((k + 1 : Nat) : Int) - 1 := w_in (by omega)
      generalize dist ((plF c g k).getD 0 (0, 0)).2 (g.pos + ((k + 1 : Nat) : Int) - 1) = dd at D1 hT hd hm
      have w4 : IntKind.i64.wrap (h.stretch * dd) = h.stretch * dd := w_in (by omega)
      rw [Nat.zero_mul, Nat.zero_add] at g1
      by_cases hone : 1 < (plF c g k).length
      · rw [if_pos hone] at hT
        have c3 : (1 : Int) < ((plF c g k).length : Int) := by omega
        have w5 : IntKind.i64.wrap (ownU h c g k + h.bar) = ownU h c g k + h.bar := w_in (by omega)
        have w6 : IntKind.i64.wrap (ownU h c g k + h.bar + h.stretch * dd) = ownU h c g k + h.bar + h.stretch * dd := w_in (by omega)
        replace hU : Hid (ownU h c g (k + 1) = ownU h c g k + h.bar + h.stretch * dd) := ⟨by rw [hU, hT]; omega⟩
        clear hT b1 b2 eP hz PL hm hd hfr hp1 hst hbr hone
        repeat' (with_reducible first | refine x_ops ?_ | simp only [go_sem, Nat.reduceAdd, Nat.reduceEqDiff, Nat.reduceLT, Nat.reduceLeDiff, Nat.reduceMul, Nat.reduceSub, Nat.reducePow, Nat.reduceDiv, Nat.reduceMod, Nat.reduceBEq, Int.reduceBEq, Int.reduceLT, reduceIte, tIs, tBs, tPs, Int.toNat_zero, *] | (with_reducible refine xc (P1) ?_) | (with_reducible refine xc (D1) ?_) | ((first | refine gd1 ?_ ?_ | refine gd2 ?_ ?_ | refine gd3 ?_ ?_) <;> (first | exact @False.elim _ | intro hc)))
        exact nf (by omega) ⟨vv, by rw [hU.out]; exact vv⟩ rfl
      · rw [if_neg hone] at hT
        have c3 : ¬ (1 : Int) < ((plF c g k).length : Int) := by omega
        have w6 : IntKind.i64.wrap (ownU h c g k + h.stretch * dd) = ownU h c g k + h.stretch * dd := w_in (by omega)
        replace hU : Hid (ownU h c g (k + 1) = ownU h c g k + h.stretch * dd) := ⟨by rw [hU, hT]; omega⟩
        clear hT b1 b2 eP hz PL hm hd hfr hp1 hst hbr hone
        repeat' (with_reducible first | refine x_ops ?_ | simp only [go_sem, Nat.reduceAdd, Nat.reduceEqDiff, Nat.reduceLT, Nat.reduceLeDiff, Nat.reduceMul, Nat.reduceSub, Nat.reducePow, Nat.reduceDiv, Nat.reduceMod, Nat.reduceBEq, Int.reduceBEq, Int.reduceLT, reduceIte, tIs, tBs, tPs, Int.toNat_zero, *] | (with_reducible refine xc (P1) ?_) | (with_reducible refine xc (D1) ?_) | ((first | refine gd1 ?_ ?_ | refine gd2 ?_ ?_ | refine gd3 ?_ ?_) <;> (first | exact @False.elim _ | intro hc)))
        exact nf (by omega) ⟨vv, by rw [hU.out]; exact vv⟩ rfl
  · have hkl : k = h.low.length := by omega
    subst hkl
    have c1 : ¬ ((h.low.length + 1 : Nat) : Int) ≤ (h.low.length : Int) := by omega
    repeat' (with_reducible first | refine x_ops ?_ | refine wk ?_ | ((first | refine gd1 ?_ ?_ | refine gd2 ?_ ?_ | refine gd3 ?_ ?_) <;> (first | exact @False.elim _ | intro hc)))
    exact finV_lit vv rfl
end Go.Proofs.Ytojjdkoglhecbaa
