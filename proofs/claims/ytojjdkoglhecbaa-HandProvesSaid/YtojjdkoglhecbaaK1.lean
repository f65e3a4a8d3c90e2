/- The places of a finger and the own cost of a grip, program and reference, on values. -/
import Derived.Test.YtojjdkoglhecbaaJ6
import Derived.Test.YtojjdkoglhecbaaP4
namespace Go.Proofs.Ytojjdkoglhecbaa
open Go.RowKit
set_option linter.unusedSimpArgs false
set_option linter.unusedVariables false

/-- The places of a finger among the first k. -/
def plU (d : List (Int × Int)) (fg : List Int) (v : Int) : Nat → List (Int × Int)
  | 0 => []
  | k + 1 => if fg.getD k 0 = v then plU d fg v k ++ [d.getD k (0, 0)] else plU d fg v k
theorem plU_len (d : List (Int × Int)) (fg : List Int) (v : Int) : ∀ k, (plU d fg v k).length ≤ k
  | 0 => Nat.le_refl _
  | k + 1 => by
    have := plU_len d fg v k
    rw [plU]
    split
    · rw [List.length_append]; simp; omega
    · omega
theorem plU_mem {d : List (Int × Int)} {fg : List Int} {v : Int} {p : Int × Int} : ∀ {k}, p ∈ plU d fg v k → ∃ i, i < k ∧ fg.getD i 0 = v ∧ d.getD i (0, 0) = p
  | 0, h => by cases h
  | k + 1, h => by
    rw [plU] at h
    split at h
    · rename_i hk
      rcases List.mem_append.1 h with h | h
      · obtain ⟨i, h1, h2⟩ := plU_mem h; exact ⟨i, by omega, h2⟩
      · rw [List.mem_singleton] at h; exact ⟨k, Nat.lt_succ_self k, hk, h.symm⟩
    · obtain ⟨i, h1, h2⟩ := plU_mem h; exact ⟨i, by omega, h2⟩
theorem pls_snoc (l : List (Int × Int)) (p : Int × Int) : (l ++ [p]).flatMap plE = l.flatMap plE ++ [V.lit (.int .i64 p.1), V.lit (.int .i64 p.2)] := by
  rw [List.flatMap_append]; rfl

set_option maxHeartbeats 1000000 in
theorem places_fn (c : Chord) (hf : FitC c) (g : Grip) (hl : g.fingers.length = c.down.length) (v : Int) : Fn Try.prog Gd 117 [c.val, g.val, vint v] (tPs (plU c.down g.fingers v c.down.length)) := by
  refine Fn.of_vx0 k_hand_places (by simp) (by rw [V.pures, pure_chord, V.pures, pure_grip]; rfl) ?_
  have hb1 := hf.1
  unfold c_hand_places Chord.val Chord.cells Grip.val Grip.cells
  replace hl := Hid.mk hl
  repeat' (with_reducible first | refine x_ops ?_ | refine wk ?_ | ((first | refine gd1 ?_ ?_ | refine gd2 ?_ ?_ | refine gd3 ?_ ?_) <;> (first | exact @False.elim _ | intro hc)))
  refine x_loopW w_hand_places_p5 (by kernel_rfl) c.down.length (fun k t m => t 12 = vint (k : Int) ∧ (∃ tok, t 6 = .sl (plU c.down g.fingers v k).length ((plU c.down g.fingers v k).flatMap plE) tok ∧ Apb m tok (plU c.down g.fingers v k).length 92 2) ∧
    m.obj 0 = some (.box [tPs c.down, tIs c.held, tIs c.opn] 47) ∧ 0 < m.next) ?_ ?_
  · exact ⟨vv, ⟨.exact, vv, .inl rfl⟩, vv, by ((refine ve ?_; try exact True.intro)); try omega⟩
  rintro k t m hk ⟨h12, ⟨tok, h6, hap⟩, hm, hn⟩
  by_cases hlt : k < c.down.length
  · have g1 := ints_at (l := g.fingers) (k := k) (by rw [hl.out]; exact hlt)
    have g2 := pls_take hlt
    have g3 := pls_len c.down
    have c1 : (k : Int) < (g.fingers.length : Int) := by rw [hl.out]; omega
    have c2 : (k : Int) < (c.down.length : Int) := by omega
    have c3 : k * 2 + 2 ≤ c.down.length * 2 := by omega
    have w2 := w_add1 (k := k) (by omega)
    have hpl := plU_len c.down g.fingers v k
    have hplU : plU c.down g.fingers v (k + 1) = if g.fingers.getD k 0 = v then plU c.down g.fingers v k ++ [c.down.getD k (0, 0)] else plU c.down g.fingers v k := by rw [plU]
    replace hplU := Hid.mk hplU
    repeat' (with_reducible first | refine x_ops ?_ | refine wk ?_ | ((first | refine gd1 ?_ ?_ | refine gd2 ?_ ?_ | refine gd3 ?_ ?_) <;> (first | exact @False.elim _ | intro hc)))
    · refine x_appb (xs := (plU c.down g.fingers v k).flatMap plE) (ys := [vint (c.down.getD k (0, 0)).1, vint (c.down.getD k (0, 0)).2]) vw vw (hap.mono (fun _ _ _ => rfl) (Nat.le_add_right _ _)) (pls_len _) rfl (by omega) (by unfold Go.maxLen; omega) (by show m.next + 7 < m.next + 9; omega) ?_
      intro tok' m' hap' hn' hbox hobj
      have ho := hbox 0 _ _ hm (by show ¬ 0 = m.next + 7; omega)
      replace hn' : m'.next = m.next + 9 := hn'
      clear hbox hobj hap
      have hcc := eq_of_beq hc
      replace hcc := Hid.mk hcc
      clear hc
      repeat' (with_reducible first | refine x_ops ?_ | refine wk ?_ | ((first | refine gd1 ?_ ?_ | refine gd2 ?_ ?_ | refine gd3 ?_ ?_) <;> (first | exact @False.elim _ | intro hc)))
      refine nx (by omega) ⟨vv, ?_, ho, by ((refine ve ?_; try exact True.intro)); omega⟩
      rw [hplU.out, if_pos hcc.out, pls_snoc, List.length_append]
      exact ⟨tok', vv, hap'.mono (fun _ _ _ => rfl) (Nat.le_of_eq hn')⟩
    · have hcc : ¬ g.fingers.getD k 0 = v := by simpa using hc
      refine nx (by omega) ⟨vv, ?_, hm, hn⟩
      rw [hplU.out, if_neg hcc]
      exact ⟨tok, by exact vw, hap.mono (fun _ _ _ => rfl) (Nat.le_refl _)⟩
  · have hkl : k = c.down.length := by omega
    subst hkl
    have c1 : ¬ (c.down.length : Int) < (g.fingers.length : Int) := by rw [hl.out]; omega
    repeat' (with_reducible first | refine x_ops ?_ | refine wk ?_ | ((first | refine gd1 ?_ ?_ | refine gd2 ?_ ?_ | refine gd3 ?_ ?_) <;> (first | exact @False.elim _ | intro hc)))
    exact finV_ret vv (.sl _ _ _)
set_option maxHeartbeats 1000000 in
theorem rplaces_fn (c : Chord) (hf : FitC c) (g : Grip) (hl : g.fingers.length = c.down.length) (v : Int) : Fn Try.prog Gd 119 [c.val, g.val, vint v] (tPs (plU c.down g.fingers v c.down.length)) := by
  refine Fn.of_vx0 k_theorboref06_places (by simp) (by rw [V.pures, pure_chord, V.pures, pure_grip]; rfl) ?_
  have hb1 := hf.1
  unfold c_theorboref06_places Chord.val Chord.cells Grip.val Grip.cells
  replace hl := Hid.mk hl
  repeat' (with_reducible first | refine x_ops ?_ | refine wk ?_ | ((first | refine gd1 ?_ ?_ | refine gd2 ?_ ?_ | refine gd3 ?_ ?_) <;> (first | exact @False.elim _ | intro hc)))
  refine x_loopW w_theorboref06_places_p4 (by kernel_rfl) c.down.length (fun k t m => t 8 = vint (k : Int) ∧ (∃ tok, t 7 = .sl (plU c.down g.fingers v k).length ((plU c.down g.fingers v k).flatMap plE) tok ∧ Apb m tok (plU c.down g.fingers v k).length 92 2) ∧
    m.obj 0 = some (.box [tPs c.down, tIs c.held, tIs c.opn] 47) ∧ m.obj 1 = some (.box [vint g.pos, tIs g.fingers] 53) ∧ 1 < m.next) ?_ ?_
  · exact ⟨vv, ⟨.exact, vv, .inl rfl⟩, vv, vv, by ((refine ve ?_; try exact True.intro)); try omega⟩
  rintro k t m hk ⟨h12, ⟨tok, h6, hap⟩, hm, hm1, hn⟩
  by_cases hlt : k < c.down.length
  · have g1 := ints_at (l := g.fingers) (k := k) (by rw [hl.out]; exact hlt)
    have g2 := pls_take hlt
    have g3 := pls_len c.down
    have c1 : (k : Int) < (g.fingers.length : Int) := by rw [hl.out]; omega
    have c2 : (k : Int) < (c.down.length : Int) := by omega
    have c3 : k * 2 + 2 ≤ c.down.length * 2 := by omega
    have w2 := w_add1 (k := k) (by omega)
    have hpl := plU_len c.down g.fingers v k
    have hplU : plU c.down g.fingers v (k + 1) = if g.fingers.getD k 0 = v then plU c.down g.fingers v k ++ [c.down.getD k (0, 0)] else plU c.down g.fingers v k := by rw [plU]
    replace hplU := Hid.mk hplU
    repeat' (with_reducible first | refine x_ops ?_ | refine wk ?_ | ((first | refine gd1 ?_ ?_ | refine gd2 ?_ ?_ | refine gd3 ?_ ?_) <;> (first | exact @False.elim _ | intro hc)))
    · refine x_appb (xs := (plU c.down g.fingers v k).flatMap plE) (ys := [vint (c.down.getD k (0, 0)).1, vint (c.down.getD k (0, 0)).2]) vw vw (hap.mono (fun _ _ _ => rfl) (Nat.le_add_right _ _)) (pls_len _) rfl (by omega) (by unfold Go.maxLen; omega) (by show m.next + 7 < m.next + 9; omega) ?_
      intro tok' m' hap' hn' hbox hobj
      have ho := hbox 0 _ _ hm (by show ¬ 0 = m.next + 7; omega)
      have ho1 := hbox 1 _ _ hm1 (by show ¬ 1 = m.next + 7; omega)
      replace hn' : m'.next = m.next + 9 := hn'
      clear hbox hobj hap
      have hcc := eq_of_beq hc
      replace hcc := Hid.mk hcc
      clear hc
      repeat' (with_reducible first | refine x_ops ?_ | refine wk ?_ | ((first | refine gd1 ?_ ?_ | refine gd2 ?_ ?_ | refine gd3 ?_ ?_) <;> (first | exact @False.elim _ | intro hc)))
      refine nx (by omega) ⟨vv, ?_, ho, ho1, by ((refine ve ?_; try exact True.intro)); omega⟩
      rw [hplU.out, if_pos hcc.out, pls_snoc, List.length_append]
      exact ⟨tok', vv, hap'.mono (fun _ _ _ => rfl) (Nat.le_of_eq hn')⟩
    · have hcc : ¬ g.fingers.getD k 0 = v := by simpa using hc
      refine nx (by omega) ⟨vv, ?_, hm, hm1, hn⟩
      rw [hplU.out, if_neg hcc]
      exact ⟨tok, by exact vw, hap.mono (fun _ _ _ => rfl) (Nat.le_refl _)⟩
  · have hkl : k = c.down.length := by omega
    subst hkl
    have c1 : ¬ (c.down.length : Int) < (c.down.length : Int) := by omega
    repeat' (with_reducible first | refine x_ops ?_ | refine wk ?_ | ((first | refine gd1 ?_ ?_ | refine gd2 ?_ ?_ | refine gd3 ?_ ?_) <;> (first | exact @False.elim _ | intro hc)))
    exact finV_ret vv (.sl _ _ _)

/-- How far two numbers are apart. -/
def dist (a b : Int) : Int := if a - b < b - a then b - a else a - b
theorem dist_le {a b : Int} : 0 ≤ dist a b := by rw [dist]; split <;> omega
theorem distance_fn (a b : Int) (h : (-1000000 ≤ a ∧ a ≤ 1000000) ∧ -1000000 ≤ b ∧ b ≤ 1000000) : Fn Try.prog Gd 118 [vint a, vint b] (vint (dist a b)) := by
  refine Fn.of_vx0 k_hand_distance (by simp) rfl ?_
  have w1 : IntKind.i64.wrap (a - b) = a - b := w_in (by omega)
  have w2 : IntKind.i64.wrap (b - a) = b - a := w_in (by omega)
  unfold c_hand_distance dist
  repeat' (with_reducible first | refine x_ops ?_ | refine wk ?_ | ((first | refine gd1 ?_ ?_ | refine gd2 ?_ ?_ | refine gd3 ?_ ?_) <;> (first | exact @False.elim _ | intro hc)))
  all_goals exact finV_lit vv rfl
end Go.Proofs.Ytojjdkoglhecbaa
