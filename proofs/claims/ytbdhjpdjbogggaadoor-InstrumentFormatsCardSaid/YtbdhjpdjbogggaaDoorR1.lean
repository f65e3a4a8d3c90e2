/- Walks of the reference: Base, Right, Sounding, position. -/
import Derived.Test.YtbdhjpdjbogggaaDoorW1
namespace Go.Proofs.YtbdhjpdjbogggaaDoor
open Go.RowKit

theorem ret_int {a b : Int} (h : a = b) : Ending.returned (.int .i64 a) = .returned (.int .i64 b) := by rw [h]
theorem ret_bool {a b : Bool} (h : a = b) : Ending.returned (.bool a) = .returned (.bool b) := by rw [h]
theorem bas_lo {l : Int} (h0 : 0 ≤ l) (h3 : l < 3) : bas l = 2 * l := by
  have : l = 0 ∨ l = 1 ∨ l = 2 := by omega
  rcases this with rfl | rfl | rfl <;> decide
theorem bas_hi {l : Int} (h3 : 3 ≤ l) (h6 : l ≤ 6) : bas l = 2 * l - 1 := by
  have : l = 3 ∨ l = 4 ∨ l = 5 ∨ l = 6 := by omega
  rcases this with rfl | rfl | rfl | rfl <;> decide

theorem rbase_any (l : Int) (w : World) (h0 : 0 ≤ l) (h6 : l ≤ 6) : Calls Tryd.prog 84 #[.int .i64 l] w fun e w' => e = .returned (.int .i64 (bas l)) ∧ w' = w := by
  by_cases h : l < 3
  · rw [bas_lo h0 h]
    go_enter Tryd.func84, Tryd.ntmps84
    go_wp2
    go_ret
    exact ⟨rfl, rfl⟩
  · have h' : 3 ≤ l := by omega
    clear h
    rw [bas_hi h' h6]
    go_enter Tryd.func84, Tryd.ntmps84
    go_wp2
    go_ret
    exact ⟨rfl, rfl⟩

set_option maxHeartbeats 1000000 in
theorem rright_in (l a o : Int) (w : World) (l0 : 0 ≤ l) (l6 : l ≤ 6) (a0 : -1 ≤ a) (a1 : a ≤ 1) (o0 : -1 ≤ o) (o1 : o ≤ 9) : Calls Tryd.prog 66 #[.agg #[.int .i64 l, .int .i64 a, .int .i64 o]] w fun e w' =>
    e = .returned (.bool (right l a o)) ∧ Below w.heap.size w w' := by
  have hbb := bas_bd l0 l6
  have hi : inb l a o = true := by simp [inb, *]
  obtain ⟨bl, hbl⟩ : ∃ bl, bl = bas l := ⟨_, rfl⟩
  have hcall : ∀ W, Calls Tryd.prog 84 #[.int .i64 l] W fun e w' => e = .returned (.int .i64 bl) ∧ w' = W := fun W => by rw [hbl]; exact rbase_any l W l0 l6
  rw [← hbl] at hbb
  have hr : right l a o = (decide (0 ≤ 12 * (o + 1) + bl + a) && decide (12 * (o + 1) + bl + a ≤ 127)) := by rw [right, hi, pit, ← hbl]; rfl
  rw [hr]
  have HCALL := Lib.hid hcall
  clear hr hbl hi hcall
  go_enter Tryd.func66, Tryd.ntmps66
  go_wp2
  go_quiet ((go_at_call 84; exact Calls.quiet_of_same (HCALL.out _)))
  go_wp2
  all_goals (go_ret; refine ⟨?_, (by repeat (first | exact Below.refl _ _ | assumption | refine below_drewN ?_ _ | refine Below.drew ?_ | refine Below.alloc ?_ (by first | exact Nat.le_refl _ | omega | (simp; done) | (simp; omega)) _ | refine Below.setCell ?_ (by first | exact Nat.le_refl _ | (simp; done) | (simp; omega)) _))⟩)
  · have h0 : 0 ≤ 12 * (o + 1) + bl + a := by assumption
    exact ret_bool (by rw [decide_eq_true h0, Bool.true_and])
  · have h0 : 12 * (o + 1) + bl + a < 0 := by assumption
    exact ret_bool (by rw [decide_eq_false (p := 0 ≤ 12 * (o + 1) + bl + a) (by omega), Bool.false_and])

theorem rright_out (l a o : Int) (w : World) (h : inb l a o = false) : Calls Tryd.prog 66 #[.agg #[.int .i64 l, .int .i64 a, .int .i64 o]] w fun e w' =>
    e = .returned (.bool (right l a o)) ∧ Below w.heap.size w w' := by
  have hr : right l a o = false := by simp [right, h]
  rw [hr]
  have h' : ¬ ((0 ≤ l ∧ l ≤ 6) ∧ (-1 ≤ a ∧ a ≤ 1) ∧ (-1 ≤ o ∧ o ≤ 9)) := by
    rintro ⟨⟨h1, h2⟩, ⟨h3, h4⟩, ⟨h5, h6⟩⟩
    simp [inb, *] at h
  clear h hr
  go_enter Tryd.func66, Tryd.ntmps66
  go_wp2
  all_goals (go_ret; exact ⟨rfl, (by repeat (first | exact Below.refl _ _ | assumption | refine below_drewN ?_ _ | refine Below.drew ?_ | refine Below.alloc ?_ (by first | exact Nat.le_refl _ | omega | (simp; done) | (simp; omega)) _ | refine Below.setCell ?_ (by first | exact Nat.le_refl _ | (simp; done) | (simp; omega)) _))⟩)

theorem rright_any (l a o : Int) (w : World) : Calls Tryd.prog 66 #[.agg #[.int .i64 l, .int .i64 a, .int .i64 o]] w fun e w' =>
    e = .returned (.bool (right l a o)) ∧ Below w.heap.size w w' := by
  by_cases h : inb l a o = true
  · have h' := h
    simp [inb] at h'
    obtain ⟨⟨⟨⟨⟨h1, h2⟩, h3⟩, h4⟩, h5⟩, h6⟩ := h'
    exact rright_in l a o w h1 h2 h3 h4 h5 h6
  · exact rright_out l a o w (by simpa using h)

set_option maxHeartbeats 1000000 in
theorem rsounding_any (l a o : Int) (w : World) : Calls Tryd.prog 57 #[.agg #[.int .i64 l, .int .i64 a, .int .i64 o]] w fun e w' =>
    e = .returned (.tuple #[.int .i64 (sndP l a o), .int .i64 (sndE l a o)]) ∧ Below w.heap.size w w' := by
  by_cases h : right l a o = true
  · rw [(snd_good h).1, (snd_good h).2]
    have hi : inb l a o = true := by
      simp only [right, Bool.and_eq_true] at h
      exact h.1.1
    simp [inb] at hi
    obtain ⟨⟨⟨⟨⟨h1, h2⟩, h3⟩, h4⟩, h5⟩, h6⟩ := hi
    have hbb := bas_bd h1 h2
    obtain ⟨bl, hbl⟩ : ∃ bl, bl = bas l := ⟨_, rfl⟩
    have hcall : ∀ W, Calls Tryd.prog 84 #[.int .i64 l] W fun e w' => e = .returned (.int .i64 bl) ∧ w' = W := fun W => by rw [hbl]; exact rbase_any l W h1 h2
    have hr : ∀ W, Calls Tryd.prog 66 #[.agg #[.int .i64 l, .int .i64 a, .int .i64 o]] W fun e w' => e = .returned (.bool true) ∧ Below W.heap.size W w' := fun W => by rw [← h]; exact rright_any l a o W
    rw [← hbl] at hbb
    have hp : pit l a o = 12 * (o + 1) + bl + a := by rw [pit, ← hbl]
    rw [hp]
    have HCALL := Lib.hid hcall
    have HR := Lib.hid hr
    clear hp hbl hcall hr h
    go_enter Tryd.func57, Tryd.ntmps57
    go_wp2_with (go_at_call 66; refine (HR.out _).mono ?_; rintro e1 w1 ⟨rfl, hb1⟩; have hc1 := (bcell hb1).1; have hz1 := hb1.size)
    go_quiet ((go_at_call 84; exact Calls.quiet_of_same (HCALL.out _)))
    go_wp2
    go_ret2
    refine ⟨rfl, ?_⟩
    exact below_drewN ((((Below.refl _ _).alloc (Nat.le_refl _) _)).trans (hb1.mono (by simp))) _
  · have h' : right l a o = false := by simpa using h
    rw [(snd_bad h').1, (snd_bad h').2]
    have hr : ∀ W, Calls Tryd.prog 66 #[.agg #[.int .i64 l, .int .i64 a, .int .i64 o]] W fun e w' => e = .returned (.bool false) ∧ Below W.heap.size W w' := fun W => by rw [← h']; exact rright_any l a o W
    have HR := Lib.hid hr
    clear hr h h'
    go_enter Tryd.func57, Tryd.ntmps57
    go_wp2_with (go_at_call 66; refine (HR.out _).mono ?_; rintro e1 w1 ⟨rfl, hb1⟩)
    go_ret2
    exact ⟨rfl, (((Below.refl _ _).alloc (Nat.le_refl _) _)).trans (hb1.mono (by simp))⟩
end Go.Proofs.YtbdhjpdjbogggaaDoor
