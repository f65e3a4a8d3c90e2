/- Walk: SamePlaces of the laws, of two rows that are alike. -/
import Derived.Test.YtbdhjpdjbogggaaDoorW16
namespace Go.Proofs.YtbdhjpdjbogggaaDoor
open Go.RowKit

theorem cellsP_length (l : List (Nat × Nat)) : (cellsP l).length = l.length * 2 := by
  induction l with
  | nil => rfl
  | cons x r ih => simp only [cellsP, List.flatMap_cons, List.length_append, List.length_cons, List.length_nil] at ih ⊢; omega
theorem cellsP_at : ∀ (l : List (Nat × Nat)) (k : Nat) (h : k < l.length), (cellsP l)[k * 2]? = some (.int .i64 (l[k]'h).1) ∧ (cellsP l)[k * 2 + 1]? = some (.int .i64 (l[k]'h).2)
  | x :: r, 0, _ => by simp [cellsP]
  | x :: r, k + 1, h => by
    have ih := cellsP_at r k (by simpa using h)
    have e : cellsP (x :: r) = .int .i64 x.1 :: .int .i64 x.2 :: cellsP r := by simp [cellsP]
    have h1 : (k + 1) * 2 = k * 2 + 2 := by omega
    rw [e, h1]
    simpa using ih
theorem Arr.pl_at {w : World} {B n : Nat} {A : Option Addr} {xs : List (Nat × Nat)} (h : Arr w B 2 A n (cellsP xs)) {k : Nat} (hk : k < n) :
    ∃ b o, A = some ⟨b, o, none⟩ ∧ b < B ∧ w.cell? ⟨b, o + k * 2, none⟩ = some (.int .i64 (xs.getD k (0, 0)).1) ∧ w.cell? ⟨b, o + k * 2 + 1, none⟩ = some (.int .i64 (xs.getD k (0, 0)).2) := by
  obtain ⟨b, o, e, hb, hc⟩ := h.2 (by omega)
  have hl : k < xs.length := by have := h.1; rw [cellsP_length] at this; omega
  obtain ⟨h0, h1⟩ := cellsP_at xs k hl
  rw [List.getD_eq_getElem?_getD, List.getElem?_eq_getElem hl]
  exact ⟨b, o, e, hb, hc _ _ h0, hc _ _ h1⟩

set_option maxHeartbeats 4000000 in
theorem samePlaces_self (A A2 : Option Addr) (n c n2 c2 : Nat) (xs : List (Nat × Nat)) (w : World) (h1 : Arr w w.heap.size 2 A n (cellsP xs)) (h2 : Arr w w.heap.size 2 A2 n2 (cellsP xs)) (hn : n ≤ 1000000) :
    Calls Tryd.prog 42 #[.slice A n c, .slice A2 n2 c2] w fun e w' => e = .returned (.bool true) ∧ Below w.heap.size w w' := by
  obtain rfl : n2 = n := by have := h1.1; have := h2.1; omega
  have H1 := Lib.hid h1
  have H2 := Lib.hid h2
  clear h1 h2
  go_enter Tryd.func42, Tryd.ntmps42
  go_wp2
  go_loopw [5] (fun i wr => ∃ k : Nat, k ≤ n2 ∧ i = .int .i64 k ∧ Below w.heap.size w wr) (fun i _ => n2 - (intOf i).toNat)
  case atStart => exact ⟨0, Nat.zero_le _, rfl, Below.refl _ _⟩
  case round =>
    obtain ⟨k, hk, rfl, hb⟩ := hrel
    by_cases hkn : k = n2
    · subst hkn
      go_wp2
      go_ret
      exact ⟨rfl, hb⟩
    · have hlt : k < n2 := by omega
      obtain ⟨b, o, rfl, _, x0, x1⟩ := (H1.out.up hb).pl_at hlt
      obtain ⟨b2, o2, rfl, _, y0, y1⟩ := (H2.out.up hb).pl_at hlt
      obtain ⟨u, hu⟩ : ∃ u, u = ((xs.getD k (0, 0)).1 : Int) := ⟨_, rfl⟩
      obtain ⟨v, hv⟩ : ∃ v, v = ((xs.getD k (0, 0)).2 : Int) := ⟨_, rfl⟩
      rw [← hu] at x0 y0
      rw [← hv] at x1 y1
      clear hu hv
      have hi0 : (0 : Int) ≤ (k : Int) := by omega
      have hi1 : (k : Int) < (n2 : Int) := by omega
      clear hkn
      go_wp2
      go_quiet (fail)
      go_wp2
      go_roundw
      case rel => exact ⟨k + 1, by omega, by go_num, by repeat (first | exact Below.refl _ _ | assumption | refine below_drewN ?_ _ | refine Below.drew ?_ | refine Below.alloc ?_ (by first | exact Nat.le_refl _ | omega | (simp; done) | (simp; omega)) _ | refine Below.setCell ?_ (by first | exact Nat.le_refl _ | (simp; done) | (simp; omega)) _)⟩
      case measure => simp [intOf]; omega
end Go.Proofs.YtbdhjpdjbogggaaDoor
