/- Walks of the reference: checked, Parse. -/
import Derived.Test.YtbdhjpdjbogggaaDoorR12
import Derived.Test.YtbdhjpdjbogggaaDoorR10
import Derived.Test.YtbdhjpdjbogggaaDoorR4
import Derived.Test.YtbdhjpdjbogggaaDoorW8
namespace Go.Proofs.YtbdhjpdjbogggaaDoor
open Go.RowKit

theorem Arr.far {w : World} {B size n : Nat} {A : Option Addr} {xs : List Value} (h : Arr w B size A n xs) {p : Addr} (hp : B ≤ p.block) (u : Value) : Arr (w.setCell p u) B size A n xs :=
  ⟨h.1, fun hn => by
    obtain ⟨b, o, e, hlt, hc⟩ := h.2 hn
    exact ⟨b, o, e, hlt, fun j v hv => (World.cell?_setCell_other _ _ _ _ (fun e2 => by rw [e2] at hp; simp at hp; omega)).trans (hc j v hv)⟩⟩

set_option maxHeartbeats 2000000 in
/-- checked: the instrument, or the error that Check has for it. -/
theorem checked_any (A C : Option Addr) (nc cc ns kc : Nat) (cs : List Crs) (ss : List Int) (w : World) (hC : Arr w w.heap.size 3 A nc (cells3 cs)) (hS : Arr w w.heap.size 1 C ns (ss.map (Value.int .i64))) :
    Calls Tryd.prog 77 #[.agg #[.slice A nc cc, .slice C ns kc]] w (InsRet w (if chk cs ss = 0 then cs else []) (if chk cs ss = 0 then ss else []) (chk cs ss)) := by
  obtain ⟨x, hx⟩ : ∃ x, x = chk cs ss := ⟨_, rfl⟩
  rw [← hx]
  have hcall : ∀ W, Below w.heap.size w W → Calls Tryd.prog 31 #[.agg #[.slice A nc cc, .slice C ns kc]] W fun e w' => e = .returned (.int .i64 x) ∧ Below W.heap.size W w' := fun W hW => by
    rw [hx]; exact rcheck_any A C nc cc ns kc cs ss W (hC.up hW) (hS.up hW)
  have HCALL := Lib.hid hcall
  have HC := Lib.hid hC
  have HS := Lib.hid hS
  clear hcall hx hC hS
  by_cases h0 : x = 0
  · subst h0
    rw [if_pos rfl, if_pos rfl]
    go_enter Tryd.func77, Tryd.ntmps77
    go_wp2_with fail
    refine (HCALL.out _ (by repeat (first | exact Below.refl _ _ | assumption | refine below_drewN ?_ _ | refine Below.drew ?_ | refine Below.alloc ?_ (by first | exact Nat.le_refl _ | omega | (simp; done) | (simp; omega)) _ | refine Below.setCell ?_ (by first | exact Nat.le_refl _ | (simp; done) | (simp; omega)) _))).mono ?_
    rintro e1 w1 ⟨rfl, hb⟩
    have hz := hb.size
    simp at hz
    have hbw : Below w.heap.size w w1 := (((Below.refl _ _).alloc (Nat.le_refl _) _).alloc (by simp) _).trans (hb.mono (by simp; omega))
    have l0 : w.heap.size < w1.heap.size := by omega
    have l1 : w.heap.size + 1 < w1.heap.size := by omega
    obtain ⟨hc9, hf9⟩ := bcell hb
    have d0 := hc9 w.heap.size 0 (by simp; omega)
    have d1 := hc9 w.heap.size 1 (by simp; omega)
    have x0 := hc9 (w.heap.size + 1) 0 (by simp)
    have x1 := hc9 (w.heap.size + 1) 1 (by simp)
    have m0 := hf9 (w.heap.size + 1) 0 (by simp)
    have m1 := hf9 (w.heap.size + 1) 1 (by simp)
    clear hc9 hf9
    simp [go_sem] at d0 d1 x0 x1 m0 m1
    go_wp2
    refine bodyPost_ret (v := .tuple #[.agg #[.slice A nc cc, .slice C ns kc], .int .i64 0]) (by simp only [results, Tryd.results77]; go_simp) rfl ?_
    refine ⟨A, C, nc, cc, ns, kc, rfl, ?_, ?_, (by repeat (first | exact Below.refl _ _ | assumption | refine below_drewN ?_ _ | refine Below.drew ?_ | refine Below.alloc ?_ (by first | exact Nat.le_refl _ | omega | (simp; done) | (simp; omega)) _ | refine Below.setCell ?_ (by first | exact Nat.le_refl _ | (simp; done) | (simp; omega)) _))⟩
    · exact (((HC.out.below hbw (Nat.le_refl _)).far (p := ⟨w.heap.size + 1, 0, none⟩) (by show w.heap.size ≤ w.heap.size + 1; omega) _).far (p := ⟨w.heap.size + 1, 1, none⟩) (by show w.heap.size ≤ w.heap.size + 1; omega) _).more (by rw [World.size_setCell, World.size_setCell]; omega)
    · exact (((HS.out.below hbw (Nat.le_refl _)).far (p := ⟨w.heap.size + 1, 0, none⟩) (by show w.heap.size ≤ w.heap.size + 1; omega) _).far (p := ⟨w.heap.size + 1, 1, none⟩) (by show w.heap.size ≤ w.heap.size + 1; omega) _).more (by rw [World.size_setCell, World.size_setCell]; omega)
  · have hb0 : (x == 0) = false := by simpa using h0
    rw [if_neg h0, if_neg h0]
    clear h0
    go_enter Tryd.func77, Tryd.ntmps77
    go_wp2_with fail
    refine (HCALL.out _ (by repeat (first | exact Below.refl _ _ | assumption | refine below_drewN ?_ _ | refine Below.drew ?_ | refine Below.alloc ?_ (by first | exact Nat.le_refl _ | omega | (simp; done) | (simp; omega)) _ | refine Below.setCell ?_ (by first | exact Nat.le_refl _ | (simp; done) | (simp; omega)) _))).mono ?_
    rintro e1 w1 ⟨rfl, hb⟩
    have hz := hb.size
    simp at hz
    have hbw : Below w.heap.size w w1 := (((Below.refl _ _).alloc (Nat.le_refl _) _).alloc (by simp) _).trans (hb.mono (by simp; omega))
    have l1 : w.heap.size + 1 < w1.heap.size := by omega
    obtain ⟨hc9, hf9⟩ := bcell hb
    have x0 := hc9 (w.heap.size + 1) 0 (by simp)
    have x1 := hc9 (w.heap.size + 1) 1 (by simp)
    have m0 := hf9 (w.heap.size + 1) 0 (by simp)
    have m1 := hf9 (w.heap.size + 1) 1 (by simp)
    clear hc9 hf9
    simp [go_sem] at x0 x1 m0 m1
    go_wp2
    refine bodyPost_ret (v := .tuple #[.agg #[.slice none 0 0, .slice none 0 0], .int .i64 x]) (by simp only [results, Tryd.results77]; go_simp) rfl ?_
    exact ⟨none, none, 0, 0, 0, 0, rfl, Arr.nil_ _ _, Arr.nil_ _ _, (by repeat (first | exact Below.refl _ _ | assumption | refine below_drewN ?_ _ | refine Below.drew ?_ | refine Below.alloc ?_ (by first | exact Nat.le_refl _ | omega | (simp; done) | (simp; omega)) _ | refine Below.setCell ?_ (by first | exact Nat.le_refl _ | (simp; done) | (simp; omega)) _))⟩

theorem ixOf_before {x : List UInt8} : ∀ {l : List (List UInt8)} {k : Nat}, k < ixOf x l → l.getD k [] ≠ x
  | [], k, h => by simp [ixOf] at h
  | y :: r, k, h => by
    simp only [ixOf] at h
    by_cases hy : y = x
    · rw [if_pos hy] at h; omega
    · rw [if_neg hy] at h
      cases k with
      | zero => simpa using hy
      | succ k => simpa using ixOf_before (l := r) (k := k) (by omega)
theorem ixOf_at {x : List UInt8} : ∀ {l : List (List UInt8)}, ixOf x l < l.length → l.getD (ixOf x l) [] = x
  | [], h => by simp [ixOf] at h
  | y :: r, h => by
    simp only [ixOf] at h ⊢
    by_cases hy : y = x
    · simp [hy]
    · rw [if_neg hy] at h ⊢
      simp only [List.getD_cons_succ]
      exact ixOf_at (by simpa using h)
end Go.Proofs.YtbdhjpdjbogggaaDoor
