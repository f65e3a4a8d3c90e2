/- works: the look at the examples of the chapter. -/
import Derived.Test.YtbdhjpdjbogggaaDoorW13
namespace Go.Proofs.YtbdhjpdjbogggaaDoor
open Go.RowKit

theorem lute_at : atV luteC luteS 1 2 = 69 ∧ atE luteC luteS 1 2 = 0 := by decide +kernel
theorem sp_61 : spR 61 0 = .tuple #[.agg #[.int .i64 0, .int .i64 1, .int .i64 4], .int .i64 0] := by
  have h : spFrom 61 0 21 0 = some (0, 1) := by decide +kernel
  have h2 : spO 61 0 1 = 4 := by decide +kernel
  rw [spR, if_neg (by decide), if_neg (by decide), h, spV, h2]

set_option maxHeartbeats 2000000 in
theorem works_any (w : World) (hg : Gnd w) : Calls Tryd.prog 23 #[] w fun e w' => e = .returned (.bool true) ∧ Below w.heap.size w w' := by
  have hstd : ∀ W, Below w.heap.size w W → Calls Tryd.prog 37 #[.string ⟨#[108, 117, 116, 101, 54]⟩] W (InsRet W luteC luteS 0) := fun W hW => std_lute W (hg.up hW)
  have hat : ∀ W A C c1 c2, Arr W W.heap.size 3 A 6 (cells3 luteC) → Arr W W.heap.size 1 C 8 (luteS.map (Value.int .i64)) →
      Calls Tryd.prog 27 #[.agg #[.slice A 6 c1, .slice C 8 c2], .agg #[.int .i64 1, .int .i64 2]] W fun e w' => e = .returned (.tuple #[.int .i64 69, .int .i64 0]) ∧ Below W.heap.size W w' := fun W A C c1 c2 hA hC => by
    have h := at_any A C 6 c1 8 c2 luteC luteS 1 2 W hA hC
    rw [lute_at.1, lute_at.2] at h
    exact h
  have hsp : ∀ W, Below w.heap.size w W → Calls Tryd.prog 20 #[.int .i64 61, .int .i64 0] W fun e w' => e = .returned (.tuple #[.agg #[.int .i64 0, .int .i64 1, .int .i64 4], .int .i64 0]) ∧ Below W.heap.size W w' := fun W hW => by
    have h := spell_any 61 0 W (hg.up hW)
    rw [sp_61] at h
    exact h
  have HSTD := Lib.hid hstd
  have HAT := Lib.hid hat
  have HSP := Lib.hid hsp
  clear hstd hat hsp hg
  go_enter Tryd.func23, Tryd.ntmps23
  go_wp2_with fail
  refine (HSTD.out _ ?_).mono ?_
  · (repeat (first | exact Below.refl _ _ | assumption | refine below_drewN ?_ _ | refine Below.drew ?_ | refine Below.alloc ?_ (by first | exact Nat.le_refl _ | omega | (simp; done) | (simp; omega)) _ | refine Below.setCell ?_ (by first | exact Nat.le_refl _ | (simp; done) | (simp; omega)) _))
  rintro e1 w1 ⟨A, C, n1, c1, n2, c2, rfl, hA, hC, hb1⟩
  obtain rfl : n1 = 6 := by have h := hA.1; rw [show (cells3 luteC).length = 18 from rfl] at h; omega
  obtain rfl : n2 = 8 := by have h := hC.1; rw [show (luteS.map (Value.int .i64)).length = 8 from rfl] at h; omega
  have HA := Lib.hid hA
  have HC := Lib.hid hC
  clear hA hC
  go_wp2_with fail
  refine (HAT.out _ A C c1 c2 ?_ ?_).mono ?_
  · exact HA.out.up (by repeat (first | exact Below.refl _ _ | assumption | refine below_drewN ?_ _ | refine Below.drew ?_ | refine Below.alloc ?_ (by first | exact Nat.le_refl _ | omega | (simp; done) | (simp; omega)) _ | refine Below.setCell ?_ (by first | exact Nat.le_refl _ | (simp; done) | (simp; omega)) _))
  · exact HC.out.up (by repeat (first | exact Below.refl _ _ | assumption | refine below_drewN ?_ _ | refine Below.drew ?_ | refine Below.alloc ?_ (by first | exact Nat.le_refl _ | omega | (simp; done) | (simp; omega)) _ | refine Below.setCell ?_ (by first | exact Nat.le_refl _ | (simp; done) | (simp; omega)) _))
  rintro e2 w2 ⟨rfl, hb2⟩
  have hs1 := hb1.size
  have hbw : Below w.heap.size w w2 := (hb1.alloc hs1 _).trans (hb2.mono (by simp; omega))
  go_wp2_with fail
  refine (HSP.out _ hbw).mono ?_
  rintro e3 w3 ⟨rfl, hb3⟩
  have hbw3 := hbw.trans (hb3.mono hbw.size)
  have hs3 := hbw3.size
  go_wp2
  go_ret
  exact ⟨rfl, (by repeat (first | exact Below.refl _ _ | assumption | refine below_drewN ?_ _ | refine Below.drew ?_ | refine Below.alloc ?_ (by first | exact Nat.le_refl _ | omega | (simp; done) | (simp; omega)) _ | refine Below.setCell ?_ (by first | exact Nat.le_refl _ | (simp; done) | (simp; omega)) _))⟩
end Go.Proofs.YtbdhjpdjbogggaaDoor
