/- The law InstrumentChecks: the walk. -/
import Derived.Test.YtbdhjpdjbogggaaDoorW14
import Derived.Test.YtbdhjpdjbogggaaDoorR5
import Derived.Test.YtbdhjpdjbogggaaDoorR6
import Derived.Test.YtbdhjpdjbogggaaDoorKp
namespace Go.Proofs.YtbdhjpdjbogggaaDoor
open Go.RowKit

theorem Arr.kp {W W' : World} {size n : Nat} {A : Option Addr} {xs : List Value} (h : Arr W W.heap.size size A n xs) (hk : Kp W W') : Arr W' W'.heap.size size A n xs := h.up hk

set_option maxHeartbeats 8000000 in
theorem checks_any (A C : Option Addr) (nc cc ns kc : Nat) (cs : List Crs) (ss : List Int) (co f : Int) (w : World) (hC : Arr w w.heap.size 3 A nc (cells3 cs)) (hS : Arr w w.heap.size 1 C ns (ss.map (Value.int .i64))) (hg : Gnd w) :
    Calls Tryd.prog 5 #[.agg #[.slice A nc cc, .slice C ns kc], .agg #[.int .i64 co, .int .i64 f]] w fun e w' => e = .returned (.bool true) ∧ Below w.heap.size w w' := by
  have hwk : ∀ W, Kp w W → Calls Tryd.prog 23 #[] W fun e w' => e = .returned (.bool true) ∧ Below W.heap.size W w' := fun W hW => works_any W (hg.up hW)
  have HW := Lib.hid hwk
  clear hwk hg
  by_cases hbig : 64 < nc ∨ 64 < ns
  · have hd : (decide (64 < nc) || decide (64 < ns)) = true := by simpa using hbig
    have hbc : ∀ W, Calls Tryd.prog 26 #[.agg #[.slice A nc cc, .slice C ns kc]] W fun e w' => e = .returned (.bool true) ∧ Below W.heap.size W w' := fun W => by rw [← hd]; exact big_any A C nc cc ns kc W
    have HB := Lib.hid hbc
    clear hbc hd hbig hC hS
    go_enter Tryd.func5, Tryd.ntmps5
    go_wp2_with fail
    refine (HB.out _).mono ?_
    rintro e1 w1 ⟨rfl, hb1⟩
    have hk1 : Kp w w1 := Kp.next (((Kp.refl w).alloc _).alloc _) hb1
    go_wp2_with (go_at_call 23; refine (HW.out _ hk1).mono ?_; rintro e2 w2 ⟨rfl, hb2⟩)
    go_ret
    exact ⟨rfl, hk1.next hb2⟩
  · have hd : (decide (64 < nc) || decide (64 < ns)) = false := by simpa using hbig
    have hbc : ∀ W, Calls Tryd.prog 26 #[.agg #[.slice A nc cc, .slice C ns kc]] W fun e w' => e = .returned (.bool false) ∧ Below W.heap.size W w' := fun W => by rw [← hd]; exact big_any A C nc cc ns kc W
    obtain ⟨x, hx⟩ : ∃ x, x = chk cs ss := ⟨_, rfl⟩
    obtain ⟨av, hav⟩ : ∃ av, av = atV cs ss co f := ⟨_, rfl⟩
    obtain ⟨ae, hae⟩ : ∃ ae, ae = atE cs ss co f := ⟨_, rfl⟩
    have hcp : ∀ W, Kp w W → Calls Tryd.prog 28 #[.agg #[.slice A nc cc, .slice C ns kc]] W (InsOf W cs ss nc ns) := fun W hW => copy_any A C nc cc ns kc cs ss W (hC.up hW) (hS.up hW) (by omega) (by omega)
    have hat : ∀ W A C cc kc, Arr W W.heap.size 3 A nc (cells3 cs) → Arr W W.heap.size 1 C ns (ss.map (Value.int .i64)) → Calls Tryd.prog 27 #[.agg #[.slice A nc cc, .slice C ns kc], .agg #[.int .i64 co, .int .i64 f]] W fun e w' => e = .returned (.tuple #[.int .i64 av, .int .i64 ae]) ∧ Below W.heap.size W w' := fun W A C cc kc hA hC => by
      rw [hav, hae]; exact at_any A C nc cc ns kc cs ss co f W hA hC
    have hck : ∀ W A C cc kc, Arr W W.heap.size 3 A nc (cells3 cs) → Arr W W.heap.size 1 C ns (ss.map (Value.int .i64)) → Calls Tryd.prog 30 #[.agg #[.slice A nc cc, .slice C ns kc]] W fun e w' => e = .returned (.int .i64 x) ∧ Below W.heap.size W w' := fun W A C cc kc hA hC => by
      rw [hx]; exact check_any A C nc cc ns kc cs ss W hA hC
    have hra : ∀ W, Kp w W → Calls Tryd.prog 29 #[.agg #[.slice A nc cc, .slice C ns kc], .agg #[.int .i64 co, .int .i64 f]] W fun e w' => e = .returned (.tuple #[.int .i64 av, .int .i64 ae]) ∧ Below W.heap.size W w' := fun W hW => by
      rw [hav, hae]; exact rat_any A C nc cc ns kc cs ss co f W (hC.up hW) (hS.up hW)
    have hrc : ∀ W, Kp w W → Calls Tryd.prog 31 #[.agg #[.slice A nc cc, .slice C ns kc]] W fun e w' => e = .returned (.int .i64 x) ∧ Below W.heap.size W w' := fun W hW => by
      rw [hx]; exact rcheck_any A C nc cc ns kc cs ss W (hC.up hW) (hS.up hW)
    have HB := Lib.hid hbc
    have HCP := Lib.hid hcp
    have HAT := Lib.hid hat
    have HCK := Lib.hid hck
    have HRA := Lib.hid hra
    have HRC := Lib.hid hrc
    clear hbc hcp hat hck hra hrc hd hx hav hae hC hS hbig
    go_enter Tryd.func5, Tryd.ntmps5
    go_wp2_with fail
    have hkb : Kp w ((w.alloc (Obj.cells #[.slice A nc cc, .slice C ns kc] 39)).alloc (Obj.cells #[.int .i64 co, .int .i64 f] 41)) := ((Kp.refl w).alloc _).alloc _
    have d0 : ((w.alloc (Obj.cells #[.slice A nc cc, .slice C ns kc] 39)).alloc (Obj.cells #[.int .i64 co, .int .i64 f] 41)).cell? ⟨w.heap.size, 0, none⟩ = some (.slice A nc cc) := by simp [go_sem]
    have d1 : ((w.alloc (Obj.cells #[.slice A nc cc, .slice C ns kc] 39)).alloc (Obj.cells #[.int .i64 co, .int .i64 f] 41)).cell? ⟨w.heap.size, 1, none⟩ = some (.slice C ns kc) := by simp [go_sem]
    have d2 : ((w.alloc (Obj.cells #[.slice A nc cc, .slice C ns kc] 39)).alloc (Obj.cells #[.int .i64 co, .int .i64 f] 41)).cell? ⟨w.heap.size + 1, 0, none⟩ = some (.int .i64 co) := by simp [go_sem]
    have d3 : ((w.alloc (Obj.cells #[.slice A nc cc, .slice C ns kc] 39)).alloc (Obj.cells #[.int .i64 co, .int .i64 f] 41)).cell? ⟨w.heap.size + 1, 1, none⟩ = some (.int .i64 f) := by simp [go_sem]
    generalize (w.alloc (Obj.cells #[.slice A nc cc, .slice C ns kc] 39)).alloc (Obj.cells #[.int .i64 co, .int .i64 f] 41) = wb at *
    refine (HB.out _).mono ?_
    rintro e1 w1 ⟨rfl, hb1⟩
    have hk1 : Kp wb w1 := (Kp.refl wb).next hb1
    have c0 := hk1.cell d0
    have c1 := hk1.cell d1
    have c2 := hk1.cell d2
    have c3 := hk1.cell d3
    go_wp2_with fail
    go_region_held3 (fun W => Kp wb W ∧ W.cell? ⟨w.heap.size, 0, none⟩ = some (.slice A nc cc) ∧ W.cell? ⟨w.heap.size, 1, none⟩ = some (.slice C ns kc) ∧ W.cell? ⟨w.heap.size + 1, 0, none⟩ = some (.int .i64 co) ∧ W.cell? ⟨w.heap.size + 1, 1, none⟩ = some (.int .i64 f)) ((go_keep; done))
      (first
        | (go_at_call 28; refine (HCP.out _ (Kp.below (wx := wb) (by simp [*]) hkb)).mono ?_; rintro e9 w9 ⟨A9, C9, q9, k9, rfl, hA9, hC9, hb9⟩; have hk9 := Kp.next (wx := wb) (by simp [*]) hb9; have g0 := hk9.cell d0; have g1 := hk9.cell d1; have g2 := hk9.cell d2; have g3 := hk9.cell d3)
        | (go_at_call 27; refine (HAT.out _ A9 C9 q9 k9 hA9 hC9).mono ?_; rintro e8 w8 ⟨rfl, hb8⟩; have hk8 := Kp.next (wx := wb) (by simp [*]) hb8; have g0 := hk8.cell d0; have g1 := hk8.cell d1; have g2 := hk8.cell d2; have g3 := hk8.cell d3))
    go_wp2_with fail
    refine (HRA.out _ (Kp.below (wx := wb) (by simp [*]) hkb)).mono ?_
    rintro e7 w7 ⟨rfl, hb7⟩
    have hk7 := Kp.next (wx := wb) (by simp [*]) hb7
    have c4 := hk7.cell d0
    have c5 := hk7.cell d1
    have c6 := hk7.cell d2
    have c7 := hk7.cell d3
    go_wp2_with fail
    go_region_held3 (fun W => Kp wb W ∧ W.cell? ⟨w.heap.size, 0, none⟩ = some (.slice A nc cc) ∧ W.cell? ⟨w.heap.size, 1, none⟩ = some (.slice C ns kc)) ((go_keep; done))
      (first
        | (go_at_call 28; refine (HCP.out _ (Kp.below (wx := wb) (by simp [*]) hkb)).mono ?_; rintro e9 w9 ⟨A6, C6, q6, k6, rfl, hA6, hC6, hb9⟩; have hk9 := Kp.next (wx := wb) (by simp [*]) hb9; have g0 := hk9.cell d0; have g1 := hk9.cell d1)
        | (go_at_call 30; refine (HCK.out _ A6 C6 q6 k6 ?_ ?_).mono ?_; (focus ((first | exact hA6 | exact Arr.kp hA6 (by repeat (first | exact Kp.refl _ | assumption | (simp only [Kp_drew]; done) | (rw [Kp_drew]) | refine Kp.next ?_ (by assumption)))))); (focus ((first | exact hC6 | exact Arr.kp hC6 (by repeat (first | exact Kp.refl _ | assumption | (simp only [Kp_drew]; done) | (rw [Kp_drew]) | refine Kp.next ?_ (by assumption)))))); rintro e8 w8 ⟨rfl, hb8⟩; have hk8 := Kp.next (wx := wb) (by simp [*]) hb8; have g0 := hk8.cell d0; have g1 := hk8.cell d1)
        | (go_at_call 31; refine (HRC.out _ (Kp.below (wx := wb) (by simp [*]) hkb)).mono ?_; rintro e5 w5 ⟨rfl, hb5⟩; have hk5 := Kp.next (wx := wb) (by simp [*]) hb5; have g0 := hk5.cell d0; have g1 := hk5.cell d1)
        | (go_at_call 23; refine (HW.out _ (Kp.below (wx := wb) (by simp [*]) hkb)).mono ?_; rintro e4 w4 ⟨rfl, hb4⟩; have hk4 := Kp.next (wx := wb) (by simp [*]) hb4; have g0 := hk4.cell d0; have g1 := hk4.cell d1))
    all_goals
      go_wp2
      go_ret
      exact ⟨rfl, Kp.below (wx := wb) (by simp [*]) hkb⟩
end Go.Proofs.YtbdhjpdjbogggaaDoor
