/- The law InstrumentSame: the walk. -/
import Derived.Test.YtbdhjpdjbogggaaDoorL3
import Derived.Test.YtbdhjpdjbogggaaDoorR7
import Derived.Test.YtbdhjpdjbogggaaDoorR8
namespace Go.Proofs.YtbdhjpdjbogggaaDoor
open Go.RowKit

set_option maxHeartbeats 16000000 in
theorem same_law (A C A2 C2 : Option Addr) (nc cc ns kc nc2 cc2 ns2 kc2 : Nat) (cs cs2 : List Crs) (ss ss2 : List Int) (w : World) (hC : Arr w w.heap.size 3 A nc (cells3 cs)) (hS : Arr w w.heap.size 1 C ns (ss.map (Value.int .i64)))
    (hC2 : Arr w w.heap.size 3 A2 nc2 (cells3 cs2)) (hS2 : Arr w w.heap.size 1 C2 ns2 (ss2.map (Value.int .i64))) (hg : Gnd w) :
    Calls Tryd.prog 8 #[.agg #[.slice A nc cc, .slice C ns kc], .agg #[.slice A2 nc2 cc2, .slice C2 ns2 kc2]] w fun e w' => e = .returned (.bool true) ∧ Below w.heap.size w w' := by
  have hwk : ∀ W, Kp w W → Calls Tryd.prog 23 #[] W fun e w' => e = .returned (.bool true) ∧ Below W.heap.size W w' := fun W hW => works_any W (hg.up hW)
  have HW := Lib.hid hwk
  obtain ⟨ba, hba⟩ : ∃ ba, ba = (decide (64 < nc) || decide (64 < ns)) := ⟨_, rfl⟩
  obtain ⟨bb, hbb⟩ : ∃ bb, bb = (decide (64 < nc2) || decide (64 < ns2)) := ⟨_, rfl⟩
  have hbc : ∀ W, Calls Tryd.prog 26 #[.agg #[.slice A nc cc, .slice C ns kc]] W fun e w' => e = .returned (.bool ba) ∧ Below W.heap.size W w' := fun W => by rw [hba]; exact big_any A C nc cc ns kc W
  have hbc2 : ∀ W, Calls Tryd.prog 26 #[.agg #[.slice A2 nc2 cc2, .slice C2 ns2 kc2]] W fun e w' => e = .returned (.bool bb) ∧ Below W.heap.size W w' := fun W => by rw [hbb]; exact big_any A2 C2 nc2 cc2 ns2 kc2 W
  have HB := Lib.hid hbc
  have HB2 := Lib.hid hbc2
  obtain ⟨sm, hsm⟩ : ∃ sm, sm = (decide (cs = cs2) && decide (ss = ss2)) := ⟨_, rfl⟩
  have hba' : ba = false → nc ≤ 64 ∧ ns ≤ 64 := fun h => by rw [h] at hba; simp at hba; omega
  have hbb' : bb = false → nc2 ≤ 64 ∧ ns2 ≤ 64 := fun h => by rw [h] at hbb; simp at hbb; omega
  have hcp : ba = false → ∀ W, Kp w W → Calls Tryd.prog 28 #[.agg #[.slice A nc cc, .slice C ns kc]] W (InsOf W cs ss nc ns) := fun h W hW => copy_any A C nc cc ns kc cs ss W (hC.up hW) (hS.up hW) (by have := hba' h; omega) (by have := hba' h; omega)
  have hcp2 : bb = false → ∀ W, Kp w W → Calls Tryd.prog 28 #[.agg #[.slice A2 nc2 cc2, .slice C2 ns2 kc2]] W (InsOf W cs2 ss2 nc2 ns2) := fun h W hW => copy_any A2 C2 nc2 cc2 ns2 kc2 cs2 ss2 W (hC2.up hW) (hS2.up hW) (by have := hbb' h; omega) (by have := hbb' h; omega)
  have hs1 : ba = false → ∀ W A1 C1 c1 k1 A3 C3 c3 k3, Arr W W.heap.size 3 A1 nc (cells3 cs) → Arr W W.heap.size 1 C1 ns (ss.map (Value.int .i64)) → Arr W W.heap.size 3 A3 nc2 (cells3 cs2) → Arr W W.heap.size 1 C3 ns2 (ss2.map (Value.int .i64)) →
      Calls Tryd.prog 39 #[.agg #[.slice A1 nc c1, .slice C1 ns k1], .agg #[.slice A3 nc2 c3, .slice C3 ns2 k3]] W fun e w' => e = .returned (.bool sm) ∧ Below W.heap.size W w' := fun h W A1 C1 c1 k1 A3 C3 c3 k3 h1 h2 h3 h4 => by
    rw [hsm]; exact same_any A1 C1 A3 C3 nc c1 ns k1 nc2 c3 ns2 k3 cs cs2 ss ss2 W h1 h2 h3 h4 (by have := hba' h; omega) (by have := hba' h; omega)
  have hs2 : ba = false → ∀ W A1 C1 c1 k1 A3 C3 c3 k3, Arr W W.heap.size 3 A1 nc (cells3 cs) → Arr W W.heap.size 1 C1 ns (ss.map (Value.int .i64)) → Arr W W.heap.size 3 A3 nc (cells3 cs) → Arr W W.heap.size 1 C3 ns (ss.map (Value.int .i64)) →
      Calls Tryd.prog 39 #[.agg #[.slice A1 nc c1, .slice C1 ns k1], .agg #[.slice A3 nc c3, .slice C3 ns k3]] W fun e w' => e = .returned (.bool true) ∧ Below W.heap.size W w' := fun h W A1 C1 c1 k1 A3 C3 c3 k3 h1 h2 h3 h4 => by
    have h5 := same_any A1 C1 A3 C3 nc c1 ns k1 nc c3 ns k3 cs cs ss ss W h1 h2 h3 h4 (by have := hba' h; omega) (by have := hba' h; omega)
    rw [decide_eq_true rfl, decide_eq_true rfl] at h5
    exact h5
  have hrs : ba = false → ∀ W, Kp w W → Calls Tryd.prog 34 #[.agg #[.slice A nc cc, .slice C ns kc], .agg #[.slice A2 nc2 cc2, .slice C2 ns2 kc2]] W fun e w' => e = .returned (.bool sm) ∧ Below W.heap.size W w' := fun h W hW => by
    rw [hsm]; exact rsame_any A C A2 C2 nc cc ns kc nc2 cc2 ns2 kc2 cs cs2 ss ss2 W (hC.up hW) (hS.up hW) (hC2.up hW) (hS2.up hW) (by have := hba' h; omega) (by have := hba' h; omega)
  have hkb : Kp w ((w.alloc (Obj.cells #[.slice A nc cc, .slice C ns kc] 39)).alloc (Obj.cells #[.slice A2 nc2 cc2, .slice C2 ns2 kc2] 39)) := ((Kp.refl w).alloc _).alloc _
  have d0 : ((w.alloc (Obj.cells #[.slice A nc cc, .slice C ns kc] 39)).alloc (Obj.cells #[.slice A2 nc2 cc2, .slice C2 ns2 kc2] 39)).cell? ⟨w.heap.size, 0, none⟩ = some (.slice A nc cc) := by simp [go_sem]
  have d1 : ((w.alloc (Obj.cells #[.slice A nc cc, .slice C ns kc] 39)).alloc (Obj.cells #[.slice A2 nc2 cc2, .slice C2 ns2 kc2] 39)).cell? ⟨w.heap.size, 1, none⟩ = some (.slice C ns kc) := by simp [go_sem]
  have d2 : ((w.alloc (Obj.cells #[.slice A nc cc, .slice C ns kc] 39)).alloc (Obj.cells #[.slice A2 nc2 cc2, .slice C2 ns2 kc2] 39)).cell? ⟨w.heap.size + 1, 0, none⟩ = some (.slice A2 nc2 cc2) := by simp [go_sem]
  have d3 : ((w.alloc (Obj.cells #[.slice A nc cc, .slice C ns kc] 39)).alloc (Obj.cells #[.slice A2 nc2 cc2, .slice C2 ns2 kc2] 39)).cell? ⟨w.heap.size + 1, 1, none⟩ = some (.slice C2 ns2 kc2) := by simp [go_sem]
  have HD0 := Lib.hid d0
  have HD1 := Lib.hid d1
  have HD2 := Lib.hid d2
  have HD3 := Lib.hid d3
  have HKB := Lib.hid hkb
  cases ba
  · have HCP := Lib.hid (hcp rfl)
    have HS1 := Lib.hid (hs1 rfl)
    have HS2 := Lib.hid (hs2 rfl)
    have HRS := Lib.hid (hrs rfl)
    cases bb
    · have HCP2 := Lib.hid (hcp2 rfl)
      clear hwk hg hba hbb hba' hbb' hbc hbc2 hsm hcp hcp2 hs1 hs2 hrs hC hS hC2 hS2 d0 d1 d2 d3 hkb
      go_enter Tryd.func8, Tryd.ntmps8
      go_wp2_with fail
      have hkb := HKB.out
      have d0 := HD0.out
      have d1 := HD1.out
      have d2 := HD2.out
      have d3 := HD3.out
      clear HKB HD0 HD1 HD2 HD3
      generalize (w.alloc (Obj.cells #[.slice A nc cc, .slice C ns kc] 39)).alloc (Obj.cells #[.slice A2 nc2 cc2, .slice C2 ns2 kc2] 39) = wb at *
      refine (HB.out _).mono ?_
      rintro e1 w1 ⟨rfl, hb1⟩
      have hk1 : Kp wb w1 := (Kp.refl wb).next hb1
      have c0 := hk1.cell d0
      have c1 := hk1.cell d1
      have c2 := hk1.cell d2
      have c3 := hk1.cell d3
      go_wp2_with fail
      refine (HB2.out _).mono ?_
      rintro e2 w2 ⟨rfl, hb2⟩
      have hk2 : Kp wb w2 := hk1.next hb2
      clear c0 c1 c2 c3
      have c0 := hk2.cell d0
      have c1 := hk2.cell d1
      have c2 := hk2.cell d2
      have c3 := hk2.cell d3
      go_wp2_with fail
      go_region_held3 (fun W => Kp wb W ∧ W.cell? ⟨w.heap.size, 0, none⟩ = some (.slice A nc cc) ∧ W.cell? ⟨w.heap.size, 1, none⟩ = some (.slice C ns kc) ∧ W.cell? ⟨w.heap.size + 1, 0, none⟩ = some (.slice A2 nc2 cc2) ∧ W.cell? ⟨w.heap.size + 1, 1, none⟩ = some (.slice C2 ns2 kc2)) ((go_keep; done))
        (first
          | (go_at_call 28; (first | (with_reducible refine (HCP.out _ ?_).mono ?_) | (with_reducible refine (HCP2.out _ ?_).mono ?_)); (focus (exact Kp.below (wx := wb) (by simp [*]) hkb)); rintro e9 w9 ⟨A9, C9, q9, k9, rfl, hA9, hC9, hb9⟩; have hk9 := Kp.next (wx := wb) (by simp [*]) hb9; have g0 := hk9.cell d0; have g1 := hk9.cell d1; have g2 := hk9.cell d2; have g3 := hk9.cell d3)
          | (go_at_call 39; (first | (with_reducible refine (HS1.out _ _ _ _ _ _ _ _ _ ?_ ?_ ?_ ?_).mono ?_) | (with_reducible refine (HS2.out _ _ _ _ _ _ _ _ _ ?_ ?_ ?_ ?_).mono ?_)); (focus ((first | assumption | (refine Arr.kp (by assumption) ?_; (repeat (first | exact Kp.refl _ | assumption | (simp only [Kp_drew]; done) | (rw [Kp_drew]) | refine Kp.next ?_ (by assumption))))))); (focus ((first | assumption | (refine Arr.kp (by assumption) ?_; (repeat (first | exact Kp.refl _ | assumption | (simp only [Kp_drew]; done) | (rw [Kp_drew]) | refine Kp.next ?_ (by assumption))))))); (focus ((first | assumption | (refine Arr.kp (by assumption) ?_; (repeat (first | exact Kp.refl _ | assumption | (simp only [Kp_drew]; done) | (rw [Kp_drew]) | refine Kp.next ?_ (by assumption))))))); (focus ((first | assumption | (refine Arr.kp (by assumption) ?_; (repeat (first | exact Kp.refl _ | assumption | (simp only [Kp_drew]; done) | (rw [Kp_drew]) | refine Kp.next ?_ (by assumption))))))); rintro e8 w8 ⟨rfl, hb8⟩; have hk8 := Kp.next (wx := wb) (by simp [*]) hb8; have g0 := hk8.cell d0; have g1 := hk8.cell d1; have g2 := hk8.cell d2; have g3 := hk8.cell d3)
          | (go_at_call 34; refine (HRS.out _ (Kp.below (wx := wb) (by simp [*]) hkb)).mono ?_; rintro e7 w7 ⟨rfl, hb7⟩; have hk7 := Kp.next (wx := wb) (by simp [*]) hb7; have g0 := hk7.cell d0; have g1 := hk7.cell d1; have g2 := hk7.cell d2; have g3 := hk7.cell d3)
          | (go_at_call 23; refine (HW.out _ (Kp.below (wx := wb) (by simp [*]) hkb)).mono ?_; rintro e4 w4 ⟨rfl, hb4⟩; have hk4 := Kp.next (wx := wb) (by simp [*]) hb4; have g0 := hk4.cell d0; have g1 := hk4.cell d1; have g2 := hk4.cell d2; have g3 := hk4.cell d3))
      all_goals
        go_wp2
        go_ret
        exact ⟨rfl, Kp.below (wx := wb) (by simp [*]) hkb⟩
    · clear hwk hg hba hbb hba' hbb' hbc hbc2 hsm hcp hcp2 hs1 hs2 hrs hC hS hC2 hS2 d0 d1 d2 d3 hkb
      go_enter Tryd.func8, Tryd.ntmps8
      go_wp2_with fail
      have hkb := HKB.out
      have d2 := HD2.out
      have d3 := HD3.out
      clear HKB HD0 HD1 HD2 HD3
      generalize (w.alloc (Obj.cells #[.slice A nc cc, .slice C ns kc] 39)).alloc (Obj.cells #[.slice A2 nc2 cc2, .slice C2 ns2 kc2] 39) = wb at *
      refine (HB.out _).mono ?_
      rintro e1 w1 ⟨rfl, hb1⟩
      have hk1 : Kp wb w1 := (Kp.refl wb).next hb1
      have c2 := hk1.cell d2
      have c3 := hk1.cell d3
      go_wp2_with fail
      refine (HB2.out _).mono ?_
      rintro e2 w2 ⟨rfl, hb2⟩
      have hk2 : Kp wb w2 := hk1.next hb2
      go_wp2_with fail
      refine (HW.out _ (hk2.below hkb)).mono ?_
      rintro e3 w3 ⟨rfl, hb3⟩
      have hk3 := hk2.next hb3
      go_wp2
      go_ret
      exact ⟨rfl, hk3.below hkb⟩
  · clear hwk hg hba hbb hba' hbb' hbc hbc2 hsm hcp hcp2 hs1 hs2 hrs hC hS hC2 hS2 d0 d1 d2 d3 hkb
    go_enter Tryd.func8, Tryd.ntmps8
    go_wp2_with fail
    have hkb := HKB.out
    clear HKB HD0 HD1 HD2 HD3
    generalize (w.alloc (Obj.cells #[.slice A nc cc, .slice C ns kc] 39)).alloc (Obj.cells #[.slice A2 nc2 cc2, .slice C2 ns2 kc2] 39) = wb at *
    refine (HB.out _).mono ?_
    rintro e1 w1 ⟨rfl, hb1⟩
    have hk1 : Kp wb w1 := (Kp.refl wb).next hb1
    go_wp2_with fail
    refine (HW.out _ (hk1.below hkb)).mono ?_
    rintro e3 w3 ⟨rfl, hb3⟩
    have hk3 := hk1.next hb3
    go_wp2
    go_ret
    exact ⟨rfl, hk3.below hkb⟩
end Go.Proofs.YtbdhjpdjbogggaaDoor
