/- The law InstrumentPlaces: the walk. -/
import Derived.Test.YtbdhjpdjbogggaaDoorL3
import Derived.Test.YtbdhjpdjbogggaaDoorR17
import Derived.Test.YtbdhjpdjbogggaaDoorW17
namespace Go.Proofs.YtbdhjpdjbogggaaDoor
open Go.RowKit

theorem plOne_len (ss : List Int) (r : Int) (k : Nat) (c : Crs) (m : Nat) : (plOne ss r k c m).length ≤ m := by
  unfold plOne
  rw [List.length_map]
  exact Nat.le_trans (List.length_filter_le _ _) (by simp)
theorem plTo_len (cs : List Crs) (ss : List Int) (r : Int) (k : Nat) (h : ∀ c ∈ cs, c.f ≤ 18) (hk : k ≤ cs.length) : (plTo cs ss r k).length ≤ 19 * k := by
  induction k with
  | zero => simp [plTo]
  | succ k ih =>
    rw [plTo_succ, List.length_append]
    have h1 := plOne_len ss r k (cs.getD k default) ((cs.getD k default).f.toNat + 1)
    have h2 : (cs.getD k default).f ≤ 18 := by
      rw [List.getD_eq_getElem?_getD, List.getElem?_eq_getElem (by omega)]
      exact h _ (List.getElem_mem (by omega))
    have := ih (by omega)
    omega
theorem plV_len (cs : List Crs) (ss : List Int) (r : Int) : (plV cs ss r).length ≤ 1000 := by
  rw [plV]
  by_cases h : plE cs ss r = 0
  · rw [if_pos h]
    have hz : chk cs ss = 0 := by
      rw [plE] at h
      by_cases h2 : chk cs ss = 0
      · exact h2
      · rw [if_pos h2] at h; exact h
    obtain ⟨z1, z2, _, z4⟩ := chk_zero hz
    have := plTo_len cs ss r cs.length (fun c hc => by have := (crsE_fit (z4 c hc)).2.1; omega) (Nat.le_refl _)
    omega
  · rw [if_neg h]; simp

set_option maxHeartbeats 8000000 in
theorem places_law (A C : Option Addr) (nc cc ns kc : Nat) (cs : List Crs) (ss : List Int) (r : Int) (w : World) (hC : Arr w w.heap.size 3 A nc (cells3 cs)) (hS : Arr w w.heap.size 1 C ns (ss.map (Value.int .i64))) (hg : Gnd w) :
    Calls Tryd.prog 9 #[.agg #[.slice A nc cc, .slice C ns kc], .int .i64 r] w fun e w' => e = .returned (.bool true) ∧ Below w.heap.size w w' := by
  have hwk : ∀ W, Kp w W → Calls Tryd.prog 23 #[] W fun e w' => e = .returned (.bool true) ∧ Below W.heap.size W w' := fun W hW => works_any W (hg.up hW)
  have HW := Lib.hid hwk
  clear hwk hg
  have hkb : Kp w (w.alloc (Obj.cells #[.slice A nc cc, .slice C ns kc] 39)) := (Kp.refl w).alloc _
  have d0 : (w.alloc (Obj.cells #[.slice A nc cc, .slice C ns kc] 39)).cell? ⟨w.heap.size, 0, none⟩ = some (.slice A nc cc) := by simp [go_sem]
  have d1 : (w.alloc (Obj.cells #[.slice A nc cc, .slice C ns kc] 39)).cell? ⟨w.heap.size, 1, none⟩ = some (.slice C ns kc) := by simp [go_sem]
  have HKB := Lib.hid hkb
  have HD0 := Lib.hid d0
  have HD1 := Lib.hid d1
  clear hkb d0 d1
  by_cases hbig : 64 < nc ∨ 64 < ns
  · have hd : (decide (64 < nc) || decide (64 < ns)) = true := by simpa using hbig
    have hbc : ∀ W, Calls Tryd.prog 26 #[.agg #[.slice A nc cc, .slice C ns kc]] W fun e w' => e = .returned (.bool true) ∧ Below W.heap.size W w' := fun W => by rw [← hd]; exact big_any A C nc cc ns kc W
    have HB := Lib.hid hbc
    clear hbc hd hbig hC hS HD0 HD1
    go_enter Tryd.func9, Tryd.ntmps9
    go_wp2_with fail
    refine (HB.out _).mono ?_
    rintro e1 w1 ⟨rfl, hb1⟩
    have hk1 : Kp w w1 := Kp.next HKB.out hb1
    go_wp2_with (go_at_call 23; refine (HW.out _ hk1).mono ?_; rintro e2 w2 ⟨rfl, hb2⟩)
    go_ret
    exact ⟨rfl, hk1.next hb2⟩
  · have hd : (decide (64 < nc) || decide (64 < ns)) = false := by simpa using hbig
    have hbc : ∀ W, Calls Tryd.prog 26 #[.agg #[.slice A nc cc, .slice C ns kc]] W fun e w' => e = .returned (.bool false) ∧ Below W.heap.size W w' := fun W => by rw [← hd]; exact big_any A C nc cc ns kc W
    have hlen := plV_len cs ss r
    obtain ⟨pv, hpv⟩ : ∃ pv, pv = plV cs ss r := ⟨_, rfl⟩
    obtain ⟨pe, hpe⟩ : ∃ pe, pe = plE cs ss r := ⟨_, rfl⟩
    rw [← hpv] at hlen
    have hcp : ∀ W, Kp w W → Calls Tryd.prog 28 #[.agg #[.slice A nc cc, .slice C ns kc]] W (InsOf W cs ss nc ns) := fun W hW => copy_any A C nc cc ns kc cs ss W (hC.up hW) (hS.up hW) (by omega) (by omega)
    have hps : ∀ W A C cc kc, Arr W W.heap.size 3 A nc (cells3 cs) → Arr W W.heap.size 1 C ns (ss.map (Value.int .i64)) → Calls Tryd.prog 40 #[.agg #[.slice A nc cc, .slice C ns kc], .int .i64 r] W (PlRet W pv pe) := fun W A C cc kc hA hC => by
      rw [hpv, hpe]; exact places_any A C nc cc ns kc cs ss r W hA hC
    have hpr : ∀ W, Kp w W → Calls Tryd.prog 41 #[.agg #[.slice A nc cc, .slice C ns kc], .int .i64 r] W (PlRet W pv pe) := fun W hW => by
      rw [hpv, hpe]; exact rplaces_any A C nc cc ns kc cs ss r W (hC.up hW) (hS.up hW)
    have hsm : ∀ W A1 n1 c1 A2 n2 c2, Arr W W.heap.size 2 A1 n1 (cellsP pv) → Arr W W.heap.size 2 A2 n2 (cellsP pv) → Calls Tryd.prog 42 #[.slice A1 n1 c1, .slice A2 n2 c2] W fun e w' => e = .returned (.bool true) ∧ Below W.heap.size W w' := fun W A1 n1 c1 A2 n2 c2 h1 h2 =>
      samePlaces_self A1 A2 n1 c1 n2 c2 pv W h1 h2 (by have := h1.1; rw [cellsP_length] at this; omega)
    have HB := Lib.hid hbc
    have HCP := Lib.hid hcp
    have HPS := Lib.hid hps
    have HPR := Lib.hid hpr
    have HSM := Lib.hid hsm
    clear hbc hcp hps hpr hsm hd hpv hpe hC hS hbig hlen
    go_enter Tryd.func9, Tryd.ntmps9
    go_wp2_with fail
    have hkb := HKB.out
    have d0 := HD0.out
    have d1 := HD1.out
    clear HKB HD0 HD1
    generalize w.alloc (Obj.cells #[.slice A nc cc, .slice C ns kc] 39) = wb at *
    refine (HB.out _).mono ?_
    rintro e1 w1 ⟨rfl, hb1⟩
    have hk1 : Kp wb w1 := (Kp.refl wb).next hb1
    have c0 := hk1.cell d0
    have c1 := hk1.cell d1
    go_wp2_with fail
    refine (HCP.out _ (hk1.below hkb)).mono ?_
    rintro e2 w2 ⟨A2, C2, q2, k2, rfl, hA2, hC2, hb2⟩
    have hk2 := hk1.next hb2
    have HA2 := Lib.hid hA2
    have HC2 := Lib.hid hC2
    clear hA2 hC2 c0 c1
    go_wp2_with fail
    refine (HPS.out _ _ _ _ _ HA2.out HC2.out).mono ?_
    rintro e3 w3 ⟨A3, n3, c3, rfl, hA3, hb3⟩
    have hk3 := hk2.next hb3
    have c0 := hk3.cell d0
    have c1 := hk3.cell d1
    have HA3 := Lib.hid hA3
    clear hA3 HA2 HC2
    go_wp2_with fail
    refine (HPR.out _ (hk3.below hkb)).mono ?_
    rintro e4 w4 ⟨A4, n4, c4, rfl, hA4, hb4⟩
    have hk4 := hk3.next hb4
    have HA4 := Lib.hid hA4
    have HA5 := Lib.hid (HA3.out.kq (show Kp w3 w4 from hb4))
    clear hA4 HA3 c0 c1
    go_wp2_with (first
      | (go_at_call 42; refine (HSM.out _ _ _ _ _ _ _ HA5.out HA4.out).mono ?_; rintro e5 w5 ⟨rfl, hb5⟩; have hk5 := hk4.next hb5)
      | (go_at_call 23; refine (HW.out _ (hk5.below hkb)).mono ?_; rintro e6 w6 ⟨rfl, hb6⟩; have hk6 := hk5.next hb6))
    go_ret
    exact ⟨rfl, hk6.below hkb⟩
end Go.Proofs.YtbdhjpdjbogggaaDoor
