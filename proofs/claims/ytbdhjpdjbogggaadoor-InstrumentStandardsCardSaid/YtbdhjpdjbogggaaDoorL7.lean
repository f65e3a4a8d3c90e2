/- The law InstrumentStandards: the walk. -/
import Derived.Test.YtbdhjpdjbogggaaDoorL6
import Derived.Test.YtbdhjpdjbogggaaDoorW15
import Derived.Test.YtbdhjpdjbogggaaDoorR16
namespace Go.Proofs.YtbdhjpdjbogggaaDoor
open Go.RowKit

set_option maxRecDepth 100000 in
theorem stE_nm (k : Nat) (hk : k < 9) : stE (nmB k).data.toList = 0 := by
  have h : k = 0 ∨ k = 1 ∨ k = 2 ∨ k = 3 ∨ k = 4 ∨ k = 5 ∨ k = 6 ∨ k = 7 ∨ k = 8 := by omega
  clear hk
  rcases h with rfl | rfl | rfl | rfl | rfl | rfl | rfl | rfl | rfl
  all_goals decide +kernel

theorem stC_len (t : List UInt8) : (stC t).length ≤ 14 ∧ (stS t).length ≤ 18 := by
  rw [stC, stS]
  by_cases h : stI t < 9
  · rw [if_pos h, if_pos h]; exact psC_len _
  · rw [if_neg h, if_neg h]; exact ⟨Nat.zero_le _, Nat.zero_le _⟩

theorem rsame_self {fc : List Crs} {fs : List Int} (hlen : fc.length ≤ 14 ∧ fs.length ≤ 18) : ∀ W A1 C1 n1 c1 m1 k1 A3 C3 n3 c3 m3 k3, Arr W W.heap.size 3 A1 n1 (cells3 fc) → Arr W W.heap.size 1 C1 m1 (fs.map (Value.int .i64)) → Arr W W.heap.size 3 A3 n3 (cells3 fc) → Arr W W.heap.size 1 C3 m3 (fs.map (Value.int .i64)) →
    Calls Tryd.prog 34 #[.agg #[.slice A1 n1 c1, .slice C1 m1 k1], .agg #[.slice A3 n3 c3, .slice C3 m3 k3]] W fun e w' => e = .returned (.bool true) ∧ Below W.heap.size W w' := fun W A1 C1 n1 c1 m1 k1 A3 C3 n3 c3 m3 k3 h1 h2 h3 h4 => by
  have hl1 : fc.length = n1 := by have := h1.1; rw [cells3_length] at this; omega
  have hl2 : fs.length = m1 := by have := h2.1; simpa using this
  have h5 := rsame_any A1 C1 A3 C3 n1 c1 m1 k1 n3 c3 m3 k3 fc fc fs fs W h1 h2 h3 h4 (by omega) (by omega)
  rw [decide_eq_true rfl, decide_eq_true rfl] at h5
  exact h5

set_option maxRecDepth 100000 in
set_option maxHeartbeats 8000000 in
theorem standards_law (s : ByteArray) (w : World) (hg : Gnd w) : Calls Tryd.prog 7 #[.string s] w fun e w' => e = .returned (.bool true) ∧ Below w.heap.size w w' := by
  have hwk : ∀ W, Kp w W → Calls Tryd.prog 23 #[] W fun e w' => e = .returned (.bool true) ∧ Below W.heap.size W w' := fun W hW => works_any W (hg.up hW)
  have hst : ∀ W, Kp w W → ∀ x, Calls Tryd.prog 37 #[.string x] W (InsRet W (stC x.data.toList) (stS x.data.toList) (stE x.data.toList)) := fun W hW x => standard_any x W (hg.up hW)
  have HW := Lib.hid hwk
  have HST := Lib.hid hst
  clear hwk hst hg
  go_enter Tryd.func7, Tryd.ntmps7
  go_wp2_with fail
  refine (names9_any _).mono ?_
  rintro e1 w1 ⟨A, n, c, rfl, hA, hb1⟩
  obtain ⟨rfl, b, o, rfl, _, hcl⟩ := strs_at (f := nmB) hA
  have hk1 : Kp w w1 := hb1
  go_wp2_with fail
  refine (rnames_any _).mono ?_
  rintro e2 w2 ⟨A2, n2, c2, rfl, hA2, hb2⟩
  obtain ⟨rfl, b2, o2, rfl, _, hcl2⟩ := strs_at (f := nmB) hA2
  have hk2 : Kp w1 w2 := hb2
  have hkw2 : Kp w w2 := hk2.below hk1
  have hcm : ∀ W, Kp w2 W → ∀ k : Nat, k < 9 → W.cell? ⟨b, o + k, none⟩ = some (.string (nmB k)) := fun W hW => hcl W (hW.below hk2)
  have HCL := Lib.hid hcm
  have HCL2 := Lib.hid hcl2
  clear hA hA2 hcl hcl2 hcm hb1 hb2 hk1 hk2
  go_wp2_with fail
  go_loopw [5] (fun i wr => ∃ k : Nat, k ≤ 9 ∧ i = .int .i64 k ∧ Kp w2 wr) (fun i _ => 10 - (intOf i).toNat)
  case atStart => exact ⟨0, Nat.zero_le _, rfl, Kp.refl _⟩
  case round =>
    obtain ⟨k, hk, rfl, hkr⟩ := hrel
    have hkw : Kp w wr := hkr.below hkw2
    clear hkw2
    by_cases h9 : k = 9
    · subst h9
      have hlen := stC_len s.data.toList
      obtain ⟨er, hE⟩ : ∃ er, er = stE s.data.toList := ⟨_, rfl⟩
      obtain ⟨fc, hFC⟩ : ∃ fc, fc = stC s.data.toList := ⟨_, rfl⟩
      obtain ⟨fs, hFS⟩ : ∃ fs, fs = stS s.data.toList := ⟨_, rfl⟩
      rw [← hFC, ← hFS] at hlen
      have hps : ∀ W, Kp w W → Calls Tryd.prog 37 #[.string s] W (InsRet W fc fs er) := fun W hW => by
        rw [hE, hFC, hFS]
        exact HST.out W hW s
      have hpr : ∀ W, Calls Tryd.prog 38 #[.string s] W (InsRet W fc fs er) := fun W => by
        rw [hE, hFC, hFS]
        exact rstandard_any s W
      have HPS := Lib.hid hps
      have HPR := Lib.hid hpr
      have HSM := Lib.hid (rsame_self hlen)
      clear hlen hE hFC hFS hps hpr HST HCL HCL2 hkr
      go_wp2_with fail
      refine (HPS.out _ hkw).mono ?_
      rintro e1 w1 ⟨A, C, nc, cc, ns, kc, rfl, hA, hC, hb1⟩
      have hk1 : Kp w w1 := Kp.below hb1 hkw
      have hkc : Kp w1 (w1.alloc (Obj.cells #[.slice A nc cc, .slice C ns kc] 39)) := (Kp.refl w1).alloc _
      have c0 : (w1.alloc (Obj.cells #[.slice A nc cc, .slice C ns kc] 39)).cell? ⟨w1.heap.size, 0, none⟩ = some (.slice A nc cc) := by simp [go_sem]
      have c1 : (w1.alloc (Obj.cells #[.slice A nc cc, .slice C ns kc] 39)).cell? ⟨w1.heap.size, 1, none⟩ = some (.slice C ns kc) := by simp [go_sem]
      have hA' := hA.kp hkc
      have hC' := hC.kp hkc
      have HA := Lib.hid hA'
      have HC := Lib.hid hC'
      clear hA hC hA' hC' hkw
      go_wp2_with fail
      have hkw : Kp w (w1.alloc (Obj.cells #[.slice A nc cc, .slice C ns kc] 39)) := hk1.alloc _
      generalize w1.alloc (Obj.cells #[.slice A nc cc, .slice C ns kc] 39) = wa at *
      refine (HPR.out _).mono ?_
      rintro e2 w3 ⟨A2, C2, nc2, cc2, ns2, kc2, rfl, hA2, hC2, hb2⟩
      have hk2 : Kp wa w3 := hb2
      have hk3 : Kp wa (w3.alloc (Obj.cells #[.slice A2 nc2 cc2, .slice C2 ns2 kc2] 39)) := hk2.alloc _
      have hk4 : Kp w3 (w3.alloc (Obj.cells #[.slice A2 nc2 cc2, .slice C2 ns2 kc2] 39)) := (Kp.refl w3).alloc _
      have d0 := hk3.cell c0
      have d1 := hk3.cell c1
      have d2 : (w3.alloc (Obj.cells #[.slice A2 nc2 cc2, .slice C2 ns2 kc2] 39)).cell? ⟨w3.heap.size, 0, none⟩ = some (.slice A2 nc2 cc2) := by simp [go_sem]
      have d3 : (w3.alloc (Obj.cells #[.slice A2 nc2 cc2, .slice C2 ns2 kc2] 39)).cell? ⟨w3.heap.size, 1, none⟩ = some (.slice C2 ns2 kc2) := by simp [go_sem]
      have HA1 := Lib.hid (HA.out.kp hk3)
      have HC1 := Lib.hid (HC.out.kp hk3)
      have HA2 := Lib.hid (hA2.kp hk4)
      have HC2 := Lib.hid (hC2.kp hk4)
      have hkb : Kp w (w3.alloc (Obj.cells #[.slice A2 nc2 cc2, .slice C2 ns2 kc2] 39)) := Kp.below hk3 hkw
      clear hA2 hC2 HA HC c0 c1 hk4
      go_wp2_with fail
      generalize w3.alloc (Obj.cells #[.slice A2 nc2 cc2, .slice C2 ns2 kc2] 39) = wb at *
      clear hk1 hkc hkw hk2 hk3 hb1 hb2
      have hk0 := Kp.refl wb
      go_wp2_with (first
        | (go_at_call 34; refine (HSM.out _ _ _ _ _ _ _ _ _ _ _ _ _ HA1.out HC1.out HA2.out HC2.out).mono ?_; rintro e5 w5 ⟨rfl, hb5⟩; have hk5 := hk0.next hb5)
        | (go_at_call 23; refine (HW.out _ (hk5.below hkb)).mono ?_; rintro e6 w6 ⟨rfl, hb6⟩; have hk6 := hk5.next hb6))
      go_ret
      exact ⟨rfl, hk6.below hkb⟩
    · have hk9 : k < 9 := by omega
      have hlen := stC_len (nmB k).data.toList
      have hE := stE_nm k hk9
      have g0 := HCL2.out wr hkr k hk9
      have hcx : ∀ W, Kp wr W → W.cell? ⟨b, o + k, none⟩ = some (.string (nmB k)) ∧ W.cell? ⟨b2, o2 + k, none⟩ = some (.string (nmB k)) := fun W hW => ⟨HCL.out W (hW.below hkr) k hk9, HCL2.out W (hW.below hkr) k hk9⟩
      have hps := fun W hW => HST.out W hW (nmB k)
      have hpr : ∀ W, Calls Tryd.prog 38 #[.string (nmB k)] W (InsRet W (stC (nmB k).data.toList) (stS (nmB k).data.toList) (stE (nmB k).data.toList)) := fun W => rstandard_any (nmB k) W
      rw [hE] at hps hpr
      obtain ⟨x, hx⟩ : ∃ x, x = nmB k := ⟨_, rfl⟩
      rw [← hx] at hps hpr g0 hcx hlen
      obtain ⟨fc, hFC⟩ : ∃ fc, fc = stC x.data.toList := ⟨_, rfl⟩
      obtain ⟨fs, hFS⟩ : ∃ fs, fs = stS x.data.toList := ⟨_, rfl⟩
      rw [← hFC, ← hFS] at hlen hps hpr
      have HPS := Lib.hid hps
      have HPR := Lib.hid hpr
      have HSM := Lib.hid (rsame_self hlen)
      have HCX := Lib.hid hcx
      have hi0 : (0 : Int) ≤ (k : Int) := by omega
      have hi1 : (k : Int) < 9 := by omega
      clear hlen hE hFC hFS hps hpr HST HCL HCL2 hcx hx h9
      go_wp2_with fail
      refine (HPS.out _ hkw).mono ?_
      rintro e1 w1 ⟨A, C, nc, cc, ns, kc, rfl, hA, hC, hb1⟩
      have hk1 : Kp wr w1 := hb1
      have hkc : Kp w1 (w1.alloc (Obj.cells #[.slice A nc cc, .slice C ns kc] 39)) := (Kp.refl w1).alloc _
      have c0 : (w1.alloc (Obj.cells #[.slice A nc cc, .slice C ns kc] 39)).cell? ⟨w1.heap.size, 0, none⟩ = some (.slice A nc cc) := by simp [go_sem]
      have c1 : (w1.alloc (Obj.cells #[.slice A nc cc, .slice C ns kc] 39)).cell? ⟨w1.heap.size, 1, none⟩ = some (.slice C ns kc) := by simp [go_sem]
      have hA' := hA.kp hkc
      have hC' := hC.kp hkc
      have HA := Lib.hid hA'
      have HC := Lib.hid hC'
      have g1 := (HCX.out _ (hk1.alloc (Obj.cells #[.slice A nc cc, .slice C ns kc] 39))).2
      clear hA hC hA' hC' hkw g0
      go_wp2_with fail
      have hkw : Kp wr (w1.alloc (Obj.cells #[.slice A nc cc, .slice C ns kc] 39)) := hk1.alloc _
      generalize w1.alloc (Obj.cells #[.slice A nc cc, .slice C ns kc] 39) = wa at *
      refine (HPR.out _).mono ?_
      rintro e2 w3 ⟨A2, C2, nc2, cc2, ns2, kc2, rfl, hA2, hC2, hb2⟩
      have hk2 : Kp wa w3 := hb2
      have hk3 : Kp wa (w3.alloc (Obj.cells #[.slice A2 nc2 cc2, .slice C2 ns2 kc2] 39)) := hk2.alloc _
      have hk4 : Kp w3 (w3.alloc (Obj.cells #[.slice A2 nc2 cc2, .slice C2 ns2 kc2] 39)) := (Kp.refl w3).alloc _
      have d0 := hk3.cell c0
      have d1 := hk3.cell c1
      have d2 : (w3.alloc (Obj.cells #[.slice A2 nc2 cc2, .slice C2 ns2 kc2] 39)).cell? ⟨w3.heap.size, 0, none⟩ = some (.slice A2 nc2 cc2) := by simp [go_sem]
      have d3 : (w3.alloc (Obj.cells #[.slice A2 nc2 cc2, .slice C2 ns2 kc2] 39)).cell? ⟨w3.heap.size, 1, none⟩ = some (.slice C2 ns2 kc2) := by simp [go_sem]
      have HA1 := Lib.hid (HA.out.kp hk3)
      have HC1 := Lib.hid (HC.out.kp hk3)
      have HA2 := Lib.hid (hA2.kp hk4)
      have HC2 := Lib.hid (hC2.kp hk4)
      have hkb : Kp wr (w3.alloc (Obj.cells #[.slice A2 nc2 cc2, .slice C2 ns2 kc2] 39)) := Kp.below hk3 hkw
      clear hA2 hC2 HA HC c0 c1 hk4 g1
      go_wp2_with fail
      generalize w3.alloc (Obj.cells #[.slice A2 nc2 cc2, .slice C2 ns2 kc2] 39) = wb at *
      obtain ⟨d4, d5⟩ := HCX.out wb hkb
      clear hk1 hkc hkw hk2 hk3 hb1 hb2 HCX
      have hk0 := Kp.refl wb
      go_region_held3 (fun W => Kp wb W ∧ W.cell? ⟨w1.heap.size, 0, none⟩ = some (.slice A nc cc) ∧ W.cell? ⟨w1.heap.size, 1, none⟩ = some (.slice C ns kc) ∧ W.cell? ⟨w3.heap.size, 0, none⟩ = some (.slice A2 nc2 cc2) ∧ W.cell? ⟨w3.heap.size, 1, none⟩ = some (.slice C2 ns2 kc2) ∧
          W.cell? ⟨b, o + k, none⟩ = some (.string x) ∧ W.cell? ⟨b2, o2 + k, none⟩ = some (.string x)) ((go_keep; done))
        (first
          | (go_at_call 34; refine (HSM.out _ _ _ _ _ _ _ _ _ _ _ _ _ ?_ ?_ ?_ ?_).mono ?_; (focus ((first | exact HA1.out | exact Arr.kp HA1.out (by repeat (first | exact Kp.refl _ | assumption | (simp only [Kp_drew]; done) | (rw [Kp_drew]) | refine Kp.next ?_ (by assumption)))))); (focus ((first | exact HC1.out | exact Arr.kp HC1.out (by repeat (first | exact Kp.refl _ | assumption | (simp only [Kp_drew]; done) | (rw [Kp_drew]) | refine Kp.next ?_ (by assumption)))))); (focus ((first | exact HA2.out | exact Arr.kp HA2.out (by repeat (first | exact Kp.refl _ | assumption | (simp only [Kp_drew]; done) | (rw [Kp_drew]) | refine Kp.next ?_ (by assumption)))))); (focus ((first | exact HC2.out | exact Arr.kp HC2.out (by repeat (first | exact Kp.refl _ | assumption | (simp only [Kp_drew]; done) | (rw [Kp_drew]) | refine Kp.next ?_ (by assumption)))))); rintro e8 w8 ⟨rfl, hb8⟩; have hk8 := Kp.next (wx := wb) (by simp [*]) hb8; have g0 := hk8.cell d0; have g1 := hk8.cell d1; have g2 := hk8.cell d2; have g3 := hk8.cell d3; have g4 := hk8.cell d4; have g5 := hk8.cell d5))
      go_wp2
      go_roundw
      case rel => exact ⟨k + 1, by omega, by go_num, Kp.below (Kp.below (wx := wb) (by simp [*]) hkb) hkr⟩
      case measure => simp [intOf]; omega
end Go.Proofs.YtbdhjpdjbogggaaDoor
