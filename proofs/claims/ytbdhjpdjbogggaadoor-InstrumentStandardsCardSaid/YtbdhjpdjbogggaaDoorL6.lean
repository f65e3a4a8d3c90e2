/- The law InstrumentParses: the walk. -/
import Derived.Test.YtbdhjpdjbogggaaDoorL3
import Derived.Test.YtbdhjpdjbogggaaDoorR7
import Derived.Test.YtbdhjpdjbogggaaDoorR14
import Derived.Test.YtbdhjpdjbogggaaDoorW9
namespace Go.Proofs.YtbdhjpdjbogggaaDoor
open Go.RowKit

theorem psC_len (t : List UInt8) : (psC t).length ≤ 14 ∧ (psS t).length ≤ 18 := by
  by_cases h : psE t = 0
  · have h0 := h
    rw [psE, wsE] at h0
    have hz : chk (cVal ((splitC 32 t).take (ixOf [58] (splitC 32 t)))) (nVal ((splitC 32 t).drop (ixOf [58] (splitC 32 t) + 1))) = 0 := by
      split at h0
      · cases h0
      · split at h0
        · exact absurd h0 (by assumption)
        · split at h0
          · cases h0
          · exact h0
    have := chk_zero hz
    rw [psC, psS, if_pos h, if_pos h]
    exact ⟨this.1, this.2.1⟩
  · rw [psC, psS, if_neg h, if_neg h]
    exact ⟨Nat.zero_le _, Nat.zero_le _⟩

set_option maxHeartbeats 4000000 in
theorem parses_any (s : ByteArray) (w : World) (hg : Gnd w) : Calls Tryd.prog 6 #[.string s] w fun e w' => e = .returned (.bool true) ∧ Below w.heap.size w w' := by
  have hwk : ∀ W, Kp w W → Calls Tryd.prog 23 #[] W fun e w' => e = .returned (.bool true) ∧ Below W.heap.size W w' := fun W hW => works_any W (hg.up hW)
  have HW := Lib.hid hwk
  by_cases hbig : 4096 < s.size
  · have hd : decide ((4096 : Int) < (s.size : Int)) = true := by simp; omega
    clear hwk hg hbig
    go_enter Tryd.func6, Tryd.ntmps6
    go_wp2_with (go_at_call 23; refine (HW.out _ (Kp.refl _)).mono ?_; rintro e1 w1 ⟨rfl, hb1⟩)
    go_ret
    exact ⟨rfl, hb1⟩
  · have hd : decide ((4096 : Int) < (s.size : Int)) = false := by simp; omega
    have hlen := psC_len s.data.toList
    obtain ⟨er, hE⟩ : ∃ er, er = psE s.data.toList := ⟨_, rfl⟩
    obtain ⟨fc, hFC⟩ : ∃ fc, fc = psC s.data.toList := ⟨_, rfl⟩
    obtain ⟨fs, hFS⟩ : ∃ fs, fs = psS s.data.toList := ⟨_, rfl⟩
    rw [← hFC, ← hFS] at hlen
    have hps : ∀ W, Kp w W → Calls Tryd.prog 32 #[.string s] W (InsRet W fc fs er) := fun W hW => by
      rw [hE, hFC, hFS]
      exact parse_any s W (hg.up hW) (by omega)
    have hpr : ∀ W, Calls Tryd.prog 33 #[.string s] W (InsRet W fc fs er) := fun W => by
      rw [hE, hFC, hFS]
      exact rparse_any s W (by omega)
    have hsm : ∀ W A1 C1 n1 c1 m1 k1 A3 C3 n3 c3 m3 k3, Arr W W.heap.size 3 A1 n1 (cells3 fc) → Arr W W.heap.size 1 C1 m1 (fs.map (Value.int .i64)) → Arr W W.heap.size 3 A3 n3 (cells3 fc) → Arr W W.heap.size 1 C3 m3 (fs.map (Value.int .i64)) →
        Calls Tryd.prog 34 #[.agg #[.slice A1 n1 c1, .slice C1 m1 k1], .agg #[.slice A3 n3 c3, .slice C3 m3 k3]] W fun e w' => e = .returned (.bool true) ∧ Below W.heap.size W w' := fun W A1 C1 n1 c1 m1 k1 A3 C3 n3 c3 m3 k3 h1 h2 h3 h4 => by
      have hl1 : fc.length = n1 := by have := h1.1; rw [cells3_length] at this; omega
      have hl2 : fs.length = m1 := by have := h2.1; simpa using this
      have h5 := rsame_any A1 C1 A3 C3 n1 c1 m1 k1 n3 c3 m3 k3 fc fc fs fs W h1 h2 h3 h4 (by omega) (by omega)
      rw [decide_eq_true rfl, decide_eq_true rfl] at h5
      exact h5
    have HPS := Lib.hid hps
    have HPR := Lib.hid hpr
    have HSM := Lib.hid hsm
    clear hwk hg hbig hlen hE hFC hFS hps hpr hsm
    go_enter Tryd.func6, Tryd.ntmps6
    go_wp2_with fail
    refine (HPS.out _ (Kp.refl _)).mono ?_
    rintro e1 w1 ⟨A, C, nc, cc, ns, kc, rfl, hA, hC, hb1⟩
    have hk1 : Kp w w1 := hb1
    have hkc : Kp w1 (w1.alloc (Obj.cells #[.slice A nc cc, .slice C ns kc] 39)) := (Kp.refl w1).alloc _
    have c0 : (w1.alloc (Obj.cells #[.slice A nc cc, .slice C ns kc] 39)).cell? ⟨w1.heap.size, 0, none⟩ = some (.slice A nc cc) := by simp [go_sem]
    have c1 : (w1.alloc (Obj.cells #[.slice A nc cc, .slice C ns kc] 39)).cell? ⟨w1.heap.size, 1, none⟩ = some (.slice C ns kc) := by simp [go_sem]
    have hA' := hA.kp hkc
    have hC' := hC.kp hkc
    have HA := Lib.hid hA'
    have HC := Lib.hid hC'
    clear hA hC hA' hC'
    go_wp2_with fail
    have hkw : Kp w (w1.alloc (Obj.cells #[.slice A nc cc, .slice C ns kc] 39)) := hk1.alloc _
    generalize w1.alloc (Obj.cells #[.slice A nc cc, .slice C ns kc] 39) = wa at *
    refine (HPR.out _).mono ?_
    rintro e2 w2 ⟨A2, C2, nc2, cc2, ns2, kc2, rfl, hA2, hC2, hb2⟩
    have hk2 : Kp wa w2 := hb2
    have hk3 : Kp wa (w2.alloc (Obj.cells #[.slice A2 nc2 cc2, .slice C2 ns2 kc2] 39)) := hk2.alloc _
    have hk4 : Kp w2 (w2.alloc (Obj.cells #[.slice A2 nc2 cc2, .slice C2 ns2 kc2] 39)) := (Kp.refl w2).alloc _
    have d0 := hk3.cell c0
    have d1 := hk3.cell c1
    have d2 : (w2.alloc (Obj.cells #[.slice A2 nc2 cc2, .slice C2 ns2 kc2] 39)).cell? ⟨w2.heap.size, 0, none⟩ = some (.slice A2 nc2 cc2) := by simp [go_sem]
    have d3 : (w2.alloc (Obj.cells #[.slice A2 nc2 cc2, .slice C2 ns2 kc2] 39)).cell? ⟨w2.heap.size, 1, none⟩ = some (.slice C2 ns2 kc2) := by simp [go_sem]
    have HA1 := Lib.hid (HA.out.kp hk3)
    have HC1 := Lib.hid (HC.out.kp hk3)
    have HA2 := Lib.hid (hA2.kp hk4)
    have HC2 := Lib.hid (hC2.kp hk4)
    have hkb : Kp w (w2.alloc (Obj.cells #[.slice A2 nc2 cc2, .slice C2 ns2 kc2] 39)) := Kp.below hk3 hkw
    clear hA2 hC2 HA HC c0 c1 hk4
    go_wp2_with fail
    generalize w2.alloc (Obj.cells #[.slice A2 nc2 cc2, .slice C2 ns2 kc2] 39) = wb at *
    clear hk1 hkc hkw hk2 hk3 hb1 hb2
    have hk0 := Kp.refl wb
    go_wp2_with (first
      | (go_at_call 34; refine (HSM.out _ _ _ _ _ _ _ _ _ _ _ _ _ HA1.out HC1.out HA2.out HC2.out).mono ?_; rintro e5 w5 ⟨rfl, hb5⟩; have hk5 := hk0.next hb5)
      | (go_at_call 23; refine (HW.out _ (hk5.below hkb)).mono ?_; rintro e6 w6 ⟨rfl, hb6⟩; have hk6 := hk5.next hb6))
    go_ret
    exact ⟨rfl, hk6.below hkb⟩
end Go.Proofs.YtbdhjpdjbogggaaDoor
