/- Walk of the reference: Standard. -/
import Derived.Test.YtbdhjpdjbogggaaDoorR15
import Derived.Test.YtbdhjpdjbogggaaDoorR14
import Derived.Test.YtbdhjpdjbogggaaDoorKp
namespace Go.Proofs.YtbdhjpdjbogggaaDoor
open Go.RowKit

theorem txB_small (i : Nat) : (txB i).size ≤ 4096 := by
  by_cases h9 : i < 9
  · have h : i = 0 ∨ i = 1 ∨ i = 2 ∨ i = 3 ∨ i = 4 ∨ i = 5 ∨ i = 6 ∨ i = 7 ∨ i = 8 := by omega
    rcases h with rfl | rfl | rfl | rfl | rfl | rfl | rfl | rfl | rfl <;> decide
  · unfold txB
    rw [List.getD_eq_getElem?_getD, List.getElem?_eq_none (by have : stdTexts.length = 9 := rfl; omega)]
    decide

/-- The row of nine strings that a call gave, in a world that came out of it. -/
theorem strs_at {w : World} {f : Nat → ByteArray} {A : Option Addr} {n : Nat} (h : Arr w w.heap.size 1 A n (((List.range 9).map f).map Value.string)) :
    n = 9 ∧ ∃ b o, A = some ⟨b, o, none⟩ ∧ b < w.heap.size ∧ ∀ W, Kp w W → ∀ k : Nat, k < 9 → W.cell? ⟨b, o + k, none⟩ = some (.string (f k)) := by
  have hn : n = 9 := by have := h.1; simp at this; omega
  subst hn
  obtain ⟨b, o, rfl, hb, hc⟩ := h.2 (by decide)
  exact ⟨rfl, b, o, rfl, hb, fun W hW k hk => hW.cell (hc k _ (by rw [List.getElem?_map, List.getElem?_map, List.getElem?_range hk]; rfl))⟩

set_option maxHeartbeats 4000000 in
set_option maxRecDepth 20000 in
theorem rstandard_any (nm : ByteArray) (w : World) : Calls Tryd.prog 38 #[.string nm] w (InsRet w (stC nm.data.toList) (stS nm.data.toList) (stE nm.data.toList)) := by
  have hle := stI_le nm.data.toList
  obtain ⟨q, hq⟩ : ∃ q, q = stI nm.data.toList := ⟨_, rfl⟩
  rw [← hq] at hle
  have hcall : ∀ W, Calls Tryd.prog 33 #[.string (txB q)] W (InsRet W (psC (stdTexts.getD q [])) (psS (stdTexts.getD q [])) (psE (stdTexts.getD q []))) := fun W => by
    have h := rparse_any (txB q) W (txB_small q)
    simpa [txB] using h
  obtain ⟨pc, hpc⟩ : ∃ pc, pc = psC (stdTexts.getD q []) := ⟨_, rfl⟩
  obtain ⟨ps, hps⟩ : ∃ ps, ps = psS (stdTexts.getD q []) := ⟨_, rfl⟩
  obtain ⟨pe, hpe⟩ : ∃ pe, pe = psE (stdTexts.getD q []) := ⟨_, rfl⟩
  rw [← hpc, ← hps, ← hpe] at hcall
  have HPC := Lib.hid hpc
  have HPS := Lib.hid hps
  have HPE := Lib.hid hpe
  have HCALL := Lib.hid hcall
  have HQ := Lib.hid hq
  clear hcall hq hpc hps hpe
  go_enter Tryd.func38, Tryd.ntmps38
  go_wp2_with fail
  refine (rnames_any _).mono ?_
  rintro e1 w1 ⟨A, n, c, rfl, hA, hb1⟩
  obtain ⟨rfl, b, o, rfl, hbB, hcells⟩ := strs_at (f := nmB) hA
  have HCL := Lib.hid hcells
  have hz1 := hb1.size
  simp at hz1
  have hres : Blk w1 w.heap.size 39 #[.slice none 0 0, .slice none 0 0] := (Blk.new w 39 #[.slice none 0 0, .slice none 0 0]).below hb1 (by simp)
  have hbw1 : Below w.heap.size w w1 := ((Below.refl _ _).alloc (Nat.le_refl _) _).trans (hb1.mono (by simp))
  have d0 := hres.cell 0
  have d1 := hres.cell 1
  have f0 := hres.frozen 0
  have f1 := hres.frozen 1
  simp at d0 d1
  clear hA hcells hb1
  go_wp2
  go_loop [5] (fun i => ∃ k : Nat, k ≤ q ∧ i = .int .i64 k) (fun i => 10 - (intOf i).toNat)
  case atStart => exact ⟨0, Nat.zero_le _, rfl⟩
  case round =>
    obtain ⟨k, hk, rfl⟩ := hrel
    by_cases h9 : k = 9
    · subst h9
      have hqq : q = 9 := by omega
      have HQ9 := Lib.hid hqq
      clear hqq
      go_wp2
      refine bodyPost_ret (v := .tuple #[.agg #[.slice none 0 0, .slice none 0 0], .int .i64 3]) (by simp only [results, Tryd.results38]; go_simp) rfl ?_
      rw [stC, stS, stE, ← HQ.out, HQ9.out]
      refine ⟨none, none, 0, 0, 0, 0, rfl, Arr.nil_ _ _, Arr.nil_ _ _, (by repeat (first | exact Below.refl _ _ | assumption | refine below_drewN ?_ _ | refine Below.drew ?_ | refine Below.alloc ?_ (by first | exact Nat.le_refl _ | omega | (simp; done) | (simp; omega)) _ | refine Below.setCell ?_ (by first | exact Nat.le_refl _ | (simp; done) | (simp; omega)) _))⟩
    · have hk9 : k < 9 := by omega
      have hc := HCL.out w1 (Kp.refl _) k hk9
      obtain ⟨x, hx⟩ : ∃ x, x = nmB k := ⟨_, rfl⟩
      rw [← hx] at hc
      have HX := Lib.hid hx
      clear hx h9
      by_cases hqk : k = q
      · have hxn : x = nm := by
          have h := nmB_ne (t := nm.data.toList) (i := k) (by rw [← HQ.out]; omega) (by rw [← HQ.out]; exact hqk)
          rw [HX.out]
          exact ByteArray.ext (Array.toList_inj.1 h)
        subst hxn
        subst hqk
        go_wp2_with fail
        refine (rtexts_any _).mono ?_
        rintro e2 w2 ⟨A2, n2, c2, rfl, hA2, hb2⟩
        obtain ⟨rfl, b2, o2, rfl, hbB2, hcells2⟩ := strs_at (f := txB) hA2
        have hc2 := hcells2 w2 (Kp.refl _) k hk9
        have hz2 := hb2.size
        have hrs2 := hres.below hb2 (by omega)
        have hbw2 : Below w.heap.size w w2 := hbw1.trans (hb2.mono (by omega))
        clear hcells2 hA2 hc hb2 d0 d1 f0 f1
        go_wp2_with fail
        refine (HCALL.out _).mono ?_
        rintro e3 w3 ⟨A3, C3, n3, c3, m3, k3, rfl, hA3, hC3, hb3⟩
        have hz3 := hb3.size
        have hrs3 := hrs2.below hb3 (by omega)
        have t0 := hrs3.cell 0
        have t1 := hrs3.cell 1
        have t2 := hrs3.frozen 0
        have t3 := hrs3.frozen 1
        have l3 : w.heap.size < w3.heap.size := by omega
        simp at t0 t1
        have HA3 := Lib.hid hA3
        have HC3 := Lib.hid hC3
        have hbw3 : Below w.heap.size w w3 := hbw2.trans (hb3.mono (by omega))
        clear hA3 hC3 hrs2 hrs3 hc2
        go_wp2
        refine bodyPost_ret (v := .tuple #[.agg #[.slice A3 n3 c3, .slice C3 m3 k3], .int .i64 pe]) (by simp only [results, Tryd.results38]; go_simp) rfl ?_
        rw [stC, stS, stE, ← HQ.out, if_pos hk9, if_pos hk9, if_pos hk9, ← HPC.out, ← HPS.out, ← HPE.out]
        have hi1 : (w3.setCell ⟨w.heap.size, 0, none⟩ (.slice A3 n3 c3)).cell? ⟨w.heap.size, 1, none⟩ = some (.slice none 0 0) := (World.cell?_setCell_other _ _ _ _ (by simp)).trans t1
        refine ⟨A3, C3, n3, c3, m3, k3, rfl, ?_, ?_, (by repeat (first | exact Below.refl _ _ | assumption | refine below_drewN ?_ _ | refine Below.drew ?_ | refine Below.alloc ?_ (by first | exact Nat.le_refl _ | omega | (simp; done) | (simp; omega)) _ | refine Below.setCell ?_ (by first | exact Nat.le_refl _ | (simp; done) | (simp; omega)) _))⟩
        · rw [World.size_setCell, World.size_setCell]
          exact (HA3.out.set_slice (cells3_noslice pc) t0 _).set_slice (cells3_noslice pc) hi1 _
        · rw [World.size_setCell, World.size_setCell]
          exact (HC3.out.set_slice (ints_noslice ps) t0 _).set_slice (ints_noslice ps) hi1 _
      · have hne : (x.toList == nm.toList) = false := by
          have h := nmB_before (t := nm.data.toList) (i := k) (by rw [← HQ.out]; omega) hk9
          rw [ByteArray.toList_eq, ByteArray.toList_eq, HX.out]
          exact beq_eq_false_iff_ne.2 h
        go_wp2
        go_round
        case rel => exact ⟨k + 1, by omega, by go_num⟩
        case measure => simp [intOf]; omega
end Go.Proofs.YtbdhjpdjbogggaaDoor
