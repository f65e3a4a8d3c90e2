/- Walks: Standard. -/
import Derived.Test.YtbdhjpdjbogggaaDoorW10a
namespace Go.Proofs.YtbdhjpdjbogggaaDoor
open Go.RowKit

theorem Arr.set_slice {w : World} {B size n : Nat} {A : Option Addr} {xs : List Value} (h : Arr w B size A n xs) (hx : ∀ u ∈ xs, ∀ a k c, u ≠ .slice a k c)
    {q o : Nat} {a : Option Addr} {k c : Nat} (hs : w.cell? ⟨q, o, none⟩ = some (.slice a k c)) (v : Value) : Arr (w.setCell ⟨q, o, none⟩ v) B size A n xs :=
  ⟨h.1, fun hn => by
    obtain ⟨b, o2, e, hlt, hc⟩ := h.2 hn
    refine ⟨b, o2, e, hlt, fun j u hu => ?_⟩
    have h1 := hc j u hu
    rw [World.cell?_setCell_other _ _ _ _ (fun e2 => by
      rw [← e2, hs] at h1
      exact hx u (List.mem_of_getElem? hu) a k c (Option.some.inj h1).symm), h1]⟩

theorem cells3_noslice (cs : List Crs) : ∀ u ∈ cells3 cs, ∀ a k c, u ≠ .slice a k c := by
  intro u hu a k c e
  subst e
  simp [cells3] at hu
  obtain ⟨x, _, hx⟩ := hu
  simp [Crs.cells] at hx
theorem ints_noslice (ss : List Int) : ∀ u ∈ ss.map (Value.int .i64), ∀ a k c, u ≠ .slice a k c := by
  intro u hu a k c e
  subst e
  simp at hu

def nmB (i : Nat) : ByteArray := ⟨(stdNames.getD i []).toArray⟩
def txB (i : Nat) : ByteArray := ⟨(stdTexts.getD i []).toArray⟩

set_option maxRecDepth 100000 in
theorem std_index (i : Nat) (hi : i < 9) (w : World) : (Instr.index 94 stdV (.int .i64 (i : Int))).run Tryd.prog w = .ok (.agg #[.string (nmB i), .string (txB i)]) w := by
  have h : i = 0 ∨ i = 1 ∨ i = 2 ∨ i = 3 ∨ i = 4 ∨ i = 5 ∨ i = 6 ∨ i = 7 ∨ i = 8 := by omega
  clear hi
  rcases h with rfl | rfl | rfl | rfl | rfl | rfl | rfl | rfl | rfl
  all_goals rfl

/-- The index of a name among the standard ones (9: none). -/
def stI (t : List UInt8) : Nat := stdNames.findIdx (fun x => decide (x = t))
def stC (t : List UInt8) : List Crs := if stI t < 9 then psC (stdTexts.getD (stI t) []) else []
def stS (t : List UInt8) : List Int := if stI t < 9 then psS (stdTexts.getD (stI t) []) else []
def stE (t : List UInt8) : Int := if stI t < 9 then psE (stdTexts.getD (stI t) []) else 3

theorem nmB_ne {t : List UInt8} {i : Nat} (h9 : stI t < 9) (hi : i = stI t) : (nmB i).data.toList = t := by
  subst hi
  have h := List.findIdx_getElem (p := fun x => decide (x = t)) (xs := stdNames) (w := by exact h9)
  unfold nmB
  rw [List.getD_eq_getElem?_getD, List.getElem?_eq_getElem (by exact h9)]
  exact of_decide_eq_true h
theorem nmB_before {t : List UInt8} {i : Nat} (hi : i < stI t) (h9 : i < 9) : (nmB i).data.toList ≠ t := by
  have h := List.not_of_lt_findIdx (p := fun x => decide (x = t)) (xs := stdNames) (i := i) (by exact hi)
  unfold nmB
  rw [List.getD_eq_getElem?_getD, List.getElem?_eq_getElem (by exact h9)]
  have h2 := of_decide_eq_false h
  exact h2
theorem stI_le (t : List UInt8) : stI t ≤ 9 := List.findIdx_le_length
theorem txB_size (i : Nat) : (txB i).size < 4294967281 := by
  by_cases h9 : i < 9
  · have h : i = 0 ∨ i = 1 ∨ i = 2 ∨ i = 3 ∨ i = 4 ∨ i = 5 ∨ i = 6 ∨ i = 7 ∨ i = 8 := by omega
    rcases h with rfl | rfl | rfl | rfl | rfl | rfl | rfl | rfl | rfl <;> decide
  · unfold txB
    rw [List.getD_eq_getElem?_getD, List.getElem?_eq_none (by have : stdTexts.length = 9 := rfl; omega)]
    decide

set_option maxHeartbeats 4000000 in
set_option maxRecDepth 20000 in
theorem standard_any (nm : ByteArray) (w : World) (hg : Gnd w) : Calls Tryd.prog 37 #[.string nm] w (InsRet w (stC nm.data.toList) (stS nm.data.toList) (stE nm.data.toList)) := by
  have hle := stI_le nm.data.toList
  obtain ⟨q, hq⟩ : ∃ q, q = stI nm.data.toList := ⟨_, rfl⟩
  rw [← hq] at hle
  have hcall : ∀ W, Below w.heap.size w W → Calls Tryd.prog 32 #[.string (txB q)] W (InsRet W (psC (stdTexts.getD q [])) (psS (stdTexts.getD q [])) (psE (stdTexts.getD q []))) := fun W hW => by
    have h := parse_any (txB q) W (hg.up hW) (txB_size q)
    simpa [txB] using h
  obtain ⟨pc, hpc⟩ : ∃ pc, pc = psC (stdTexts.getD q []) := ⟨_, rfl⟩
  obtain ⟨ps, hps⟩ : ∃ ps, ps = psS (stdTexts.getD q []) := ⟨_, rfl⟩
  obtain ⟨pe, hpe⟩ : ∃ pe, pe = psE (stdTexts.getD q []) := ⟨_, rfl⟩
  rw [← hpc, ← hps, ← hpe] at hcall
  have HPC := Lib.hid hpc
  have HPS := Lib.hid hps
  have HPE := Lib.hid hpe
  have HCALL := Lib.hid hcall
  have HQ := Lib.hid hq
  clear hcall hg hq hpc hps hpe
  go_enter Tryd.func37, Tryd.ntmps37
  go_wp2_with (first | (go_at_call 78; refine (standards_any _).mono ?_; rintro e1 w1 ⟨rfl, hb1⟩; have hz1 := hb1.size; (try simp at hz1); have hc1 := (bcell hb1).1; have hf1 := (bcell hb1).2))
  rw [World.size_alloc] at hb1 hc1 hf1
  have hb1' := below_box hb1
  have d0 : w1.cell? ⟨w.heap.size, 0, none⟩ = some (.slice none 0 0) := by rw [hc1 _ _ (by simp)]; simp [go_sem]
  have d1 : w1.cell? ⟨w.heap.size, 1, none⟩ = some (.slice none 0 0) := by rw [hc1 _ _ (by simp)]; simp [go_sem]
  have f0 : w1.frozen? ⟨w.heap.size, 0, none⟩ = false := by rw [hf1 _ _ (by simp)]; simp [go_sem]
  have f1 : w1.frozen? ⟨w.heap.size, 1, none⟩ = false := by rw [hf1 _ _ (by simp)]; simp [go_sem]
  clear hc1 hf1 hb1
  go_loopw [7] (fun i wr => ∃ k : Nat, k ≤ q ∧ i = .int .i64 k ∧ Below w1.heap.size w1 wr)
    (fun i _ => 10 - (intOf i).toNat)
  case atStart => exact ⟨0, Nat.zero_le _, rfl, Below.refl _ _⟩
  case round =>
    obtain ⟨k, hk, rfl, hb⟩ := hrel
    have hbs := hb.size
    have e0 := ((bcell hb).1 w.heap.size 0 (by omega)).trans d0
    have e1 := ((bcell hb).1 w.heap.size 1 (by omega)).trans d1
    have g0 := ((bcell hb).2 w.heap.size 0 (by omega)).trans f0
    have g1 := ((bcell hb).2 w.heap.size 1 (by omega)).trans f1
    clear d0 d1 f0 f1
    by_cases h9 : k = 9
    · subst h9
      have hqq : q = 9 := by omega
      have HQ9 := Lib.hid hqq
      clear hqq
      go_wp2
      refine bodyPost_ret (v := .tuple #[.agg #[.slice none 0 0, .slice none 0 0], .int .i64 3]) (by simp only [results, Tryd.results37]; go_simp) rfl ?_
      rw [stC, stS, stE, ← HQ.out, HQ9.out]
      refine ⟨none, none, 0, 0, 0, 0, rfl, Arr.nil_ _ _, Arr.nil_ _ _, ?_⟩
      refine Below.trans (hb1'.trans (hb.mono (by omega))) ?_
      (repeat (first | exact Below.refl _ _ | assumption | refine below_drewN ?_ _ | refine Below.drew ?_ | refine Below.alloc ?_ (by first | exact Nat.le_refl _ | omega | (simp; done) | (simp; omega)) _ | refine Below.setCell ?_ (by first | exact Nat.le_refl _ | (simp; done) | (simp; omega)) _))
    · have hk9 : k < 9 := by omega
      have hix := std_index k hk9
      obtain ⟨x, hx⟩ : ∃ x, x = nmB k := ⟨_, rfl⟩
      obtain ⟨y, hy⟩ : ∃ y, y = txB k := ⟨_, rfl⟩
      rw [← hx, ← hy] at hix
      have HX := Lib.hid hx
      have HY := Lib.hid hy
      clear hx hy h9
      by_cases hqk : k = q
      · have hxn : x = nm := by
          have h := nmB_ne (t := nm.data.toList) (i := k) (by rw [← HQ.out]; omega) (by rw [← HQ.out]; exact hqk)
          rw [HX.out]
          exact ByteArray.ext (Array.toList_inj.1 h)
        have hyt : y = txB q := by rw [HY.out, hqk]
        subst hxn
        subst hyt
        have hbw : Below w.heap.size w wr := hb1'.trans (hb.mono (by omega))
        have hq9 : q < 9 := by omega
        have HQK := Lib.hid hqk
        clear hqk
        go_wp2_with (first | (go_at_call 32; refine (HCALL.out _ ?_).mono ?_; (repeat (first | exact Below.refl _ _ | assumption | refine below_drewN ?_ _ | refine Below.drew ?_ | refine Below.alloc ?_ (by first | exact Nat.le_refl _ | omega | (simp; done) | (simp; omega)) _ | refine Below.setCell ?_ (by first | exact Nat.le_refl _ | (simp; done) | (simp; omega)) _)); rintro e2 w2 ⟨A, C, n1, c1, n2, c2, rfl, hA, hC, hb3⟩; rw [World.size_alloc] at hb3; have hz3 := hb3.size; (try simp at hz3); have i0 := ((bcell hb3).1 w.heap.size 0 (by omega)).trans ((World.cell?_alloc_lt _ _ _ (by show w.heap.size < wr.heap.size; omega)).trans e0); have i1 := ((bcell hb3).1 w.heap.size 1 (by omega)).trans ((World.cell?_alloc_lt _ _ _ (by show w.heap.size < wr.heap.size; omega)).trans e1); have j0 := ((bcell hb3).2 w.heap.size 0 (by omega)).trans ((World.frozen?_alloc_past _ _ _ (by show w.heap.size < wr.heap.size; omega)).trans g0); have j1 := ((bcell hb3).2 w.heap.size 1 (by omega)).trans ((World.frozen?_alloc_past _ _ _ (by show w.heap.size < wr.heap.size; omega)).trans g1)))
        refine bodyPost_ret (v := .tuple #[.agg #[.slice A n1 c1, .slice C n2 c2], .int .i64 pe]) (by simp only [results, Tryd.results37]; go_simp) rfl ?_
        rw [stC, stS, stE, ← HQ.out, if_pos (by omega), if_pos (by omega), if_pos (by omega), ← HPC.out, ← HPS.out, ← HPE.out]
        have hi1 : (w2.setCell ⟨w.heap.size, 0, none⟩ (.slice A n1 c1)).cell? ⟨w.heap.size, 1, none⟩ = some (.slice none 0 0) := by
          exact (World.cell?_setCell_other _ _ _ _ (by simp)).trans i1
        refine ⟨A, C, n1, c1, n2, c2, rfl, ?_, ?_, ?_⟩
        · rw [World.size_setCell, World.size_setCell]
          exact (hA.set_slice (cells3_noslice pc) i0 _).set_slice (cells3_noslice pc) hi1 _
        · rw [World.size_setCell, World.size_setCell]
          exact (hC.set_slice (ints_noslice ps) i0 _).set_slice (ints_noslice ps) hi1 _
        · have hb4 : Below w.heap.size w w2 := (hbw.alloc (hbw.size) _).trans (hb3.mono (by omega))
          (repeat (first | exact Below.refl _ _ | assumption | refine below_drewN ?_ _ | refine Below.drew ?_ | refine Below.alloc ?_ (by first | exact Nat.le_refl _ | omega | (simp; done) | (simp; omega)) _ | refine Below.setCell ?_ (by first | exact Nat.le_refl _ | (simp; done) | (simp; omega)) _))
      · have hne : (x.toList == nm.toList) = false := by
          have h := nmB_before (t := nm.data.toList) (i := k) (by rw [← HQ.out]; omega) hk9
          rw [ByteArray.toList_eq, ByteArray.toList_eq, HX.out]
          exact beq_eq_false_iff_ne.2 h
        go_wp2
        go_roundw
        case rel => exact ⟨k + 1, by omega, by go_num, hb.alloc hb.size _⟩
        case measure => simp [intOf]; omega
end Go.Proofs.YtbdhjpdjbogggaaDoor
