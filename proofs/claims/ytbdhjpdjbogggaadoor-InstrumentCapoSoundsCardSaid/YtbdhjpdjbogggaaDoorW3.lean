/- Walks: Check. -/
import Derived.Test.YtbdhjpdjbogggaaDoorW2
namespace Go.Proofs.YtbdhjpdjbogggaaDoor
open Go.RowKit

theorem step_bad {l s : Int} {r : List Int} (h : s ≤ l ∨ 127 < s) : stepsOk l (s :: r) = false := by
  simp only [stepsOk]; rcases h with h | h
  · simp [show ¬ l < s by omega]
  · simp [show ¬ s ≤ 127 by omega]
theorem step_ok {l s : Int} {r : List Int} (h : l < s) (h' : s ≤ 127) : stepsOk l (s :: r) = stepsOk s r := by simp [stepsOk, h, h']

set_option maxHeartbeats 4000000 in
theorem check_main (A C : Option Addr) (nc cc ns kc : Nat) (cs : List Crs) (ss : List Int) (w : World) (hC : Arr w w.heap.size 3 A nc (cells3 cs)) (hS : Arr w w.heap.size 1 C ns (ss.map (Value.int .i64)))
    (h0 : 0 < nc) (h14 : nc ≤ 14) (h18 : ns ≤ 18) (r : Int) (hr : Hid (r = if stepsOk 0 ss then crsAll ss cs else 11)) :
    Calls Tryd.prog 30 #[.agg #[.slice A nc cc, .slice C ns kc]] w fun e w' =>
    e = .returned (.int .i64 r) ∧ Below w.heap.size w w' := by
  have hlc : cs.length = nc := by have := hC.1; rw [cells3_length] at this; omega
  have hls : ss.length = ns := by have := hS.1; simpa using this
  have hnz : ((nc : Int) == 0) = false := by simp; omega
  have hd1 : decide ((14 : Int) < (nc : Int)) = false := by simp; omega
  have hd2 : decide ((18 : Int) < (ns : Int)) = false := by simp; omega
  have HLC := Lib.hid hlc
  have HLS := Lib.hid hls
  clear hlc hls
  go_enter Tryd.func30, Tryd.ntmps30
  go_wp2
  go_loopw [3, 25] (fun l i wr => ∃ k : Nat, ∃ lv : Int, k ≤ ns ∧ i = .int .i64 k ∧ l = .int .i64 lv ∧ 0 ≤ lv ∧ stepsOk 0 ss = stepsOk lv (ss.drop k) ∧ Below (w.heap.size + 1) (w.alloc (Obj.cells #[Value.slice A nc cc, Value.slice C ns kc] 39)) wr)
    (fun _ i _ => ns - (intOf i).toNat)
  case atStart => exact ⟨0, 0, Nat.zero_le _, rfl, rfl, Int.le_refl _, rfl, Below.refl _ _⟩
  case round =>
    obtain ⟨k, lv, hk, rfl, rfl, hlv, hst, hb⟩ := hrel
    have HST := Lib.hid hst
    clear hst
    by_cases hlt : k < ns
    · obtain ⟨b, o, rfl, hbB, hcell⟩ := hS.int_at hlt
      have hdr := drop_cons0 ss k (by have := HLS.out; omega)
      have hz : w.heap.size + 1 ≤ wr.heap.size := by have := hb.size; simpa using this
      have hcr : wr.cell? ⟨b, o + k, none⟩ = some (.int .i64 (ss.getD k 0)) := by
        rw [hb.cell (p := ⟨b, o + k, none⟩) (by show b < w.heap.size + 1; omega), World.cell?_alloc_lt _ _ _ hbB, hcell]
      have HDR := Lib.hid hdr
      clear hdr hcell
      obtain ⟨s, hs⟩ : ∃ s, s = ss.getD k 0 := ⟨_, rfl⟩
      rw [← hs] at hcr
      have HSS := Lib.hid hs
      clear hs
      by_cases hbad : s ≤ lv ∨ 127 < s
      · have hfin : stepsOk 0 ss = false := by rw [HST.out, HDR.out, ← HSS.out]; exact step_bad hbad
        have HF := Lib.hid hfin
        clear hfin
        have hr11 : r = 11 := by rw [hr.out, HF.out]; rfl
        have HR := Lib.hid hr11
        clear hr11
        go_wp2
        all_goals (go_ret; exact ⟨by rw [HR.out]; rfl, below_box hb⟩)
      · have hok : stepsOk 0 ss = stepsOk s (ss.drop (k + 1)) := by rw [HST.out, HDR.out, ← HSS.out]; exact step_ok (by omega) (by omega)
        have HK := Lib.hid hok
        clear hok
        have hs1 : lv < s := by omega
        have hs2 : s ≤ 127 := by omega
        clear hbad
        go_wp2
        go_roundw
        case rel => exact ⟨k + 1, s, by omega, by go_num, rfl, by omega, HK.out, hb⟩
        case measure => simp [intOf]; omega
    · obtain rfl : k = ns := by omega
      have hall : stepsOk 0 ss = true := by rw [HST.out, List.drop_of_length_le (by rw [HLS.out]; exact Nat.le_refl _)]; rfl
      have hra : r = crsAll ss cs := by rw [hr.out, hall]; rfl
      have hbd := stepsOk_bd 0 ss (Int.le_refl _) hall
      have HR := Lib.hid hra
      have HALL := Lib.hid hall
      have HBD := Lib.hid hbd
      clear hra hall hbd
      obtain ⟨wo, rfl⟩ : ∃ wo : World, wo = wr := ⟨_, rfl⟩
      have hz : w.heap.size + 1 ≤ wo.heap.size := by have := hb.size; simpa using this
      have hbw := below_box hb
      have hx0 : wo.cell? ⟨w.heap.size, 0, none⟩ = some (.slice A nc cc) := (hb.cell (p := ⟨w.heap.size, 0, none⟩) (Nat.lt_succ_self _)).trans (by simp [go_sem])
      have hx1 : wo.cell? ⟨w.heap.size, 1, none⟩ = some (.slice C k kc) := (hb.cell (p := ⟨w.heap.size, 1, none⟩) (Nat.lt_succ_self _)).trans (by simp [go_sem])
      have hCo := hC.up hbw
      have hSo := hS.up hbw
      clear hC hS hb HST
      go_wp2
      go_loopw [41] (fun i wr => ∃ j : Nat, j ≤ nc ∧ i = .int .i64 j ∧ crsAll ss cs = crsAll ss (cs.drop j) ∧ Below wo.heap.size wo wr)
        (fun i _ => nc - (intOf i).toNat)
      case atStart => exact ⟨0, Nat.zero_le _, rfl, rfl, Below.refl _ _⟩
      case round =>
        obtain ⟨j, hj, rfl, hca, hb2⟩ := hrel
        have HCA := Lib.hid hca
        clear hca
        have hz2 : w.heap.size < wr.heap.size := by have := hb2.size; omega
        by_cases hlt2 : j < nc
        · obtain ⟨b, o, rfl, hbB, hp, hf, ho⟩ := (hCo.up hb2).crs_at hlt2
          have hS2 := hSo.up hb2
          have hy0 := (hb2.cell (p := ⟨w.heap.size, 0, none⟩) (by show w.heap.size < wo.heap.size; omega)).trans hx0
          have hy1 := (hb2.cell (p := ⟨w.heap.size, 1, none⟩) (by show w.heap.size < wo.heap.size; omega)).trans hx1
          have hdr := drop_cons cs j (by have := HLC.out; omega)
          obtain ⟨c, hcd⟩ : ∃ c, c = cs.getD j default := ⟨_, rfl⟩
          rw [← hcd] at hp hf ho hdr
          have HDR := Lib.hid hdr
          clear hdr hcd hCo hSo hx0 hx1
          obtain ⟨p, f, oc⟩ := c
          dsimp only at hp hf ho
          have hbr := hbw.trans (hb2.mono (by omega))
          by_cases hb13 : f < 0 ∨ (k : Int) < f
          · have hfin : r = 13 := by rw [HR.out, HCA.out, HDR.out]; exact crsAll_bad (crsE_13 (by simpa [HLS.out] using hb13)) (by decide)
            have HF := Lib.hid hfin
            clear hfin
            go_wp2
            all_goals (go_ret; refine ⟨by rw [HF.out]; rfl, hbr.trans (Below.mono (B := wr.heap.size) ?_ (by omega))⟩; repeat (first | exact Below.refl _ _ | assumption | refine below_drewN ?_ _ | refine Below.drew ?_ | refine Below.alloc ?_ (by first | exact Nat.le_refl _ | omega | (simp; done) | (simp; omega)) _ | refine Below.setCell ?_ (by first | exact Nat.le_refl _ | (simp; done) | (simp; omega)) _))
          · have hf0 : 0 ≤ f ∧ f ≤ (k : Int) := by omega
            have hf0' : 0 ≤ f ∧ f ≤ (ss.length : Int) := by rw [HLS.out]; exact hf0
            obtain ⟨hf1, hf2⟩ := hf0
            have HF0 := Lib.hid hf0'
            clear hb13 hf0'
            by_cases hpp : p < 0 ∨ 127 < p
            · have hfin : r = 10 := by rw [HR.out, HCA.out, HDR.out]; exact crsAll_bad (crsE_10 HF0.out (by dsimp only; omega)) (by decide)
              have HF := Lib.hid hfin
              clear hfin
              go_wp2
              all_goals (go_ret; refine ⟨by rw [HF.out]; rfl, hbr.trans (Below.mono (B := wr.heap.size) ?_ (by omega))⟩; repeat (first | exact Below.refl _ _ | assumption | refine below_drewN ?_ _ | refine Below.drew ?_ | refine Below.alloc ?_ (by first | exact Nat.le_refl _ | omega | (simp; done) | (simp; omega)) _ | refine Below.setCell ?_ (by first | exact Nat.le_refl _ | (simp; done) | (simp; omega)) _))
            · have hp0 : 0 ≤ p := by omega
              have hp1 : p ≤ 127 := by omega
              clear hpp
              obtain ⟨h, hh⟩ : ∃ h, h = hiOf ss p f oc := ⟨_, rfl⟩
              have hcall : ∀ W, Below wr.heap.size wr W → Calls Tryd.prog 69 #[.agg #[.slice (some ⟨b, o, none⟩) nc cc, .slice C k kc], .agg #[.int .i64 p, .int .i64 f, .bool oc]] W fun e w' =>
                  e = .returned (.int .i64 h) ∧ Below wr.heap.size wr w' := fun W hW =>
                (highest_any _ _ _ _ _ _ _ _ _ ss W (hS2.up hW) HBD.out hp0 hp1 hf1 hf2 (by omega)).mono fun e w' ⟨he, hw⟩ => ⟨he.trans (by rw [hh]), hW.trans (hw.mono hW.size)⟩
              have HCALL := Lib.hid hcall
              have HH := Lib.hid hh
              clear hcall hh
              by_cases hbig : 127 < h
              · have hfin : r = 10 := by rw [HR.out, HCA.out, HDR.out]; exact crsAll_bad (crsE_10 HF0.out (Or.inr (Or.inr (by dsimp only; rw [← HH.out]; exact hbig)))) (by decide)
                have HF := Lib.hid hfin
                clear hfin
                go_wp2_with (go_at_call 69; refine (HCALL.out _ ?_).mono ?_; (repeat (first | exact Below.refl _ _ | assumption | refine below_drewN ?_ _ | refine Below.drew ?_ | refine Below.alloc ?_ (by first | exact Nat.le_refl _ | omega | (simp; done) | (simp; omega)) _ | refine Below.setCell ?_ (by first | exact Nat.le_refl _ | (simp; done) | (simp; omega)) _)); rintro e w' ⟨rfl, hb3⟩)
                all_goals (go_ret; exact ⟨by rw [HF.out]; rfl, hbr.trans (hb3.mono (by omega))⟩)
              · have hnext : crsAll ss cs = crsAll ss (cs.drop (j + 1)) := by rw [HCA.out, HDR.out]; exact crsAll_ok (crsE_0 HF0.out (by dsimp only; rw [← HH.out]; omega))
                have HN := Lib.hid hnext
                have hsm : h ≤ 127 := by omega
                clear hnext hbig
                go_wp2_with (go_at_call 69; refine (HCALL.out _ ?_).mono ?_; (repeat (first | exact Below.refl _ _ | assumption | refine below_drewN ?_ _ | refine Below.drew ?_ | refine Below.alloc ?_ (by first | exact Nat.le_refl _ | omega | (simp; done) | (simp; omega)) _ | refine Below.setCell ?_ (by first | exact Nat.le_refl _ | (simp; done) | (simp; omega)) _)); rintro e w' ⟨rfl, hb3⟩)
                go_roundw
                case rel => exact ⟨j + 1, by omega, by go_num, HN.out, hb2.trans (hb3.mono hb2.size)⟩
                case measure => simp [intOf]; omega
        · obtain rfl : j = nc := by omega
          have hfin : r = 0 := by rw [HR.out, HCA.out, List.drop_of_length_le (by rw [HLC.out]; exact Nat.le_refl _)]; rfl
          have HF := Lib.hid hfin
          clear hfin
          go_wp2
          go_ret
          exact ⟨by rw [HF.out]; rfl, hbw.trans (hb2.mono (by omega))⟩

/-- Check: the error that the model names; nothing that was there is changed. -/
theorem check_any (A C : Option Addr) (nc cc ns kc : Nat) (cs : List Crs) (ss : List Int) (w : World) (hC : Arr w w.heap.size 3 A nc (cells3 cs)) (hS : Arr w w.heap.size 1 C ns (ss.map (Value.int .i64))) :
    Calls Tryd.prog 30 #[.agg #[.slice A nc cc, .slice C ns kc]] w fun e w' =>
    e = .returned (.int .i64 (chk cs ss)) ∧ Below w.heap.size w w' := by
  have hlc : cs.length = nc := by have := hC.1; rw [cells3_length] at this; omega
  have hls : ss.length = ns := by have := hS.1; simpa using this
  by_cases hbig : 14 < nc ∨ 18 < ns
  · have hr : chk cs ss = 2 := by rw [chk, if_pos (by omega)]
    rw [hr]
    clear hr hC hS
    go_enter Tryd.func30, Tryd.ntmps30
    go_wp2
    all_goals (go_ret; exact ⟨rfl, (by repeat (first | exact Below.refl _ _ | assumption | refine below_drewN ?_ _ | refine Below.drew ?_ | refine Below.alloc ?_ (by first | exact Nat.le_refl _ | omega | (simp; done) | (simp; omega)) _ | refine Below.setCell ?_ (by first | exact Nat.le_refl _ | (simp; done) | (simp; omega)) _))⟩)
  · by_cases hz : nc = 0
    · have hr : chk cs ss = 11 := by rw [chk, if_neg (by omega), if_pos (List.eq_nil_of_length_eq_zero (by omega))]
      rw [hr]
      have h1 : nc ≤ 14 := by omega
      have h2 : ns ≤ 18 := by omega
      clear hr hC hS hlc hls hbig
      subst hz
      go_enter Tryd.func30, Tryd.ntmps30
      go_wp2
      all_goals (go_ret; exact ⟨rfl, (by repeat (first | exact Below.refl _ _ | assumption | refine below_drewN ?_ _ | refine Below.drew ?_ | refine Below.alloc ?_ (by first | exact Nat.le_refl _ | omega | (simp; done) | (simp; omega)) _ | refine Below.setCell ?_ (by first | exact Nat.le_refl _ | (simp; done) | (simp; omega)) _))⟩)
    · refine check_main A C nc cc ns kc cs ss w hC hS (by omega) (by omega) (by omega) _ ?_
      show chk cs ss = _
      rw [chk, if_neg (by omega), if_neg (by intro h; rw [h] at hlc; simp at hlc; omega)]
end Go.Proofs.YtbdhjpdjbogggaaDoor
