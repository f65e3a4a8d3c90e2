/- Walks of the reference: Check. -/
import Derived.Test.YtbdhjpdjbogggaaDoorW1
namespace Go.Proofs.YtbdhjpdjbogggaaDoor
open Go.RowKit

theorem hiOf_pos {ss : List Int} {p f : Int} {o : Bool} (h : 0 < f) : hiOf ss p f o = p + ss.getD (f.toNat - 1) 0 + (if o then 12 else 0) := by
  have e : (f - 1).toNat = f.toNat - 1 := by omega
  simp only [hiOf, h, if_true, e]
theorem hiOf_zero {ss : List Int} {p f : Int} {o : Bool} (h : ¬ 0 < f) : hiOf ss p f o = p + (if o then 12 else 0) := by simp [hiOf, h]

set_option maxHeartbeats 8000000 in
theorem rcheck_main (A C : Option Addr) (nc cc ns kc : Nat) (cs : List Crs) (ss : List Int) (w : World) (hC : Arr w w.heap.size 3 A nc (cells3 cs)) (hS : Arr w w.heap.size 1 C ns (ss.map (Value.int .i64)))
    (h0 : 0 < nc) (h14 : nc ≤ 14) (h18 : ns ≤ 18) (r : Int) (hr : Hid (r = if stepsOk 0 ss then crsAll ss cs else 11)) :
    Calls Tryd.prog 31 #[.agg #[.slice A nc cc, .slice C ns kc]] w fun e w' =>
    e = .returned (.int .i64 r) ∧ Below w.heap.size w w' := by
  have hlc : cs.length = nc := by have := hC.1; rw [cells3_length] at this; omega
  have hls : ss.length = ns := by have := hS.1; simpa using this
  have hnz : ((nc : Int) == 0) = false := by simp; omega
  have hd1 : decide ((14 : Int) < (nc : Int)) = false := by simp; omega
  have hd2 : decide ((18 : Int) < (ns : Int)) = false := by simp; omega
  have HLC := Lib.hid hlc
  have HLS := Lib.hid hls
  have hbx : ∀ W, Below (w.heap.size + 1) (w.alloc (Obj.cells #[Value.slice A nc cc, Value.slice C ns kc] 39)) W →
      W.cell? ⟨w.heap.size, 0, none⟩ = some (.slice A nc cc) ∧ W.cell? ⟨w.heap.size, 1, none⟩ = some (.slice C ns kc) ∧ w.heap.size < W.heap.size ∧ Below w.heap.size w W := fun W hW => by
    obtain ⟨hc, hf⟩ := bcell hW
    have hz := hW.size
    simp at hz
    refine ⟨?_, ?_, by omega, below_box hW⟩
    · rw [hc _ _ (by omega)]; simp [go_sem]
    · rw [hc _ _ (by omega)]; simp [go_sem]
  have HBX := Lib.hid hbx
  clear hlc hls hbx
  go_enter Tryd.func31, Tryd.ntmps31
  go_wp2
  go_loopw [3, 4] (fun l i wr => ∃ k : Nat, ∃ lv : Int, k ≤ ns ∧ i = .int .i64 k ∧ l = .int .i64 lv ∧ 0 ≤ lv ∧ Hid (stepsOk 0 ss = stepsOk lv (ss.drop k)) ∧ Below (w.heap.size + 1) (w.alloc (Obj.cells #[Value.slice A nc cc, Value.slice C ns kc] 39)) wr)
    (fun _ i _ => ns - (intOf i).toNat)
  case atStart => exact ⟨0, 0, Nat.zero_le _, rfl, rfl, Int.le_refl _, Lib.hid rfl, Below.refl _ _⟩
  case round =>
    obtain ⟨k, lv, hk, rfl, rfl, hlv, HST, hb⟩ := hrel
    obtain ⟨x0, x1, hz, hbw⟩ := HBX.out _ hb
    by_cases hlt : k < ns
    · obtain ⟨b, o, rfl, hbB, hcr⟩ := (hS.up hbw).int_at hlt
      have hdr := drop_cons0 ss k (by have := HLS.out; omega)
      have HDR := Lib.hid hdr
      clear hdr
      obtain ⟨s, hs⟩ : ∃ s, s = ss.getD k 0 := ⟨_, rfl⟩
      rw [← hs] at hcr
      have HSS := Lib.hid hs
      clear hs hC hS
      by_cases hbad : s ≤ lv ∨ 127 < s
      · have hfin : stepsOk 0 ss = false := by rw [HST.out, HDR.out, ← HSS.out]; exact step_bad hbad
        have HF := Lib.hid hfin
        clear hfin
        have hr11 : r = 11 := by rw [hr.out, HF.out]; rfl
        have HR := Lib.hid hr11
        clear hr11
        by_cases hb1 : s ≤ lv
        · clear hbad
          go_wp2
          go_ret; exact ⟨by rw [HR.out]; rfl, hbw⟩
        · have hb2 : 127 < s := by omega
          have hb3 : lv < s := by omega
          clear hbad hb1
          go_wp2
          go_ret; exact ⟨by rw [HR.out]; rfl, hbw⟩
      · have hok : stepsOk 0 ss = stepsOk s (ss.drop (k + 1)) := by rw [HST.out, HDR.out, ← HSS.out]; exact step_ok (by omega) (by omega)
        have HK := Lib.hid hok
        clear hok
        have hs1 : lv < s := by omega
        have hs2 : s ≤ 127 := by omega
        clear hbad
        go_wp2
        go_roundw
        case rel => exact ⟨k + 1, s, by omega, by go_num, rfl, by omega, HK, hb⟩
        case measure => simp [intOf]; omega
    · obtain rfl : k = ns := by omega
      have hall : stepsOk 0 ss = true := by rw [HST.out, List.drop_of_length_le (by rw [HLS.out]; exact Nat.le_refl _)]; rfl
      have hra : r = crsAll ss cs := by rw [hr.out, hall]; rfl
      have hbd := stepsOk_bd 0 ss (Int.le_refl _) hall
      have HR := Lib.hid hra
      have HBD := Lib.hid hbd
      clear hra hall hbd
      obtain ⟨wo, rfl⟩ : ∃ wo : World, wo = wr := ⟨_, rfl⟩
      have hCo := hC.up hbw
      have hSo := hS.up hbw
      clear hC hS HST x0
      go_wp2
      go_loopw [5] (fun i wr => ∃ j : Nat, j ≤ nc ∧ i = .int .i64 j ∧ Hid (crsAll ss cs = crsAll ss (cs.drop j)) ∧ Below wo.heap.size wo wr)
        (fun i _ => nc - (intOf i).toNat)
      case atStart => exact ⟨0, Nat.zero_le _, rfl, Lib.hid rfl, Below.refl _ _⟩
      case round =>
        obtain ⟨j, hj, rfl, HCA, hb2⟩ := hrel
        obtain ⟨y0, y1, hz2, hbr⟩ := HBX.out _ (hb.trans (hb2.mono (by omega)))
        clear x1
        by_cases hlt2 : j < nc
        · obtain ⟨b, o, rfl, hbB, hp, hf, ho⟩ := (hCo.up hb2).crs_at hlt2
          have hS2 := hSo.up hb2
          have hdr := drop_cons cs j (by have := HLC.out; omega)
          obtain ⟨c, hcd⟩ : ∃ c, c = cs.getD j default := ⟨_, rfl⟩
          rw [← hcd] at hp hf ho hdr
          have HDR := Lib.hid hdr
          clear hdr hcd hCo hSo
          obtain ⟨p, f, oc⟩ := c
          dsimp only at hp hf ho
          by_cases hb13 : f < 0 ∨ (k : Int) < f
          · have hfin : r = 13 := by rw [HR.out, HCA.out, HDR.out]; exact crsAll_bad (crsE_13 (by simpa [HLS.out] using hb13)) (by decide)
            have HF := Lib.hid hfin
            clear hfin
            by_cases hb1 : f < 0
            · clear hb13
              go_wp2
              go_ret; refine ⟨by rw [HF.out]; rfl, hbr.trans (Below.mono (B := wr.heap.size) ?_ (by omega))⟩; repeat (first | exact Below.refl _ _ | assumption | refine below_drewN ?_ _ | refine Below.drew ?_ | refine Below.alloc ?_ (by first | exact Nat.le_refl _ | omega | (simp; done) | (simp; omega)) _ | refine Below.setCell ?_ (by first | exact Nat.le_refl _ | (simp; done) | (simp; omega)) _)
            · have hb3 : 0 ≤ f := by omega
              have hb4 : (k : Int) < f := by omega
              clear hb13 hb1
              go_wp2
              go_ret; refine ⟨by rw [HF.out]; rfl, hbr.trans (Below.mono (B := wr.heap.size) ?_ (by omega))⟩; repeat (first | exact Below.refl _ _ | assumption | refine below_drewN ?_ _ | refine Below.drew ?_ | refine Below.alloc ?_ (by first | exact Nat.le_refl _ | omega | (simp; done) | (simp; omega)) _ | refine Below.setCell ?_ (by first | exact Nat.le_refl _ | (simp; done) | (simp; omega)) _)
          · have hf0 : 0 ≤ f ∧ f ≤ (k : Int) := by omega
            have hf0' : 0 ≤ f ∧ f ≤ (ss.length : Int) := by rw [HLS.out]; exact hf0
            obtain ⟨hf1, hf2⟩ := hf0
            have HF0 := Lib.hid hf0'
            clear hb13 hf0'
            by_cases hpp : p < 0 ∨ 127 < p
            · have hfin : r = 10 := by rw [HR.out, HCA.out, HDR.out]; exact crsAll_bad (crsE_10 HF0.out (by dsimp only; omega)) (by decide)
              have HF := Lib.hid hfin
              clear hfin
              by_cases hb1 : p < 0
              · clear hpp
                go_wp2
                go_ret; refine ⟨by rw [HF.out]; rfl, hbr.trans (Below.mono (B := wr.heap.size) ?_ (by omega))⟩; repeat (first | exact Below.refl _ _ | assumption | refine below_drewN ?_ _ | refine Below.drew ?_ | refine Below.alloc ?_ (by first | exact Nat.le_refl _ | omega | (simp; done) | (simp; omega)) _ | refine Below.setCell ?_ (by first | exact Nat.le_refl _ | (simp; done) | (simp; omega)) _)
              · have hb3 : 0 ≤ p := by omega
                have hb4 : 127 < p := by omega
                clear hpp hb1
                go_wp2
                go_ret; refine ⟨by rw [HF.out]; rfl, hbr.trans (Below.mono (B := wr.heap.size) ?_ (by omega))⟩; repeat (first | exact Below.refl _ _ | assumption | refine below_drewN ?_ _ | refine Below.drew ?_ | refine Below.alloc ?_ (by first | exact Nat.le_refl _ | omega | (simp; done) | (simp; omega)) _ | refine Below.setCell ?_ (by first | exact Nat.le_refl _ | (simp; done) | (simp; omega)) _)
            · have hp0 : 0 ≤ p := by omega
              have hp1 : p ≤ 127 := by omega
              clear hpp
              obtain ⟨h, hh⟩ : ∃ h, h = hiOf ss p f oc := ⟨_, rfl⟩
              have hyes : 127 < h → r = 10 := fun hbig => by rw [HR.out, HCA.out, HDR.out]; exact crsAll_bad (crsE_10 HF0.out (Or.inr (Or.inr (by dsimp only; rw [← hh]; exact hbig)))) (by decide)
              have hno : ¬ 127 < h → crsAll ss cs = crsAll ss (cs.drop (j + 1)) := fun hbig => by rw [HCA.out, HDR.out]; exact crsAll_ok (crsE_0 HF0.out (by dsimp only; rw [← hh]; omega))
              have HYES := Lib.hid hyes
              have HNO := Lib.hid hno
              have HH := Lib.hid hh
              clear hyes hno hh
              by_cases hfp : 0 < f
              · obtain ⟨b3, o3, rfl, hbB3, hcs⟩ := hS2.int_at (k := f.toNat - 1) (by omega)
                have hl : f.toNat - 1 < ss.length := by have := HLS.out; omega
                have hsb := HBD.out (ss.getD (f.toNat - 1) 0) (by rw [List.getD_eq_getElem?_getD, List.getElem?_eq_getElem hl]; exact List.getElem_mem hl)
                have hval := HH.out.trans (hiOf_pos hfp)
                obtain ⟨s, hs⟩ : ∃ s, s = ss.getD (f.toNat - 1) 0 := ⟨_, rfl⟩
                rw [← hs] at hcs hsb hval
                obtain ⟨hsb0, hsb1⟩ := hsb
                have HVAL := Lib.hid hval
                clear hs hl hS2 hval
                cases oc
                · by_cases hbig : 127 < p + s
                  · have HF := Lib.hid (HYES.out (by rw [HVAL.out]; simp; omega))
                    go_wp2
                    go_ret; refine ⟨by rw [HF.out]; rfl, hbr.trans (Below.mono (B := wr.heap.size) ?_ (by omega))⟩; repeat (first | exact Below.refl _ _ | assumption | refine below_drewN ?_ _ | refine Below.drew ?_ | refine Below.alloc ?_ (by first | exact Nat.le_refl _ | omega | (simp; done) | (simp; omega)) _ | refine Below.setCell ?_ (by first | exact Nat.le_refl _ | (simp; done) | (simp; omega)) _)
                  · have HN := Lib.hid (HNO.out (by rw [HVAL.out]; simp; omega))
                    have hsm : p + s ≤ 127 := by omega
                    clear hbig
                    go_wp2
                    go_roundw
                    case rel => exact ⟨j + 1, by omega, by go_num, HN, hb2.alloc hb2.size _⟩
                    case measure => simp [intOf]; omega
                · by_cases hbig : 127 < p + s + 12
                  · have HF := Lib.hid (HYES.out (by rw [HVAL.out]; simp; omega))
                    go_wp2
                    go_ret; refine ⟨by rw [HF.out]; rfl, hbr.trans (Below.mono (B := wr.heap.size) ?_ (by omega))⟩; repeat (first | exact Below.refl _ _ | assumption | refine below_drewN ?_ _ | refine Below.drew ?_ | refine Below.alloc ?_ (by first | exact Nat.le_refl _ | omega | (simp; done) | (simp; omega)) _ | refine Below.setCell ?_ (by first | exact Nat.le_refl _ | (simp; done) | (simp; omega)) _)
                  · have HN := Lib.hid (HNO.out (by rw [HVAL.out]; simp; omega))
                    have hsm : p + s + 12 ≤ 127 := by omega
                    clear hbig
                    go_wp2
                    go_roundw
                    case rel => exact ⟨j + 1, by omega, by go_num, HN, hb2.alloc hb2.size _⟩
                    case measure => simp [intOf]; omega
              · have hval := HH.out.trans (hiOf_zero hfp)
                have HVAL := Lib.hid hval
                have hfz : f ≤ 0 := by omega
                clear hval hS2 hfp
                cases oc
                · have HN := Lib.hid (HNO.out (by rw [HVAL.out]; simp; omega))
                  go_wp2
                  go_roundw
                  case rel => exact ⟨j + 1, by omega, by go_num, HN, hb2.alloc hb2.size _⟩
                  case measure => simp [intOf]; omega
                · by_cases hbig : 127 < p + 12
                  · have HF := Lib.hid (HYES.out (by rw [HVAL.out]; simp; omega))
                    go_wp2
                    go_ret; refine ⟨by rw [HF.out]; rfl, hbr.trans (Below.mono (B := wr.heap.size) ?_ (by omega))⟩; repeat (first | exact Below.refl _ _ | assumption | refine below_drewN ?_ _ | refine Below.drew ?_ | refine Below.alloc ?_ (by first | exact Nat.le_refl _ | omega | (simp; done) | (simp; omega)) _ | refine Below.setCell ?_ (by first | exact Nat.le_refl _ | (simp; done) | (simp; omega)) _)
                  · have HN := Lib.hid (HNO.out (by rw [HVAL.out]; simp; omega))
                    have hsm : p + 12 ≤ 127 := by omega
                    clear hbig
                    go_wp2
                    go_roundw
                    case rel => exact ⟨j + 1, by omega, by go_num, HN, hb2.alloc hb2.size _⟩
                    case measure => simp [intOf]; omega
        · obtain rfl : j = nc := by omega
          have hfin : r = 0 := by rw [HR.out, HCA.out, List.drop_of_length_le (by rw [HLC.out]; exact Nat.le_refl _)]; rfl
          have HF := Lib.hid hfin
          clear hfin
          go_wp2
          go_ret
          exact ⟨by rw [HF.out]; rfl, hbr⟩

/-- Check of the reference: the error that the model names. -/
theorem rcheck_any (A C : Option Addr) (nc cc ns kc : Nat) (cs : List Crs) (ss : List Int) (w : World) (hC : Arr w w.heap.size 3 A nc (cells3 cs)) (hS : Arr w w.heap.size 1 C ns (ss.map (Value.int .i64))) :
    Calls Tryd.prog 31 #[.agg #[.slice A nc cc, .slice C ns kc]] w fun e w' =>
    e = .returned (.int .i64 (chk cs ss)) ∧ Below w.heap.size w w' := by
  have hlc : cs.length = nc := by have := hC.1; rw [cells3_length] at this; omega
  have hls : ss.length = ns := by have := hS.1; simpa using this
  by_cases hbig : 14 < nc ∨ 18 < ns
  · have hr : chk cs ss = 2 := by rw [chk, if_pos (by omega)]
    rw [hr]
    clear hr hC hS
    go_enter Tryd.func31, Tryd.ntmps31
    go_wp2
    all_goals (go_ret; exact ⟨rfl, (by repeat (first | exact Below.refl _ _ | assumption | refine below_drewN ?_ _ | refine Below.drew ?_ | refine Below.alloc ?_ (by first | exact Nat.le_refl _ | omega | (simp; done) | (simp; omega)) _ | refine Below.setCell ?_ (by first | exact Nat.le_refl _ | (simp; done) | (simp; omega)) _))⟩)
  · by_cases hz : nc = 0
    · have hr : chk cs ss = 11 := by rw [chk, if_neg (by omega), if_pos (List.eq_nil_of_length_eq_zero (by omega))]
      rw [hr]
      have h1 : nc ≤ 14 := by omega
      have h2 : ns ≤ 18 := by omega
      clear hr hC hS hlc hls hbig
      subst hz
      go_enter Tryd.func31, Tryd.ntmps31
      go_wp2
      all_goals (go_ret; exact ⟨rfl, (by repeat (first | exact Below.refl _ _ | assumption | refine below_drewN ?_ _ | refine Below.drew ?_ | refine Below.alloc ?_ (by first | exact Nat.le_refl _ | omega | (simp; done) | (simp; omega)) _ | refine Below.setCell ?_ (by first | exact Nat.le_refl _ | (simp; done) | (simp; omega)) _))⟩)
    · refine rcheck_main A C nc cc ns kc cs ss w hC hS (by omega) (by omega) (by omega) _ ?_
      show chk cs ss = _
      rw [chk, if_neg (by omega), if_neg (by intro h; rw [h] at hlc; simp at hlc; omega)]
end Go.Proofs.YtbdhjpdjbogggaaDoor
