/- Walks: Sounding, highest, stopped, own, Big. Walks: highest, stopped, Check. Walks: Check. Walks: number. -/
import Derived.Test.YtbdhjpdjbogggaaDoorBase
namespace Go.Proofs.YtbdhjpdjbogggaaDoor
open Go.RowKit

theorem own_any (l a o : Int) (w : World) : Calls Tryd.prog 22 #[.agg #[.int .i64 l, .int .i64 a, .int .i64 o]] w fun e w' =>
    e = .returned (.agg #[.int .i64 l, .int .i64 a, .int .i64 o]) ∧ Below w.heap.size w w' := by
  go_enter Tryd.func22, Tryd.ntmps22
  go_wp2
  exact bodyPost_ret (v := .agg #[.int .i64 l, .int .i64 a, .int .i64 o]) (by simp [results, Tryd.results22, go_sem]) rfl ⟨rfl, (by repeat (first | exact Below.refl _ _ | assumption | refine below_drewN ?_ _ | refine Below.drew ?_ | refine Below.alloc ?_ (by first | exact Nat.le_refl _ | omega | (simp; done) | (simp; omega)) _ | refine Below.setCell ?_ (by first | exact Nat.le_refl _ | (simp; done) | (simp; omega)) _))⟩

theorem big_any (A C : Option Addr) (nc cc ns cs : Nat) (w : World) : Calls Tryd.prog 26 #[.agg #[.slice A nc cc, .slice C ns cs]] w fun e w' =>
    e = .returned (.bool (decide (64 < nc) || decide (64 < ns))) ∧ Below w.heap.size w w' := by
  go_enter Tryd.func26, Tryd.ntmps26
  go_wp2
  all_goals (go_ret; refine ⟨?_, (by repeat (first | exact Below.refl _ _ | assumption | refine below_drewN ?_ _ | refine Below.drew ?_ | refine Below.alloc ?_ (by first | exact Nat.le_refl _ | omega | (simp; done) | (simp; omega)) _ | refine Below.setCell ?_ (by first | exact Nat.le_refl _ | (simp; done) | (simp; omega)) _))⟩)
  · congr 2
    simp
    congr 1 <;> (congr 1; exact propext (by omega))
  · congr 2
    simp
    exact Or.inl (by omega)

theorem snd_bad {l a o : Int} (h : right l a o = false) : sndP l a o = 0 ∧ sndE l a o = 10 := by simp [sndP, sndE, h]
theorem snd_good {l a o : Int} (h : right l a o = true) : sndP l a o = pit l a o ∧ sndE l a o = 0 := by simp [sndP, sndE, h]

set_option maxHeartbeats 1000000 in
theorem sounding_in (l a o : Int) (w : World) (hg : Gnd w) (l0 : 0 ≤ l) (l6 : l ≤ 6) (a0 : -1 ≤ a) (a1 : a ≤ 1) (o0 : -1 ≤ o) (o1 : o ≤ 9) : Calls Tryd.prog 56 #[.agg #[.int .i64 l, .int .i64 a, .int .i64 o]] w fun e w' =>
    e = .returned (.tuple #[.int .i64 (sndP l a o), .int .i64 (sndE l a o)]) ∧ Below w.heap.size w w' := by
  have hc := hg.bas l0 l6
  have hsz := hg.sz
  have hbb := bas_bd l0 l6
  have hi : inb l a o = true := by simp [inb, *]
  clear hg
  obtain ⟨bl, hbl⟩ : ∃ bl, bl = bas l := ⟨_, rfl⟩
  rw [← hbl] at hc hbb
  have HB := Lib.hid hbl
  clear hbl
  have HI := Lib.hid hi
  clear hi
  have hca : ∀ x, (w.alloc x).cell? ⟨1, l.toNat, none⟩ = some (.int .i64 bl) := fun x => (World.cell?_alloc_lt w x ⟨1, l.toNat, none⟩ (by show 1 < w.heap.size; omega)).trans hc
  go_enter Tryd.func56, Tryd.ntmps56
  go_wp2
  go_quiet (fail)
  go_wp2
  all_goals (go_ret2; refine ⟨?_, (by repeat (first | exact Below.refl _ _ | assumption | refine below_drewN ?_ _ | refine Below.drew ?_ | refine Below.alloc ?_ (by first | exact Nat.le_refl _ | omega | (simp; done) | (simp; omega)) _ | refine Below.setCell ?_ (by first | exact Nat.le_refl _ | (simp; done) | (simp; omega)) _))⟩)
  · have hr : right l a o = false := by simp only [right, HI.out, pit, ← HB.out]; simp; omega
    rw [(snd_bad hr).1, (snd_bad hr).2]; rfl
  · have hr : right l a o = true := by simp only [right, HI.out, pit, ← HB.out]; simp; omega
    rw [(snd_good hr).1, (snd_good hr).2, pit, ← HB.out]; rfl
  · have hr : right l a o = false := by simp only [right, HI.out, pit, ← HB.out]; simp; omega
    rw [(snd_bad hr).1, (snd_bad hr).2]; rfl

theorem sounding_out (l a o : Int) (w : World) (h : inb l a o = false) : Calls Tryd.prog 56 #[.agg #[.int .i64 l, .int .i64 a, .int .i64 o]] w fun e w' =>
    e = .returned (.tuple #[.int .i64 (sndP l a o), .int .i64 (sndE l a o)]) ∧ Below w.heap.size w w' := by
  have hr : right l a o = false := by simp [right, h]
  rw [(snd_bad hr).1, (snd_bad hr).2]
  have h' : ¬ ((0 ≤ l ∧ l ≤ 6) ∧ (-1 ≤ a ∧ a ≤ 1) ∧ (-1 ≤ o ∧ o ≤ 9)) := by
    rintro ⟨⟨h1, h2⟩, ⟨h3, h4⟩, ⟨h5, h6⟩⟩
    simp [inb, *] at h
  clear h hr
  go_enter Tryd.func56, Tryd.ntmps56
  go_wp2
  all_goals (go_ret2; exact ⟨rfl, (by repeat (first | exact Below.refl _ _ | assumption | refine below_drewN ?_ _ | refine Below.drew ?_ | refine Below.alloc ?_ (by first | exact Nat.le_refl _ | omega | (simp; done) | (simp; omega)) _ | refine Below.setCell ?_ (by first | exact Nat.le_refl _ | (simp; done) | (simp; omega)) _))⟩)

theorem sounding_any (l a o : Int) (w : World) (hg : Gnd w) : Calls Tryd.prog 56 #[.agg #[.int .i64 l, .int .i64 a, .int .i64 o]] w fun e w' =>
    e = .returned (.tuple #[.int .i64 (sndP l a o), .int .i64 (sndE l a o)]) ∧ Below w.heap.size w w' := by
  by_cases h : inb l a o = true
  · have h' := h
    simp [inb] at h'
    obtain ⟨⟨⟨⟨⟨h1, h2⟩, h3⟩, h4⟩, h5⟩, h6⟩ := h'
    exact sounding_in l a o w hg h1 h2 h3 h4 h5 h6
  · exact sounding_out l a o w (by simpa using h)
end Go.Proofs.YtbdhjpdjbogggaaDoor
namespace Go.Proofs.YtbdhjpdjbogggaaDoor
open Go.RowKit

set_option maxHeartbeats 1000000 in
theorem highest_any (A C : Option Addr) (nc cc ns kc : Nat) (p f : Int) (o : Bool) (ss : List Int) (w : World) (hS : Arr w w.heap.size 1 C ns (ss.map (Value.int .i64)))
    (hs : ∀ s ∈ ss, 0 ≤ s ∧ s ≤ 127) (p0 : 0 ≤ p) (p1 : p ≤ 127) (_f0 : 0 ≤ f) (f1 : f ≤ ns) (hns : ns ≤ 100) :
    Calls Tryd.prog 69 #[.agg #[.slice A nc cc, .slice C ns kc], .agg #[.int .i64 p, .int .i64 f, .bool o]] w fun e w' =>
    e = .returned (.int .i64 (hiOf ss p f o)) ∧ Below w.heap.size w w' := by
  by_cases hf : 0 < f
  · obtain ⟨b, of, rfl, hb, hc⟩ := hS.int_at (k := f.toNat - 1) (by omega)
    have hl : f.toNat - 1 < ss.length := by have := hS.1; simp at this; omega
    have hsb := hs (ss.getD (f.toNat - 1) 0) (by rw [List.getD_eq_getElem?_getD, List.getElem?_eq_getElem hl]; exact List.getElem_mem hl)
    have hm : hiOf ss p f o = p + ss.getD (f.toNat - 1) 0 + (if o then 12 else 0) := by
      have e : (f - 1).toNat = f.toNat - 1 := by omega
      simp only [hiOf, hf, if_true, e]
    rw [hm]
    clear hm hl hs hS
    generalize ss.getD (f.toNat - 1) 0 = s at *
    cases o
    · go_enter Tryd.func69, Tryd.ntmps69
      go_wp2
      go_ret
      exact ⟨by simp, (by repeat (first | exact Below.refl _ _ | assumption | refine below_drewN ?_ _ | refine Below.drew ?_ | refine Below.alloc ?_ (by first | exact Nat.le_refl _ | omega | (simp; done) | (simp; omega)) _ | refine Below.setCell ?_ (by first | exact Nat.le_refl _ | (simp; done) | (simp; omega)) _))⟩
    · go_enter Tryd.func69, Tryd.ntmps69
      go_wp2
      go_ret
      exact ⟨by simp, (by repeat (first | exact Below.refl _ _ | assumption | refine below_drewN ?_ _ | refine Below.drew ?_ | refine Below.alloc ?_ (by first | exact Nat.le_refl _ | omega | (simp; done) | (simp; omega)) _ | refine Below.setCell ?_ (by first | exact Nat.le_refl _ | (simp; done) | (simp; omega)) _))⟩
  · have hm : hiOf ss p f o = p + (if o then 12 else 0) := by simp [hiOf, hf]
    rw [hm]
    clear hm hS
    cases o
    · go_enter Tryd.func69, Tryd.ntmps69
      go_wp2
      go_ret
      exact ⟨by simp, (by repeat (first | exact Below.refl _ _ | assumption | refine below_drewN ?_ _ | refine Below.drew ?_ | refine Below.alloc ?_ (by first | exact Nat.le_refl _ | omega | (simp; done) | (simp; omega)) _ | refine Below.setCell ?_ (by first | exact Nat.le_refl _ | (simp; done) | (simp; omega)) _))⟩
    · go_enter Tryd.func69, Tryd.ntmps69
      go_wp2
      go_ret
      exact ⟨by simp, (by repeat (first | exact Below.refl _ _ | assumption | refine below_drewN ?_ _ | refine Below.drew ?_ | refine Below.alloc ?_ (by first | exact Nat.le_refl _ | omega | (simp; done) | (simp; omega)) _ | refine Below.setCell ?_ (by first | exact Nat.le_refl _ | (simp; done) | (simp; omega)) _))⟩

set_option maxHeartbeats 1000000 in
theorem stopped_any (A C : Option Addr) (nc cc ns kc : Nat) (p f1 f : Int) (o : Bool) (ss : List Int) (w : World) (hS : Arr w w.heap.size 1 C ns (ss.map (Value.int .i64)))
    (hs : ∀ s ∈ ss, 0 ≤ s ∧ s ≤ 127) (p0 : 0 ≤ p) (p1 : p ≤ 127) (f0 : 0 ≤ f) (hfn : f ≤ ns) (hns : ns ≤ 100) :
    Calls Tryd.prog 67 #[.agg #[.slice A nc cc, .slice C ns kc], .agg #[.int .i64 p, .int .i64 f1, .bool o], .int .i64 f] w fun e w' =>
    e = .returned (.int .i64 (stopOf ss p f)) ∧ Below w.heap.size w w' := by
  by_cases hf : 0 < f
  · obtain ⟨b, of, rfl, hb, hc⟩ := hS.int_at (k := f.toNat - 1) (by omega)
    have hl : f.toNat - 1 < ss.length := by have := hS.1; simp at this; omega
    have hsb := hs (ss.getD (f.toNat - 1) 0) (by rw [List.getD_eq_getElem?_getD, List.getElem?_eq_getElem hl]; exact List.getElem_mem hl)
    have hm : stopOf ss p f = p + ss.getD (f.toNat - 1) 0 := by simp only [stopOf, hf, if_true]
    rw [hm]
    clear hm hl hs hS
    generalize ss.getD (f.toNat - 1) 0 = s at *
    have hz : (f == 0) = false := by simp; omega
    have h1 : (1 : Int) ≤ f := by omega
    have hq : f - 1 < (ns : Int) := by omega
    go_enter Tryd.func67, Tryd.ntmps67
    go_wp2
    go_quiet (fail)
    go_wp2
    go_ret
    exact ⟨by simp, (by repeat (first | exact Below.refl _ _ | assumption | refine below_drewN ?_ _ | refine Below.drew ?_ | refine Below.alloc ?_ (by first | exact Nat.le_refl _ | omega | (simp; done) | (simp; omega)) _ | refine Below.setCell ?_ (by first | exact Nat.le_refl _ | (simp; done) | (simp; omega)) _))⟩
  · obtain rfl : f = 0 := by omega
    have hm : stopOf ss p 0 = p := by simp [stopOf]
    rw [hm]
    clear hm hS
    go_enter Tryd.func67, Tryd.ntmps67
    go_wp2
    go_ret
    exact ⟨by simp, (by repeat (first | exact Below.refl _ _ | assumption | refine below_drewN ?_ _ | refine Below.drew ?_ | refine Below.alloc ?_ (by first | exact Nat.le_refl _ | omega | (simp; done) | (simp; omega)) _ | refine Below.setCell ?_ (by first | exact Nat.le_refl _ | (simp; done) | (simp; omega)) _))⟩
end Go.Proofs.YtbdhjpdjbogggaaDoor
namespace Go.Proofs.YtbdhjpdjbogggaaDoor
open Go.RowKit

theorem step_bad {l s : Int} {r : List Int} (h : s ≤ l ∨ 127 < s) : stepsOk l (s :: r) = false := by
  simp only [stepsOk]; rcases h with h | h
  · simp [show ¬ l < s by omega]
  · simp [show ¬ s ≤ 127 by omega]
theorem step_ok {l s : Int} {r : List Int} (h : l < s) (h' : s ≤ 127) : stepsOk l (s :: r) = stepsOk s r := by simp [stepsOk, h, h']

set_option maxHeartbeats 4000000 in
theorem check_main (A C : Option Addr) (nc cc ns kc : Nat) (cs : List Crs) (ss : List Int) (w : World) (hC : Arr w w.heap.size 3 A nc (cells3 cs)) (hS : Arr w w.heap.size 1 C ns (ss.map (Value.int .i64)))
    (h0 : 0 < nc) (h14 : nc ≤ 14) (h18 : ns ≤ 18) (r : Int) (hr : Hid (r = if stepsOk 0 ss then crsAll ss cs else 11)) :
    Calls Tryd.prog 30 #[.agg #[.slice A nc cc, .slice C ns kc]] w fun e w' =>
    e = .returned (.int .i64 r) ∧ Below w.heap.size w w' := by
  have hlc : cs.length = nc := by have := hC.1; rw [cells3_length] at this; omega
  have hls : ss.length = ns := by have := hS.1; simpa using this
  have hnz : ((nc : Int) == 0) = false := by simp; omega
  have hd1 : decide ((14 : Int) < (nc : Int)) = false := by simp; omega
  have hd2 : decide ((18 : Int) < (ns : Int)) = false := by simp; omega
  have HLC := Lib.hid hlc
  have HLS := Lib.hid hls
  clear hlc hls
  go_enter Tryd.func30, Tryd.ntmps30
  go_wp2
  go_loopw [3, 25] (fun l i wr => ∃ k : Nat, ∃ lv : Int, k ≤ ns ∧ i = .int .i64 k ∧ l = .int .i64 lv ∧ 0 ≤ lv ∧ stepsOk 0 ss = stepsOk lv (ss.drop k) ∧ Below (w.heap.size + 1) (w.alloc (Obj.cells #[Value.slice A nc cc, Value.slice C ns kc] 39)) wr)
    (fun _ i _ => ns - (intOf i).toNat)
  case atStart => exact ⟨0, 0, Nat.zero_le _, rfl, rfl, Int.le_refl _, rfl, Below.refl _ _⟩
  case round =>
    obtain ⟨k, lv, hk, rfl, rfl, hlv, hst, hb⟩ := hrel
    have HST := Lib.hid hst
    clear hst
    by_cases hlt : k < ns
    · obtain ⟨b, o, rfl, hbB, hcell⟩ := hS.int_at hlt
      have hdr := drop_cons0 ss k (by have := HLS.out; omega)
      have hz : w.heap.size + 1 ≤ wr.heap.size := by have := hb.size; simpa using this
      have hcr : wr.cell? ⟨b, o + k, none⟩ = some (.int .i64 (ss.getD k 0)) := by
        rw [hb.cell (p := ⟨b, o + k, none⟩) (by show b < w.heap.size + 1; omega), World.cell?_alloc_lt _ _ _ hbB, hcell]
      have HDR := Lib.hid hdr
      clear hdr hcell
      obtain ⟨s, hs⟩ : ∃ s, s = ss.getD k 0 := ⟨_, rfl⟩
      rw [← hs] at hcr
      have HSS := Lib.hid hs
      clear hs
      by_cases hbad : s ≤ lv ∨ 127 < s
      · have hfin : stepsOk 0 ss = false := by rw [HST.out, HDR.out, ← HSS.out]; exact step_bad hbad
        have HF := Lib.hid hfin
        clear hfin
        have hr11 : r = 11 := by rw [hr.out, HF.out]; rfl
        have HR := Lib.hid hr11
        clear hr11
        go_wp2
        all_goals (go_ret; exact ⟨by rw [HR.out]; rfl, below_box hb⟩)
      · have hok : stepsOk 0 ss = stepsOk s (ss.drop (k + 1)) := by rw [HST.out, HDR.out, ← HSS.out]; exact step_ok (by omega) (by omega)
        have HK := Lib.hid hok
        clear hok
        have hs1 : lv < s := by omega
        have hs2 : s ≤ 127 := by omega
        clear hbad
        go_wp2
        go_roundw
        case rel => exact ⟨k + 1, s, by omega, by go_num, rfl, by omega, HK.out, hb⟩
        case measure => simp [intOf]; omega
    · obtain rfl : k = ns := by omega
      have hall : stepsOk 0 ss = true := by rw [HST.out, List.drop_of_length_le (by rw [HLS.out]; exact Nat.le_refl _)]; rfl
      have hra : r = crsAll ss cs := by rw [hr.out, hall]; rfl
      have hbd := stepsOk_bd 0 ss (Int.le_refl _) hall
      have HR := Lib.hid hra
      have HALL := Lib.hid hall
      have HBD := Lib.hid hbd
      clear hra hall hbd
      obtain ⟨wo, rfl⟩ : ∃ wo : World, wo = wr := ⟨_, rfl⟩
      have hz : w.heap.size + 1 ≤ wo.heap.size := by have := hb.size; simpa using this
      have hbw := below_box hb
      have hx0 : wo.cell? ⟨w.heap.size, 0, none⟩ = some (.slice A nc cc) := (hb.cell (p := ⟨w.heap.size, 0, none⟩) (Nat.lt_succ_self _)).trans (by simp [go_sem])
      have hx1 : wo.cell? ⟨w.heap.size, 1, none⟩ = some (.slice C k kc) := (hb.cell (p := ⟨w.heap.size, 1, none⟩) (Nat.lt_succ_self _)).trans (by simp [go_sem])
      have hCo := hC.up hbw
      have hSo := hS.up hbw
      clear hC hS hb HST
      go_wp2
      go_loopw [41] (fun i wr => ∃ j : Nat, j ≤ nc ∧ i = .int .i64 j ∧ crsAll ss cs = crsAll ss (cs.drop j) ∧ Below wo.heap.size wo wr)
        (fun i _ => nc - (intOf i).toNat)
      case atStart => exact ⟨0, Nat.zero_le _, rfl, rfl, Below.refl _ _⟩
      case round =>
        obtain ⟨j, hj, rfl, hca, hb2⟩ := hrel
        have HCA := Lib.hid hca
        clear hca
        have hz2 : w.heap.size < wr.heap.size := by have := hb2.size; omega
        by_cases hlt2 : j < nc
        · obtain ⟨b, o, rfl, hbB, hp, hf, ho⟩ := (hCo.up hb2).crs_at hlt2
          have hS2 := hSo.up hb2
          have hy0 := (hb2.cell (p := ⟨w.heap.size, 0, none⟩) (by show w.heap.size < wo.heap.size; omega)).trans hx0
          have hy1 := (hb2.cell (p := ⟨w.heap.size, 1, none⟩) (by show w.heap.size < wo.heap.size; omega)).trans hx1
          have hdr := drop_cons cs j (by have := HLC.out; omega)
          obtain ⟨c, hcd⟩ : ∃ c, c = cs.getD j default := ⟨_, rfl⟩
          rw [← hcd] at hp hf ho hdr
          have HDR := Lib.hid hdr
          clear hdr hcd hCo hSo hx0 hx1
          obtain ⟨p, f, oc⟩ := c
          dsimp only at hp hf ho
          have hbr := hbw.trans (hb2.mono (by omega))
          by_cases hb13 : f < 0 ∨ (k : Int) < f
          · have hfin : r = 13 := by rw [HR.out, HCA.out, HDR.out]; exact crsAll_bad (crsE_13 (by simpa [HLS.out] using hb13)) (by decide)
            have HF := Lib.hid hfin
            clear hfin
            go_wp2
            all_goals (go_ret; refine ⟨by rw [HF.out]; rfl, hbr.trans (Below.mono (B := wr.heap.size) ?_ (by omega))⟩; repeat (first | exact Below.refl _ _ | assumption | refine below_drewN ?_ _ | refine Below.drew ?_ | refine Below.alloc ?_ (by first | exact Nat.le_refl _ | omega | (simp; done) | (simp; omega)) _ | refine Below.setCell ?_ (by first | exact Nat.le_refl _ | (simp; done) | (simp; omega)) _))
          · have hf0 : 0 ≤ f ∧ f ≤ (k : Int) := by omega
            have hf0' : 0 ≤ f ∧ f ≤ (ss.length : Int) := by rw [HLS.out]; exact hf0
            obtain ⟨hf1, hf2⟩ := hf0
            have HF0 := Lib.hid hf0'
            clear hb13 hf0'
            by_cases hpp : p < 0 ∨ 127 < p
            · have hfin : r = 10 := by rw [HR.out, HCA.out, HDR.out]; exact crsAll_bad (crsE_10 HF0.out (by dsimp only; omega)) (by decide)
              have HF := Lib.hid hfin
              clear hfin
              go_wp2
              all_goals (go_ret; refine ⟨by rw [HF.out]; rfl, hbr.trans (Below.mono (B := wr.heap.size) ?_ (by omega))⟩; repeat (first | exact Below.refl _ _ | assumption | refine below_drewN ?_ _ | refine Below.drew ?_ | refine Below.alloc ?_ (by first | exact Nat.le_refl _ | omega | (simp; done) | (simp; omega)) _ | refine Below.setCell ?_ (by first | exact Nat.le_refl _ | (simp; done) | (simp; omega)) _))
            · have hp0 : 0 ≤ p := by omega
              have hp1 : p ≤ 127 := by omega
              clear hpp
              obtain ⟨h, hh⟩ : ∃ h, h = hiOf ss p f oc := ⟨_, rfl⟩
              have hcall : ∀ W, Below wr.heap.size wr W → Calls Tryd.prog 69 #[.agg #[.slice (some ⟨b, o, none⟩) nc cc, .slice C k kc], .agg #[.int .i64 p, .int .i64 f, .bool oc]] W fun e w' =>
                  e = .returned (.int .i64 h) ∧ Below wr.heap.size wr w' := fun W hW =>
                (highest_any _ _ _ _ _ _ _ _ _ ss W (hS2.up hW) HBD.out hp0 hp1 hf1 hf2 (by omega)).mono fun e w' ⟨he, hw⟩ => ⟨he.trans (by rw [hh]), hW.trans (hw.mono hW.size)⟩
              have HCALL := Lib.hid hcall
              have HH := Lib.hid hh
              clear hcall hh
              by_cases hbig : 127 < h
              · have hfin : r = 10 := by rw [HR.out, HCA.out, HDR.out]; exact crsAll_bad (crsE_10 HF0.out (Or.inr (Or.inr (by dsimp only; rw [← HH.out]; exact hbig)))) (by decide)
                have HF := Lib.hid hfin
                clear hfin
                go_wp2_with (go_at_call 69; refine (HCALL.out _ ?_).mono ?_; (repeat (first | exact Below.refl _ _ | assumption | refine below_drewN ?_ _ | refine Below.drew ?_ | refine Below.alloc ?_ (by first | exact Nat.le_refl _ | omega | (simp; done) | (simp; omega)) _ | refine Below.setCell ?_ (by first | exact Nat.le_refl _ | (simp; done) | (simp; omega)) _)); rintro e w' ⟨rfl, hb3⟩)
                all_goals (go_ret; exact ⟨by rw [HF.out]; rfl, hbr.trans (hb3.mono (by omega))⟩)
              · have hnext : crsAll ss cs = crsAll ss (cs.drop (j + 1)) := by rw [HCA.out, HDR.out]; exact crsAll_ok (crsE_0 HF0.out (by dsimp only; rw [← HH.out]; omega))
                have HN := Lib.hid hnext
                have hsm : h ≤ 127 := by omega
                clear hnext hbig
                go_wp2_with (go_at_call 69; refine (HCALL.out _ ?_).mono ?_; (repeat (first | exact Below.refl _ _ | assumption | refine below_drewN ?_ _ | refine Below.drew ?_ | refine Below.alloc ?_ (by first | exact Nat.le_refl _ | omega | (simp; done) | (simp; omega)) _ | refine Below.setCell ?_ (by first | exact Nat.le_refl _ | (simp; done) | (simp; omega)) _)); rintro e w' ⟨rfl, hb3⟩)
                go_roundw
                case rel => exact ⟨j + 1, by omega, by go_num, HN.out, hb2.trans (hb3.mono hb2.size)⟩
                case measure => simp [intOf]; omega
        · obtain rfl : j = nc := by omega
          have hfin : r = 0 := by rw [HR.out, HCA.out, List.drop_of_length_le (by rw [HLC.out]; exact Nat.le_refl _)]; rfl
          have HF := Lib.hid hfin
          clear hfin
          go_wp2
          go_ret
          exact ⟨by rw [HF.out]; rfl, hbw.trans (hb2.mono (by omega))⟩

/-- Check: the error that the model names; nothing that was there is changed. -/
theorem check_any (A C : Option Addr) (nc cc ns kc : Nat) (cs : List Crs) (ss : List Int) (w : World) (hC : Arr w w.heap.size 3 A nc (cells3 cs)) (hS : Arr w w.heap.size 1 C ns (ss.map (Value.int .i64))) :
    Calls Tryd.prog 30 #[.agg #[.slice A nc cc, .slice C ns kc]] w fun e w' =>
    e = .returned (.int .i64 (chk cs ss)) ∧ Below w.heap.size w w' := by
  have hlc : cs.length = nc := by have := hC.1; rw [cells3_length] at this; omega
  have hls : ss.length = ns := by have := hS.1; simpa using this
  by_cases hbig : 14 < nc ∨ 18 < ns
  · have hr : chk cs ss = 2 := by rw [chk, if_pos (by omega)]
    rw [hr]
    clear hr hC hS
    go_enter Tryd.func30, Tryd.ntmps30
    go_wp2
    all_goals (go_ret; exact ⟨rfl, (by repeat (first | exact Below.refl _ _ | assumption | refine below_drewN ?_ _ | refine Below.drew ?_ | refine Below.alloc ?_ (by first | exact Nat.le_refl _ | omega | (simp; done) | (simp; omega)) _ | refine Below.setCell ?_ (by first | exact Nat.le_refl _ | (simp; done) | (simp; omega)) _))⟩)
  · by_cases hz : nc = 0
    · have hr : chk cs ss = 11 := by rw [chk, if_neg (by omega), if_pos (List.eq_nil_of_length_eq_zero (by omega))]
      rw [hr]
      have h1 : nc ≤ 14 := by omega
      have h2 : ns ≤ 18 := by omega
      clear hr hC hS hlc hls hbig
      subst hz
      go_enter Tryd.func30, Tryd.ntmps30
      go_wp2
      all_goals (go_ret; exact ⟨rfl, (by repeat (first | exact Below.refl _ _ | assumption | refine below_drewN ?_ _ | refine Below.drew ?_ | refine Below.alloc ?_ (by first | exact Nat.le_refl _ | omega | (simp; done) | (simp; omega)) _ | refine Below.setCell ?_ (by first | exact Nat.le_refl _ | (simp; done) | (simp; omega)) _))⟩)
    · refine check_main A C nc cc ns kc cs ss w hC hS (by omega) (by omega) (by omega) _ ?_
      show chk cs ss = _
      rw [chk, if_neg (by omega), if_neg (by intro h; rw [h] at hlc; simp at hlc; omega)]
end Go.Proofs.YtbdhjpdjbogggaaDoor
namespace Go.Proofs.YtbdhjpdjbogggaaDoor
open Go.RowKit

def digB (c : UInt8) : Bool := decide (48 ≤ (c.toNat : Int)) && decide ((c.toNat : Int) ≤ 57)
def decS (n : Int) (c : UInt8) : Int := 10 * n + ((c.toNat : Int) - 48)
def decL (l : List UInt8) : Int := l.foldl decS 0
def numBad (l : List UInt8) : Bool := decide (l.length < 1) || decide (3 < l.length) || (l.head? == some 48 && l != [48]) || !(l.all digB)
def numN (l : List UInt8) : Int := if numBad l then 0 else decL l
def numOk (l : List UInt8) : Bool := !numBad l

theorem take_snoc (s : ByteArray) (k : Nat) (h : k < s.size) : s.data.toList.take (k + 1) = s.data.toList.take k ++ [s[k]] := by
  rw [List.take_succ_eq_append_getElem (by simpa using h)]; rfl
theorem drop_str (s : ByteArray) (k : Nat) (h : k < s.size) : s.data.toList.drop k = s[k] :: s.data.toList.drop (k + 1) := by
  rw [List.drop_eq_getElem_cons (by simpa using h)]; rfl
theorem byte_lt (c : UInt8) : (c.toNat : Int) ≤ 255 := by have := c.toNat_lt; omega

theorem dec_snoc (l : List UInt8) (c : UInt8) : decL (l ++ [c]) = 10 * decL l + ((c.toNat : Int) - 48) := by simp [decL, List.foldl_append, decS]
theorem dig_bd {c : UInt8} (h : digB c = true) : 48 ≤ (c.toNat : Int) ∧ (c.toNat : Int) ≤ 57 := by simpa [digB] using h
theorem dec_1000 (l : List UInt8) (h : l.length ≤ 3) (hd : ∀ c ∈ l, digB c = true) : 0 ≤ decL l ∧ decL l ≤ 999 := by
  match l, h with
  | [], _ => simp [decL]
  | [a], _ => have ha := dig_bd (hd a (by simp)); simp only [decL, decS, List.foldl]; omega
  | [a, b], _ => have ha := dig_bd (hd a (by simp)); have hb := dig_bd (hd b (by simp)); simp only [decL, decS, List.foldl]; omega
  | [a, b, c], _ => have ha := dig_bd (hd a (by simp)); have hb := dig_bd (hd b (by simp)); have hc := dig_bd (hd c (by simp)); simp only [decL, decS, List.foldl]; omega
  | _ :: _ :: _ :: _ :: _, h => simp at h
theorem dig_snoc {l : List UInt8} {c : UInt8} (h : ∀ x ∈ l, digB x = true) (hc : digB c = true) : ∀ x ∈ l ++ [c], digB x = true := by
  intro x hx; simp at hx; rcases hx with hx | rfl
  · exact h x hx
  · exact hc
theorem all_bad {s : ByteArray} {k : Nat} (h : k < s.size) (hc : ¬ digB s[k] = true) : s.data.toList.all digB = false := by
  rw [Bool.eq_false_iff]; intro hall; exact hc (List.all_eq_true.1 hall _ (List.getElem_mem (l := s.data.toList) (by simpa using h)))

set_option maxHeartbeats 4000000 in
theorem number_main (s : ByteArray) (w : World) (h1 : 1 ≤ s.size) (h3 : s.size ≤ 3) (hh : (((s[0]'h1).toNat : Int) == 48) = false ∨ ((((s[0]'h1).toNat : Int) == 48) = true ∧ (s.toList == [48]) = true))
    (n : Int) (b : Bool) (hn : Hid (n = if s.data.toList.all digB then decL s.data.toList else 0)) (hb : Hid (b = s.data.toList.all digB)) :
    Calls Tryd.prog 73 #[.string s] w fun e w' => e = .returned (.tuple #[.int .i64 n, .bool b]) ∧ w = w' := by
  have d1 : decide ((s.size : Int) < 1) = false := by simp; omega
  have d2 : decide ((3 : Int) < (s.size : Int)) = false := by simp; omega
  rcases hh with hA | ⟨hB, hB'⟩
  all_goals
    go_enter Tryd.func73, Tryd.ntmps73
    go_wp2
    go_loop [4, 5] (fun m i => ∃ k : Nat, k ≤ s.size ∧ i = .int .i64 k ∧ m = .int .i64 (decL (s.data.toList.take k)) ∧ Hid (∀ c ∈ s.data.toList.take k, digB c = true)) (fun _ i => s.size - (intOf i).toNat)
    case atStart => exact ⟨0, Nat.zero_le _, rfl, rfl, fun c hc => by simp at hc⟩
    case round =>
      obtain ⟨k, hk, rfl, rfl, hdig⟩ := hrel
      have hbd := dec_1000 (s.data.toList.take k) (by simp; omega) hdig.out
      by_cases hlt : k < s.size
      · have hts := Lib.hid (take_snoc s k hlt)
        have hds := Lib.hid (drop_str s k hlt)
        obtain ⟨m, hm⟩ : ∃ m, m = decL (s.data.toList.take k) := ⟨_, rfl⟩
        rw [← hm] at hbd ⊢
        have HM := Lib.hid hm
        clear hm
        have hcb := byte_lt s[k]
        by_cases hd : digB s[k] = true
        · have hd' := hd
          simp [digB] at hd'
          have HD := Lib.hid hd
          clear hd
          obtain ⟨hd1, hd2⟩ := hd'
          go_wp2
          go_round
          case rel => exact ⟨k + 1, by omega, by go_num, by rw [hts.out, dec_snoc, ← HM.out], show ∀ c ∈ _, _ by rw [hts.out]; exact dig_snoc hdig.out HD.out⟩
          case measure => simp [intOf]; omega
        · have hall := all_bad hlt hd
          have hn0 : n = 0 := by rw [hn.out, hall]; rfl
          have hb0 : b = false := by rw [hb.out, hall]
          have HN := Lib.hid hn0
          have HB := Lib.hid hb0
          have hd' : ¬ (48 ≤ (s[k].toNat : Int) ∧ (s[k].toNat : Int) ≤ 57) := by simpa [digB] using hd
          clear hn0 hb0 hall hd
          go_wp2
          all_goals (go_ret2; exact ⟨by rw [HN.out, HB.out]; rfl, rfl⟩)
      · obtain rfl : k = s.size := by omega
        have htk : s.data.toList.take s.size = s.data.toList := List.take_of_length_le (by simp)
        have hall : s.data.toList.all digB = true := by rw [List.all_eq_true, ← htk]; exact hdig.out
        have hn0 : n = decL s.data.toList := by rw [hn.out, hall]; rfl
        have hb0 : b = true := by rw [hb.out, hall]
        have HN := Lib.hid hn0
        have HB := Lib.hid hb0
        rw [htk]
        clear hn0 hb0 hall htk hbd
        go_wp2
        go_ret2
        exact ⟨by rw [HN.out, HB.out]; rfl, rfl⟩

theorem number_any (s : ByteArray) (w : World) :
    Calls Tryd.prog 73 #[.string s] w fun e w' => e = .returned (.tuple #[.int .i64 (numN s.data.toList), .bool (numOk s.data.toList)]) ∧ w = w' := by
  have hl : s.data.toList.length = s.size := by simp
  by_cases hz : s.size < 1 ∨ 3 < s.size
  · have hbad : numBad s.data.toList = true := by simp only [numBad, hl]; rcases hz with h | h <;> simp [h]
    rw [numN, numOk, hbad]
    clear hbad hl
    go_enter Tryd.func73, Tryd.ntmps73
    go_wp2
    all_goals (go_ret2; exact ⟨rfl, rfl⟩)
  · have h1 : 1 ≤ s.size := by omega
    have hh : s.data.toList.head? = some (s[0]'h1) := by rw [List.head?_eq_getElem?, List.getElem?_eq_getElem (by rw [hl]; omega)]; rfl
    have e0 : decide (s.data.toList.length < 1) = false := decide_eq_false (by omega)
    have e3 : decide (3 < s.data.toList.length) = false := decide_eq_false (by omega)
    by_cases hb : (s.data.toList.head? == some 48 && s.data.toList != [48]) = true
    · have hbad : numBad s.data.toList = true := by simp only [numBad, hb]; simp
      rw [numN, numOk, hbad]
      simp only [hh, Bool.and_eq_true, bne_iff_ne, beq_iff_eq, Option.some.injEq] at hb
      have hA : (((s[0]'h1).toNat : Int) == 48) = true := by rw [hb.1]; rfl
      have hB : (s.toList == [48]) = false := by simp only [beq_eq_false_iff_ne]; intro h; exact hb.2 (by rw [← ByteArray.toList_eq]; exact h)
      clear hbad hl hh hb e0 e3
      go_enter Tryd.func73, Tryd.ntmps73
      go_wp2
      all_goals (go_ret2; exact ⟨rfl, rfl⟩)
    · have hnb : numBad s.data.toList = !(s.data.toList.all digB) := by simp only [numBad, e0, e3, Bool.eq_false_iff.2 hb]; simp
      refine number_main s w h1 (by omega) ?_ _ _ ?_ ?_
      · rw [hh] at hb
        by_cases h48 : s[0]'h1 = 48
        · right
          refine ⟨by rw [h48]; rfl, ?_⟩
          rw [ByteArray.toList_eq]
          simpa [h48] using hb
        · left
          simp only [beq_eq_false_iff_ne]
          intro h
          exact h48 (UInt8.toNat_inj.1 (by rw [show (48 : UInt8).toNat = 48 from rfl]; omega))
      · show numN _ = _
        rw [numN, hnb]
        cases s.data.toList.all digB <;> rfl
      · show numOk _ = _
        rw [numOk, hnb]; simp
end Go.Proofs.YtbdhjpdjbogggaaDoor
