/- Walk: Same of the program. -/
import Derived.Test.YtbdhjpdjbogggaaDoorW1
import Derived.Test.YtbdhjpdjbogggaaDoorKp
namespace Go.Proofs.YtbdhjpdjbogggaaDoor
open Go.RowKit

set_option maxHeartbeats 8000000 in
theorem same_main (A C A2 C2 : Option Addr) (nc cc ns kc cc2 kc2 : Nat) (cs cs2 : List Crs) (ss ss2 : List Int) (w : World) (hC : Arr w w.heap.size 3 A nc (cells3 cs)) (hS : Arr w w.heap.size 1 C ns (ss.map (Value.int .i64)))
    (hC2 : Arr w w.heap.size 3 A2 nc (cells3 cs2)) (h44 : Arr w w.heap.size 1 C2 ns (ss2.map (Value.int .i64))) (hnc : nc ≤ 1000000) (hns : ns ≤ 1000000) (r : Bool) (hr : Hid (r = (decide (cs = cs2) && decide (ss = ss2)))) :
    Calls Tryd.prog 39 #[.agg #[.slice A nc cc, .slice C ns kc], .agg #[.slice A2 nc cc2, .slice C2 ns kc2]] w fun e w' => e = .returned (.bool r) ∧ Below w.heap.size w w' := by
  have hlc : cs.length = nc := by have := hC.1; rw [cells3_length] at this; omega
  have hls : ss.length = ns := by have := hS.1; simpa using this
  have hlc2 : cs2.length = nc := by have := hC2.1; rw [cells3_length] at this; omega
  have hls2 : ss2.length = ns := by have := h44.1; simpa using this
  have HLC := Lib.hid hlc
  have HLS := Lib.hid hls
  have HLC2 := Lib.hid hlc2
  have HL44 := Lib.hid hls2
  have HC := Lib.hid hC
  have HS := Lib.hid hS
  have HC2 := Lib.hid hC2
  have H44 := Lib.hid h44
  clear hlc hls hlc2 hls2 hC hS hC2 h44
  go_enter Tryd.func39, Tryd.ntmps39
  go_wp2
  have hkb : Kp w ((w.alloc (Obj.cells #[.slice A nc cc, .slice C ns kc] 39)).alloc (Obj.cells #[.slice A2 nc cc2, .slice C2 ns kc2] 39)) := ((Kp.refl w).alloc _).alloc _
  have d0 : ((w.alloc (Obj.cells #[.slice A nc cc, .slice C ns kc] 39)).alloc (Obj.cells #[.slice A2 nc cc2, .slice C2 ns kc2] 39)).cell? ⟨w.heap.size, 0, none⟩ = some (.slice A nc cc) := by simp [go_sem]
  have d1 : ((w.alloc (Obj.cells #[.slice A nc cc, .slice C ns kc] 39)).alloc (Obj.cells #[.slice A2 nc cc2, .slice C2 ns kc2] 39)).cell? ⟨w.heap.size, 1, none⟩ = some (.slice C ns kc) := by simp [go_sem]
  have d2 : ((w.alloc (Obj.cells #[.slice A nc cc, .slice C ns kc] 39)).alloc (Obj.cells #[.slice A2 nc cc2, .slice C2 ns kc2] 39)).cell? ⟨w.heap.size + 1, 0, none⟩ = some (.slice A2 nc cc2) := by simp [go_sem]
  have d3 : ((w.alloc (Obj.cells #[.slice A nc cc, .slice C ns kc] 39)).alloc (Obj.cells #[.slice A2 nc cc2, .slice C2 ns kc2] 39)).cell? ⟨w.heap.size + 1, 1, none⟩ = some (.slice C2 ns kc2) := by simp [go_sem]
  generalize (w.alloc (Obj.cells #[.slice A nc cc, .slice C ns kc] 39)).alloc (Obj.cells #[.slice A2 nc cc2, .slice C2 ns kc2] 39) = wb at *
  go_loopw [26] (fun i wr => ∃ k : Nat, k ≤ nc ∧ i = .int .i64 k ∧ Hid (cs.take k = cs2.take k) ∧ Kp wb wr) (fun i _ => nc - (intOf i).toNat)
  case atStart => exact ⟨0, Nat.zero_le _, rfl, Lib.hid rfl, Kp.refl wb⟩
  case round =>
    obtain ⟨k, hk, rfl, HT, hkw⟩ := hrel
    have c0 := hkw.cell d0
    have c1 := hkw.cell d1
    have c2 := hkw.cell d2
    have c3 := hkw.cell d3
    have hkw2 := hkw.below hkb
    by_cases hlt : k < nc
    · obtain ⟨b, o, rfl, hbB, hp, hf, ho⟩ := (HC.out.up hkw2).crs_at hlt
      obtain ⟨b2, o2, rfl, hbB2, hp2, hf2, ho2⟩ := (HC2.out.up hkw2).crs_at hlt
      obtain ⟨c, hcd⟩ : ∃ c, c = cs.getD k default := ⟨_, rfl⟩
      obtain ⟨c', hcd'⟩ : ∃ c', c' = cs2.getD k default := ⟨_, rfl⟩
      rw [← hcd] at hp hf ho
      rw [← hcd'] at hp2 hf2 ho2
      have hi1 : (k : Int) < (nc : Int) := by omega
      have hi0 : (0 : Int) ≤ (k : Int) := by omega
      by_cases heq : c = c'
      · have hn : cs.take (k + 1) = cs2.take (k + 1) := by
          have l1 : k < cs.length := by rw [HLC.out]; exact hlt
          have l2 : k < cs2.length := by rw [HLC2.out]; exact hlt
          rw [List.take_succ_eq_append_getElem l1, List.take_succ_eq_append_getElem l2, HT.out]
          congr 2
          rw [List.getD_eq_getElem?_getD, List.getElem?_eq_getElem l1] at hcd
          rw [List.getD_eq_getElem?_getD, List.getElem?_eq_getElem l2] at hcd'
          exact hcd.symm.trans (heq.trans hcd')
        have HN := Lib.hid hn
        subst heq
        clear hn hcd hcd' d0 d1 d2 d3
        go_wp2
        go_quiet (fail)
        go_wp2
        go_roundw
        case rel => exact ⟨k + 1, by omega, by go_num, HN, by simp [*]⟩
        case measure => simp [intOf]; omega
      · have hfin : r = false := by
          rw [hr.out, Bool.and_eq_false_iff]
          left
          refine decide_eq_false (fun h => heq ?_)
          rw [hcd, hcd', h]
        have HF := Lib.hid hfin
        have hcs : (c.p == c'.p) = false ∨ (c.p = c'.p ∧ ((c.f == c'.f) = false ∨ (c.f = c'.f ∧ (c.o == c'.o) = false))) := by
          by_cases h1 : c.p = c'.p
          · refine .inr ⟨h1, ?_⟩
            by_cases h2 : c.f = c'.f
            · refine .inr ⟨h2, ?_⟩
              rw [beq_eq_false_iff_ne]
              intro h3
              apply heq
              obtain ⟨p, f, o⟩ := c
              obtain ⟨p', f', o'⟩ := c'
              simp only at h1 h2 h3
              rw [h1, h2, h3]
            · exact .inl (beq_eq_false_iff_ne.2 h2)
          · exact .inl (beq_eq_false_iff_ne.2 h1)
        obtain ⟨p, f, oc⟩ := c
        obtain ⟨p', f', oc'⟩ := c'
        dsimp only at hp hf ho hp2 hf2 ho2 hcs
        clear hfin hcd hcd' d0 d1 d2 d3 heq
        rcases hcs with g1 | ⟨rfl, g2 | ⟨rfl, g3⟩⟩
        all_goals
          go_wp2
          go_quiet (fail)
          go_wp2
          go_ret
          exact ⟨by rw [HF.out]; rfl, Kp.below (wx := wb) (by simp [*]) hkb⟩
    · obtain rfl : k = nc := by omega
      have hce : cs = cs2 := by
        have h := HT.out
        rw [List.take_of_length_le (by rw [HLC.out]; exact Nat.le_refl _), List.take_of_length_le (by rw [HLC2.out]; exact Nat.le_refl _)] at h
        exact h
      have HCE := Lib.hid hce
      clear hce HC HC2 HT
      obtain ⟨wo, rfl⟩ : ∃ wo : World, wo = wr := ⟨_, rfl⟩
      go_wp2
      go_loopw [44] (fun i wr => ∃ j : Nat, j ≤ ns ∧ i = .int .i64 j ∧ Hid (ss.take j = ss2.take j) ∧ Kp wb wr) (fun i _ => ns - (intOf i).toNat)
      case atStart => exact ⟨0, Nat.zero_le _, rfl, Lib.hid rfl, hkw⟩
      case round =>
        obtain ⟨j, hj, rfl, HT, hkw9⟩ := hrel
        have c4 := hkw9.cell d0
        have c5 := hkw9.cell d1
        have c6 := hkw9.cell d2
        have c7 := hkw9.cell d3
        have hkw3 := hkw9.below hkb
        clear c0 c1 c2 c3
        by_cases hlt2 : j < ns
        · obtain ⟨b, o, rfl, hbB, hp⟩ := (HS.out.up hkw3).int_at hlt2
          obtain ⟨b2, o2, rfl, hbB2, hp2⟩ := (H44.out.up hkw3).int_at hlt2
          obtain ⟨c, hcd⟩ : ∃ c, c = ss.getD j 0 := ⟨_, rfl⟩
          obtain ⟨c', hcd'⟩ : ∃ c', c' = ss2.getD j 0 := ⟨_, rfl⟩
          rw [← hcd] at hp
          rw [← hcd'] at hp2
          have hi1 : (j : Int) < (ns : Int) := by omega
          have hi0 : (0 : Int) ≤ (j : Int) := by omega
          by_cases heq : c = c'
          · have hn : ss.take (j + 1) = ss2.take (j + 1) := by
              have l1 : j < ss.length := by rw [HLS.out]; exact hlt2
              have l2 : j < ss2.length := by rw [HL44.out]; exact hlt2
              rw [List.take_succ_eq_append_getElem l1, List.take_succ_eq_append_getElem l2, HT.out]
              congr 2
              rw [List.getD_eq_getElem?_getD, List.getElem?_eq_getElem l1] at hcd
              rw [List.getD_eq_getElem?_getD, List.getElem?_eq_getElem l2] at hcd'
              exact hcd.symm.trans (heq.trans hcd')
            have HN := Lib.hid hn
            subst heq
            clear hn hcd hcd' d0 d1 d2 d3
            go_wp2
            go_quiet (fail)
            go_wp2
            go_roundw
            case rel => exact ⟨j + 1, by omega, by go_num, HN, by simp [*]⟩
            case measure => simp [intOf]; omega
          · have hfin : r = false := by
              rw [hr.out, Bool.and_eq_false_iff]
              right
              refine decide_eq_false (fun h => heq ?_)
              rw [hcd, hcd', h]
            have HF := Lib.hid hfin
            have hcs : (c == c') = false := beq_eq_false_iff_ne.2 heq
            clear hfin hcd hcd' d0 d1 d2 d3 heq
            go_wp2
            go_quiet (fail)
            go_wp2
            go_ret
            exact ⟨by rw [HF.out]; rfl, Kp.below (wx := wb) (by simp [*]) hkb⟩
        · obtain rfl : j = ns := by omega
          have hfin : r = true := by
            have h := HT.out
            rw [List.take_of_length_le (by rw [HLS.out]; exact Nat.le_refl _), List.take_of_length_le (by rw [HL44.out]; exact Nat.le_refl _)] at h
            rw [hr.out, HCE.out, h, decide_eq_true rfl, decide_eq_true rfl]; rfl
          have HF := Lib.hid hfin
          clear hfin
          go_wp2
          go_ret
          exact ⟨by rw [HF.out]; rfl, hkw3⟩

/-- Same: whether courses and steps are equal. -/
theorem same_any (A C A2 C2 : Option Addr) (nc cc ns kc nc2 cc2 ns2 kc2 : Nat) (cs cs2 : List Crs) (ss ss2 : List Int) (w : World) (hC : Arr w w.heap.size 3 A nc (cells3 cs)) (hS : Arr w w.heap.size 1 C ns (ss.map (Value.int .i64)))
    (hC2 : Arr w w.heap.size 3 A2 nc2 (cells3 cs2)) (h44 : Arr w w.heap.size 1 C2 ns2 (ss2.map (Value.int .i64))) (hnc : nc ≤ 1000000) (hns : ns ≤ 1000000) :
    Calls Tryd.prog 39 #[.agg #[.slice A nc cc, .slice C ns kc], .agg #[.slice A2 nc2 cc2, .slice C2 ns2 kc2]] w fun e w' => e = .returned (.bool (decide (cs = cs2) && decide (ss = ss2))) ∧ Below w.heap.size w w' := by
  have hlc : cs.length = nc := by have := hC.1; rw [cells3_length] at this; omega
  have hls : ss.length = ns := by have := hS.1; simpa using this
  have hlc2 : cs2.length = nc2 := by have := hC2.1; rw [cells3_length] at this; omega
  have hls2 : ss2.length = ns2 := by have := h44.1; simpa using this
  by_cases h1 : nc = nc2
  · by_cases h2 : ns = ns2
    · subst h1
      subst h2
      exact same_main A C A2 C2 nc cc ns kc cc2 kc2 cs cs2 ss ss2 w hC hS hC2 h44 hnc hns _ (Lib.hid rfl)
    · have hf : (decide (cs = cs2) && decide (ss = ss2)) = false := by
        rw [Bool.and_eq_false_iff]; right
        exact decide_eq_false (fun h => h2 (by rw [← hls, ← hls2, h]))
      rw [hf]
      have hb : ((ns : Int) == (ns2 : Int)) = false := beq_eq_false_iff_ne.2 (by omega)
      subst h1
      clear hC hS hC2 h44 hlc hls hlc2 hls2 hf h2
      go_enter Tryd.func39, Tryd.ntmps39
      go_wp2
      go_ret
      exact ⟨rfl, (by repeat (first | exact Below.refl _ _ | assumption | refine below_drewN ?_ _ | refine Below.drew ?_ | refine Below.alloc ?_ (by first | exact Nat.le_refl _ | omega | (simp; done) | (simp; omega)) _ | refine Below.setCell ?_ (by first | exact Nat.le_refl _ | (simp; done) | (simp; omega)) _))⟩
  · have hf : (decide (cs = cs2) && decide (ss = ss2)) = false := by
      rw [Bool.and_eq_false_iff]; left
      exact decide_eq_false (fun h => h1 (by rw [← hlc, ← hlc2, h]))
    rw [hf]
    have hb : ((nc : Int) == (nc2 : Int)) = false := beq_eq_false_iff_ne.2 (by omega)
    clear hC hS hC2 h44 hlc hls hlc2 hls2 hf h1
    go_enter Tryd.func39, Tryd.ntmps39
    go_wp2
    go_ret
    exact ⟨rfl, (by repeat (first | exact Below.refl _ _ | assumption | refine below_drewN ?_ _ | refine Below.drew ?_ | refine Below.alloc ?_ (by first | exact Nat.le_refl _ | omega | (simp; done) | (simp; omega)) _ | refine Below.setCell ?_ (by first | exact Nat.le_refl _ | (simp; done) | (simp; omega)) _))⟩
end Go.Proofs.YtbdhjpdjbogggaaDoor
