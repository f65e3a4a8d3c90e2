/- Walk of the reference: Places. -/
import Derived.Test.YtbdhjpdjbogggaaDoorW16
import Derived.Test.YtbdhjpdjbogggaaDoorR5
namespace Go.Proofs.YtbdhjpdjbogggaaDoor
open Go.RowKit

set_option maxRecDepth 100000 in
set_option maxHeartbeats 8000000 in
theorem rplaces_main (A C : Option Addr) (nc cc ns kc : Nat) (cs : List Crs) (ss : List Int) (r : Int) (w : World) (hC : Arr w w.heap.size 3 A nc (cells3 cs)) (hS : Arr w w.heap.size 1 C ns (ss.map (Value.int .i64)))
    (hz : chk cs ss = 0) (r0 : 0 ≤ r) (r1 : r ≤ 127) :
    Calls Tryd.prog 41 #[.agg #[.slice A nc cc, .slice C ns kc], .int .i64 r] w (PlRet w (plTo cs ss r nc) 0) := by
  obtain ⟨i1, hi1, hy0, hy1, hy2⟩ := info_parts info_pl
  have HII := Lib.hid hi1
  have hlc : cs.length = nc := by have := hC.1; rw [cells3_length] at this; omega
  have hls : ss.length = ns := by have := hS.1; simpa using this
  obtain ⟨z1, z2, z3, z4⟩ := chk_zero hz
  have hbd := stepsOk_bd 0 ss (Int.le_refl _) z3
  have hck : ∀ W, Kp w W → Calls Tryd.prog 31 #[.agg #[.slice A nc cc, .slice C ns kc]] W fun e w' => e = .returned (.int .i64 0) ∧ Below W.heap.size W w' := fun W hW => by
    have h := rcheck_any A C nc cc ns kc cs ss W (hC.up hW) (hS.up hW)
    rw [hz] at h
    exact h
  have hst : ∀ W, Kp w W → ∀ (k f : Nat) (p : Int), k < nc → p = (cs.getD k default).p → 0 ≤ p → p ≤ 127 → f ≤ ns → Calls Tryd.prog 68 #[.agg #[.slice A nc cc, .slice C ns kc], .agg #[.int .i64 ((k : Int) + 1), .int .i64 f]] W fun e w' => e = .returned (.int .i64 (stopOf ss p f)) ∧ Below W.heap.size W w' := fun W hW k f p hk hp h1 h2 h3 =>
    rsound_any _ _ _ _ _ _ k cs ss f p W (hC.up hW) (hS.up hW) hk hp h1 h2 hbd (by omega) (by omega) (by omega) (by omega)
  have hcr : ∀ k : Nat, k < nc → ∃ c, c = cs.getD k default ∧ 0 ≤ c.f ∧ c.f ≤ (ns : Int) ∧ 0 ≤ c.p ∧ c.p ≤ 127 := fun k hk => by
    refine ⟨_, rfl, ?_⟩
    rw [List.getD_eq_getElem?_getD, List.getElem?_eq_getElem (by omega)]
    have h := crsE_fit (z4 _ (List.getElem_mem (by omega : k < cs.length)))
    rw [hls] at h
    exact ⟨h.1, h.2.1, h.2.2.1, h.2.2.2.1⟩
  have HCK := Lib.hid hck
  have HST := Lib.hid hst
  have HCR := Lib.hid hcr
  have HC := Lib.hid hC
  have h14 : nc ≤ 14 := by omega
  have h18 : ns ≤ 18 := by omega
  clear hlc hls z1 z2 z3 z4 hbd hck hst hcr hC hS hz hi1
  go_enter Tryd.func41, Tryd.ntmps41
  go_wp2_with fail
  have hkb : Kp w (w.alloc (Obj.cells #[.slice A nc cc, .slice C ns kc] 39)) := (Kp.refl w).alloc _
  have d0 : (w.alloc (Obj.cells #[.slice A nc cc, .slice C ns kc] 39)).cell? ⟨w.heap.size, 0, none⟩ = some (.slice A nc cc) := by simp [go_sem]
  have d1 : (w.alloc (Obj.cells #[.slice A nc cc, .slice C ns kc] 39)).cell? ⟨w.heap.size, 1, none⟩ = some (.slice C ns kc) := by simp [go_sem]
  generalize w.alloc (Obj.cells #[.slice A nc cc, .slice C ns kc] 39) = wb at *
  refine (HCK.out _ hkb).mono ?_
  rintro e1 w1 ⟨rfl, hb1⟩
  have hk1 : Kp wb w1 := hb1
  have c0 := hk1.cell d0
  have c1 := hk1.cell d1
  have hkw : Kp w w1 := hk1.below hkb
  clear d0 d1 hb1 hk1 hkb
  go_wp2
  go_loopw [7, 8] (fun x i wr => ∃ (j m c2 : Nat) (A2 : Option Addr), j ≤ nc ∧ i = .int .i64 ((j : Int) + 1) ∧ x = .slice A2 m c2 ∧ m ≤ 19 * j ∧ wr.ownsRow w1.heap.size 41 2 (.slice A2 m c2) m (cellsP (plTo cs ss r j)) ∧ Kp w1 wr)
    (fun _ i _ => nc + 1 - (intOf i).toNat)
  case atStart => exact ⟨0, 0, 0, none, Nat.zero_le _, rfl, rfl, Nat.zero_le _, World.ownsRow_nil _ _ _ _, Kp.refl _⟩
  case round =>
    obtain ⟨j, m, c2, A2, hj, rfl, rfl, hm, hown, hk⟩ := hrel
    have hz := Below.size hk
    have c2_ := hk.cell c0
    have c3_ := hk.cell c1
    by_cases hjn : j = nc
    · subst hjn
      have hle : ¬ ((j : Int) + 1 ≤ (j : Int)) := by omega
      go_wp2
      refine bodyPost_ret (v := .tuple #[.slice A2 m c2, .int .i64 0]) (by simp only [results, Tryd.results41]; go_simp) rfl ?_
      exact ⟨A2, m, c2, rfl, Arr.of_own hown, hk.below hkw⟩
    · have hjlt : j < nc := by omega
      obtain ⟨b, o, rfl, hbB, hp, hf, ho⟩ := HC.out.crs_at hjlt
      obtain ⟨c, hcd, q1, q2, q3, q4⟩ := HCR.out j hjlt
      have hpp : c.p = (cs.getD j default).p := by rw [hcd]
      rw [← hcd] at hp hf ho
      have hsc := plTo_succ cs ss r j
      rw [← hcd] at hsc
      obtain ⟨p, cf, oc⟩ := c
      dsimp only at hp hf ho q1 q2 q3 q4 hsc hpp
      obtain ⟨fn, rfl⟩ : ∃ fn : Nat, cf = fn := ⟨cf.toNat, by omega⟩
      have HSC := Lib.hid hsc
      have HPP := Lib.hid hpp
      clear hcd hsc hjn ho hp hpp
      obtain ⟨xs, hxs⟩ : ∃ xs, xs = plTo cs ss r j := ⟨_, rfl⟩
      rw [← hxs] at hown
      have HXS := Lib.hid hxs
      have hi1 : (j : Int) + 1 ≤ (nc : Int) := by omega
      have hi2 : (j : Int) < (nc : Int) := by omega
      have hi3 : (j : Int) + 1 - 1 = (j : Int) := by omega
      clear hxs
      obtain ⟨wo, rfl⟩ : ∃ wo : World, wo = wr := ⟨_, rfl⟩
      have hcf : ∀ W, Kp w W → W.cell? ⟨b, o + j * 3 + 1, none⟩ = some (.int .i64 fn) := fun W hW => hW.cell hf
      have HCF := Lib.hid hcf
      clear hcf hf
      go_wp2
      go_loopw [7, 9] (fun x i wq => ∃ (f n c3 : Nat) (A3 : Option Addr) (ys : List (Nat × Nat)), f ≤ fn + 1 ∧ i = .int .i64 f ∧ x = .slice A3 n c3 ∧ n ≤ 19 * j + f ∧ wq.ownsRow w1.heap.size 41 2 (.slice A3 n c3) n (cellsP ys) ∧ Hid (ys = xs ++ plOne ss r j ⟨p, fn, oc⟩ f) ∧ Kp w1 wq)
        (fun _ i _ => fn + 1 - (intOf i).toNat)
      case atStart => exact ⟨0, m, c2, A2, xs, Nat.zero_le _, rfl, rfl, by omega, hown, Lib.hid (by rw [plOne_zero, List.append_nil]), hk⟩
      case round =>
        obtain ⟨f, n, c3, A3, ys, hf1, rfl, rfl, hn, hown3, HYS, hk3⟩ := hrel
        have hkw3 := hk3.below hkw
        have e1 := HCF.out _ hkw3
        have g0 := hk3.cell c0
        have g1 := hk3.cell c1
        have hz3 := Below.size hk3
        clear c0 c1 c2_ c3_ hown hk
        by_cases hff : f = fn + 1
        · subst hff
          have hle : ¬ ((fn : Int) + 1 ≤ (fn : Int)) := by omega
          go_wp2
          go_roundw
          case rel =>
            refine ⟨j + 1, n, c3, A3, by omega, by go_num, rfl, by omega, ?_, hk3⟩
            rw [HSC.out, Int.toNat_natCast, ← HXS.out, ← HYS.out]
            exact hown3
          case measure => simp [intOf]; omega
        · have hle : f ≤ fn := by omega
          have hcall := fun W hW => HST.out W hW j f p hjlt HPP.out q3 q4 (by omega)
          obtain ⟨v, hv⟩ : ∃ v, v = stopOf ss p f := ⟨_, rfl⟩
          rw [← hv] at hcall
          have HCALL := Lib.hid hcall
          clear hcall hff
          by_cases hvr : v = r
          · subst hvr
            have hy : ys ++ [(j + 1, f)] = xs ++ plOne ss v j ⟨p, fn, oc⟩ (f + 1) := by rw [plOne_yes hv.symm, HYS.out, List.append_assoc]
            have HY := Lib.hid hy
            clear hy hv
            go_wp2_with (first | (go_at_call 68; refine (HCALL.out _ hkw3).mono ?_; rintro e5 w5 ⟨rfl, hb5⟩; have hk5 := hk3.next hb5; have hown5 := own_up hown3 hb5 (Nat.le_refl _); have hz5 := Below.size hk5) | (at_builtin; refine wpList_append_lies _ rfl _ _ 53 rfl w1.heap.size 41 i1 _ 2 16 Tryd.underlying53 HII.out hy0 hy1 hy2 rfl (by decide) (.slice A3 n c3) n (cellsP ys) (by rfl) (hown5.alloc _) ⟨w5.heap.size, 0, none⟩ 1 1 [.int .i64 ((j : Int) + 1), .int .i64 f] (by rfl) rfl (news1 _ _ _) (by intro u hu; simp at hu; rcases hu with rfl | rfl <;> rfl) (by decide) (by unfold maxLen; omega) (by omega) (by simp; omega) (w5.heap.size + 1) (by simp) ?_; intro g cap w6 hown6 hgrow hat hlt6))
            go_roundw
            case rel =>
              refine ⟨f + 1, n + 1, cap, some ⟨g, 0, none⟩, ys ++ [(j + 1, f)], by omega, by go_num, rfl, by omega, ?_, HY, ?_⟩
              · rw [cellsP_snoc]; exact hown6
              · exact below_own ((show Below w1.heap.size w1 w5 from hk5).alloc hz5 _) (by simp; omega) hgrow (fun q hq => (hown5.lt q hq).1)
            case measure => simp [intOf]; omega
          · have hvf : (v == r) = false := by simpa using hvr
            have hy : ys = xs ++ plOne ss r j ⟨p, fn, oc⟩ (f + 1) := by rw [plOne_no (by rw [← hv]; exact hvr), HYS.out]
            have HY := Lib.hid hy
            clear hy hv hvr
            go_wp2_with (first | (go_at_call 68; refine (HCALL.out _ hkw3).mono ?_; rintro e5 w5 ⟨rfl, hb5⟩; have hk5 := hk3.next hb5; have hown5 := own_up hown3 hb5 (Nat.le_refl _)))
            go_roundw
            case rel => exact ⟨f + 1, n, c3, A3, ys, by omega, by go_num, rfl, by omega, hown5, HY, hk5⟩
            case measure => simp [intOf]; omega

set_option maxHeartbeats 4000000 in
theorem rplaces_any (A C : Option Addr) (nc cc ns kc : Nat) (cs : List Crs) (ss : List Int) (r : Int) (w : World) (hC : Arr w w.heap.size 3 A nc (cells3 cs)) (hS : Arr w w.heap.size 1 C ns (ss.map (Value.int .i64))) :
    Calls Tryd.prog 41 #[.agg #[.slice A nc cc, .slice C ns kc], .int .i64 r] w (PlRet w (plV cs ss r) (plE cs ss r)) := by
  obtain ⟨x, hx⟩ : ∃ x, x = chk cs ss := ⟨_, rfl⟩
  by_cases hz : x = 0
  · by_cases hr : r < 0 ∨ 127 < r
    · have he : plE cs ss r = 10 := by rw [plE, if_neg (by rw [← hx, hz]; decide), if_pos hr]
      have hv : plV cs ss r = [] := by rw [plV, if_neg (by rw [he]; decide)]
      rw [he, hv]
      have hck : ∀ W, Kp w W → Calls Tryd.prog 31 #[.agg #[.slice A nc cc, .slice C ns kc]] W fun e w' => e = .returned (.int .i64 0) ∧ Below W.heap.size W w' := fun W hW => by
        have h := rcheck_any A C nc cc ns kc cs ss W (hC.up hW) (hS.up hW)
        rw [← hx, hz] at h
        exact h
      have HCK := Lib.hid hck
      clear hck he hv hx hz hC hS
      by_cases hr0 : r < 0
      · clear hr
        go_enter Tryd.func41, Tryd.ntmps41
        go_wp2_with (go_at_call 31; refine (HCK.out _ ((Kp.refl w).alloc _)).mono ?_; rintro e1 w1 ⟨rfl, hb1⟩)
        refine bodyPost_ret (v := .tuple #[.slice none 0 0, .int .i64 10]) (by simp only [results, Tryd.results41]; go_simp) rfl ?_
        exact ⟨none, 0, 0, rfl, Arr.nil_ _ _, Kp.below hb1 ((Kp.refl w).alloc _)⟩
      · have hr1 : 127 < r := by omega
        have hr2 : 0 ≤ r := by omega
        clear hr hr0
        go_enter Tryd.func41, Tryd.ntmps41
        go_wp2_with (go_at_call 31; refine (HCK.out _ ((Kp.refl w).alloc _)).mono ?_; rintro e1 w1 ⟨rfl, hb1⟩)
        refine bodyPost_ret (v := .tuple #[.slice none 0 0, .int .i64 10]) (by simp only [results, Tryd.results41]; go_simp) rfl ?_
        exact ⟨none, 0, 0, rfl, Arr.nil_ _ _, Kp.below hb1 ((Kp.refl w).alloc _)⟩
    · have hlc : cs.length = nc := by have := hC.1; rw [cells3_length] at this; omega
      have he : plE cs ss r = 0 := by rw [plE, if_neg (by rw [← hx, hz]; decide), if_neg hr]
      have hv : plV cs ss r = plTo cs ss r nc := by rw [plV, if_pos he, hlc]
      rw [he, hv]
      exact rplaces_main A C nc cc ns kc cs ss r w hC hS (by rw [← hx, hz]) (by omega) (by omega)
  · have he : plE cs ss r = x := by rw [plE, if_pos (by rw [← hx]; exact hz), hx]
    have hv : plV cs ss r = [] := by rw [plV, if_neg (by rw [he]; exact hz)]
    rw [he, hv]
    have hck : ∀ W, Kp w W → Calls Tryd.prog 31 #[.agg #[.slice A nc cc, .slice C ns kc]] W fun e w' => e = .returned (.int .i64 x) ∧ Below W.heap.size W w' := fun W hW => by
      rw [hx]; exact rcheck_any A C nc cc ns kc cs ss W (hC.up hW) (hS.up hW)
    have HCK := Lib.hid hck
    have hne : (x == 0) = false := by simpa using hz
    clear hck he hv hx hz hC hS
    go_enter Tryd.func41, Tryd.ntmps41
    go_wp2_with (go_at_call 31; refine (HCK.out _ ((Kp.refl w).alloc _)).mono ?_; rintro e1 w1 ⟨rfl, hb1⟩)
    refine bodyPost_ret (v := .tuple #[.slice none 0 0, .int .i64 x]) (by simp only [results, Tryd.results41]; go_simp) rfl ?_
    exact ⟨none, 0, 0, rfl, Arr.nil_ _ _, Kp.below hb1 ((Kp.refl w).alloc _)⟩
end Go.Proofs.YtbdhjpdjbogggaaDoor
