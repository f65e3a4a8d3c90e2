/- Walk: Places. -/
import Derived.Test.YtbdhjpdjbogggaaDoorR10
import Derived.Test.YtbdhjpdjbogggaaDoorR6
import Derived.Test.YtbdhjpdjbogggaaDoorW12
import Derived.Test.YtbdhjpdjbogggaaDoorW6
import Derived.Test.YtbdhjpdjbogggaaDoorKp
namespace Go.Proofs.YtbdhjpdjbogggaaDoor
open Go.RowKit

/-- The stops of one course (index k) that sound r, among the first m. -/
def plOne (ss : List Int) (r : Int) (k : Nat) (c : Crs) (m : Nat) : List (Nat × Nat) := ((List.range m).filter (fun (f : Nat) => decide (stopOf ss c.p (f : Int) = r))).map (fun f => (k + 1, f))
def plTo (cs : List Crs) (ss : List Int) (r : Int) (k : Nat) : List (Nat × Nat) := (List.range k).flatMap (fun j => plOne ss r j (cs.getD j default) ((cs.getD j default).f.toNat + 1))
def cellsP (l : List (Nat × Nat)) : List Value := l.flatMap (fun x => [.int .i64 x.1, .int .i64 x.2])
theorem plOne_zero (ss : List Int) (r : Int) (k : Nat) (c : Crs) : plOne ss r k c 0 = [] := rfl
theorem plOne_yes {ss : List Int} {r : Int} {k : Nat} {c : Crs} {m : Nat} (h : stopOf ss c.p (m : Int) = r) : plOne ss r k c (m + 1) = plOne ss r k c m ++ [(k + 1, m)] := by
  unfold plOne; rw [List.range_succ, List.filter_append]; simp [h]
theorem plOne_no {ss : List Int} {r : Int} {k : Nat} {c : Crs} {m : Nat} (h : ¬ stopOf ss c.p (m : Int) = r) : plOne ss r k c (m + 1) = plOne ss r k c m := by
  unfold plOne; rw [List.range_succ, List.filter_append]; simp [h]
theorem plTo_succ (cs : List Crs) (ss : List Int) (r : Int) (k : Nat) : plTo cs ss r (k + 1) = plTo cs ss r k ++ plOne ss r k (cs.getD k default) ((cs.getD k default).f.toNat + 1) := by
  unfold plTo; rw [List.range_succ, List.flatMap_append]; simp
theorem cellsP_snoc (l : List (Nat × Nat)) (a b : Nat) : cellsP (l ++ [(a, b)]) = cellsP l ++ [.int .i64 a, .int .i64 b] := by simp [cellsP]
theorem info_pl : (Tryd.prog.info? 41).map (fun i => (i.zero, i.size, i.bytes)) = some (some (.agg #[.int .i64 0, .int .i64 0]), 2, 16) := by kernel_rfl

/-- A call returns places and an error. -/
def PlRet (w : World) (xs : List (Nat × Nat)) (er : Int) (e : Ending) (w' : World) : Prop :=
  ∃ (A : Option Addr) (n c : Nat), e = .returned (.tuple #[.slice A n c, .int .i64 er]) ∧ Arr w' w'.heap.size 2 A n (cellsP xs) ∧ Below w.heap.size w w'

theorem Arr.kq {W W' : World} {size n : Nat} {A : Option Addr} {xs : List Value} (h : Arr W W.heap.size size A n xs) (hk : Kp W W') : Arr W' W'.heap.size size A n xs := h.up hk

set_option maxRecDepth 100000 in
set_option maxHeartbeats 8000000 in
theorem places_main (A C : Option Addr) (nc cc ns kc : Nat) (cs : List Crs) (ss : List Int) (r : Int) (w : World) (hC : Arr w w.heap.size 3 A nc (cells3 cs)) (hS : Arr w w.heap.size 1 C ns (ss.map (Value.int .i64)))
    (hz : chk cs ss = 0) (r0 : 0 ≤ r) (r1 : r ≤ 127) :
    Calls Tryd.prog 40 #[.agg #[.slice A nc cc, .slice C ns kc], .int .i64 r] w (PlRet w (plTo cs ss r nc) 0) := by
  obtain ⟨i1, hi1, hy0, hy1, hy2⟩ := info_parts info_pl
  have HII := Lib.hid hi1
  have hlc : cs.length = nc := by have := hC.1; rw [cells3_length] at this; omega
  have hls : ss.length = ns := by have := hS.1; simpa using this
  obtain ⟨z1, z2, z3, z4⟩ := chk_zero hz
  have hbd := stepsOk_bd 0 ss (Int.le_refl _) z3
  have hck : ∀ W, Kp w W → Calls Tryd.prog 30 #[.agg #[.slice A nc cc, .slice C ns kc]] W fun e w' => e = .returned (.int .i64 0) ∧ Below W.heap.size W w' := fun W hW => by
    have h := check_any A C nc cc ns kc cs ss W (hC.up hW) (hS.up hW)
    rw [hz] at h
    exact h
  have hst : ∀ W, Kp w W → ∀ (p f1 : Int) (o : Bool) (f : Nat), 0 ≤ p → p ≤ 127 → f ≤ ns → Calls Tryd.prog 67 #[.agg #[.slice A nc cc, .slice C ns kc], .agg #[.int .i64 p, .int .i64 f1, .bool o], .int .i64 f] W fun e w' => e = .returned (.int .i64 (stopOf ss p f)) ∧ Below W.heap.size W w' := fun W hW p f1 o f h1 h2 h3 =>
    stopped_any _ _ _ _ _ _ _ _ _ _ ss W (hS.up hW) hbd h1 h2 (by omega) (by omega) (by omega)
  have hcr : ∀ k : Nat, k < nc → ∃ c, c = cs.getD k default ∧ 0 ≤ c.f ∧ c.f ≤ (ns : Int) ∧ 0 ≤ c.p ∧ c.p ≤ 127 := fun k hk => by
    refine ⟨_, rfl, ?_⟩
    rw [List.getD_eq_getElem?_getD, List.getElem?_eq_getElem (by omega)]
    have h := crsE_fit (z4 _ (List.getElem_mem (by omega : k < cs.length)))
    rw [hls] at h
    exact ⟨h.1, h.2.1, h.2.2.1, h.2.2.2.1⟩
  have HCK := Lib.hid hck
  have HST := Lib.hid hst
  have HCR := Lib.hid hcr
  have HC := Lib.hid hC
  have h14 : nc ≤ 14 := by omega
  have h18 : ns ≤ 18 := by omega
  clear hlc hls z1 z2 z3 z4 hbd hck hst hcr hC hS hz hi1
  go_enter Tryd.func40, Tryd.ntmps40
  go_wp2_with fail
  have hkb : Kp w (w.alloc (Obj.cells #[.slice A nc cc, .slice C ns kc] 39)) := (Kp.refl w).alloc _
  have d0 : (w.alloc (Obj.cells #[.slice A nc cc, .slice C ns kc] 39)).cell? ⟨w.heap.size, 0, none⟩ = some (.slice A nc cc) := by simp [go_sem]
  have d1 : (w.alloc (Obj.cells #[.slice A nc cc, .slice C ns kc] 39)).cell? ⟨w.heap.size, 1, none⟩ = some (.slice C ns kc) := by simp [go_sem]
  generalize w.alloc (Obj.cells #[.slice A nc cc, .slice C ns kc] 39) = wb at *
  refine (HCK.out _ hkb).mono ?_
  rintro e1 w1 ⟨rfl, hb1⟩
  have hk1 : Kp wb w1 := hb1
  have c0 := hk1.cell d0
  have c1 := hk1.cell d1
  have hkw : Kp w w1 := hk1.below hkb
  clear d0 d1 hb1 hk1 hkb
  go_wp2
  go_loopw [7, 25] (fun x i wr => ∃ (j m c2 : Nat) (A2 : Option Addr), j ≤ nc ∧ i = .int .i64 j ∧ x = .slice A2 m c2 ∧ m ≤ 19 * j ∧ wr.ownsRow w1.heap.size 41 2 (.slice A2 m c2) m (cellsP (plTo cs ss r j)) ∧ Kp w1 wr)
    (fun _ i _ => nc - (intOf i).toNat)
  case atStart => exact ⟨0, 0, 0, none, Nat.zero_le _, rfl, rfl, Nat.zero_le _, World.ownsRow_nil _ _ _ _, Kp.refl _⟩
  case round =>
    obtain ⟨j, m, c2, A2, hj, rfl, rfl, hm, hown, hk⟩ := hrel
    have hz := Below.size hk
    by_cases hjn : j = nc
    · subst hjn
      go_wp2
      refine bodyPost_ret (v := .tuple #[.slice A2 m c2, .int .i64 0]) (by simp only [results, Tryd.results40]; go_simp) rfl ?_
      exact ⟨A2, m, c2, rfl, Arr.of_own hown, hk.below hkw⟩
    · have hjlt : j < nc := by omega
      obtain ⟨b, o, rfl, hbB, hp, hf, ho⟩ := (HC.out.kq (hk.below hkw)).crs_at hjlt
      obtain ⟨c, hcd, q1, q2, q3, q4⟩ := HCR.out j hjlt
      rw [← hcd] at hp hf ho
      have hsc := plTo_succ cs ss r j
      rw [← hcd] at hsc
      obtain ⟨p, cf, oc⟩ := c
      dsimp only at hp hf ho q1 q2 q3 q4 hsc
      obtain ⟨fn, rfl⟩ : ∃ fn : Nat, cf = fn := ⟨cf.toNat, by omega⟩
      have HSC := Lib.hid hsc
      clear hcd hsc hjn
      obtain ⟨xs, hxs⟩ : ∃ xs, xs = plTo cs ss r j := ⟨_, rfl⟩
      rw [← hxs] at hown
      have HXS := Lib.hid hxs
      clear hxs
      go_wp2
      have hb9 : Blk (wr.alloc (Obj.cells #[.int .i64 p, .int .i64 fn, .bool oc] 59)) wr.heap.size 59 #[.int .i64 p, .int .i64 fn, .bool oc] := Blk.new wr _ _
      have hk9 : Kp w1 (wr.alloc (Obj.cells #[.int .i64 p, .int .i64 fn, .bool oc] 59)) := hk.alloc _
      have hown9 := hown.alloc (o := Obj.cells #[.int .i64 p, .int .i64 fn, .bool oc] 59)
      have hne9 : some wr.heap.size ≠ (Value.slice A2 m c2).ownBlock := fun e => by have := (hown.lt _ e.symm).2; omega
      go_loopw [7, 10] (fun x i wq => ∃ (f n c3 : Nat) (A3 : Option Addr) (ys : List (Nat × Nat)), f ≤ fn + 1 ∧ i = .int .i64 f ∧ x = .slice A3 n c3 ∧ n ≤ 19 * j + f ∧ wq.ownsRow w1.heap.size 41 2 (.slice A3 n c3) n (cellsP ys) ∧ Hid (ys = xs ++ plOne ss r j ⟨p, fn, oc⟩ f) ∧
          Kp w1 wq ∧ Blk wq wr.heap.size 59 #[.int .i64 p, .int .i64 fn, .bool oc] ∧ some wr.heap.size ≠ (Value.slice A3 n c3).ownBlock)
        (fun _ i _ => fn + 1 - (intOf i).toNat)
      case atStart => exact ⟨0, m, c2, A2, xs, Nat.zero_le _, rfl, rfl, by omega, hown9, Lib.hid (by rw [plOne_zero, List.append_nil]), hk9, hb9, hne9⟩
      case round =>
        obtain ⟨f, n, c3, A3, ys, hf1, rfl, rfl, hn, hown3, HYS, hk3, hb3, hne3⟩ := hrel
        clear hb9 hk9 hown9 hne9 hown hp hf ho
        have hz3 := hb3.lt
        have e0 := hb3.cell 0
        have e1 := hb3.cell 1
        have e2 := hb3.cell 2
        simp at e0 e1 e2
        have c0 := hk3.cell c0
        have c1 := hk3.cell c1
        by_cases hff : f = fn + 1
        · subst hff
          have hle : ¬ ((fn : Int) + 1 ≤ (fn : Int)) := by omega
          go_wp2
          go_roundw
          case rel =>
            refine ⟨j + 1, n, c3, A3, by omega, by go_num, rfl, by omega, ?_, hk3⟩
            rw [HSC.out, Int.toNat_natCast, ← HXS.out, ← HYS.out]
            exact hown3
          case measure => simp [intOf]; omega
        · have hle : f ≤ fn := by omega
          have hcall := fun W hW => HST.out W hW p fn oc f q3 q4 (by omega)
          obtain ⟨v, hv⟩ : ∃ v, v = stopOf ss p f := ⟨_, rfl⟩
          rw [← hv] at hcall
          have HCALL := Lib.hid hcall
          have hkw3 := hk3.below hkw
          clear hcall hff
          by_cases hvr : v = r
          · subst hvr
            have hy : ys ++ [(j + 1, f)] = xs ++ plOne ss v j ⟨p, fn, oc⟩ (f + 1) := by rw [plOne_yes hv.symm, HYS.out, List.append_assoc]
            have HY := Lib.hid hy
            clear hy hv
            go_wp2_with (first | (go_at_call 67; refine (HCALL.out _ hkw3).mono ?_; rintro e5 w5 ⟨rfl, hb5⟩; have hk5 := hk3.next hb5; have hown5 := own_up hown3 hb5 (Nat.le_refl _); have hbk5 := hb3.below hb5 hz3; have hz5 := Below.size hk5) | (at_builtin; refine wpList_append_lies _ rfl _ _ 53 rfl w1.heap.size 41 i1 _ 2 16 Tryd.underlying53 HII.out hy0 hy1 hy2 rfl (by decide) (.slice A3 n c3) n (cellsP ys) (by rfl) (hown5.alloc _) ⟨w5.heap.size, 0, none⟩ 1 1 [.int .i64 ((j : Int) + 1), .int .i64 f] (by rfl) rfl (news1 _ _ _) (by intro u hu; simp at hu; rcases hu with rfl | rfl <;> rfl) (by decide) (by unfold maxLen; omega) (by omega) (by simp; omega) (w5.heap.size + 1) (by simp) ?_; intro g cap w6 hown6 hgrow hat hlt6))
            go_roundw
            case rel =>
              have hz5b := hbk5.lt
              refine ⟨f + 1, n + 1, cap, some ⟨g, 0, none⟩, ys ++ [(j + 1, f)], by omega, by go_num, rfl, by omega, ?_, HY, ?_, ?_, ?_⟩
              · rw [cellsP_snoc]; exact hown6
              · exact below_own ((show Below w1.heap.size w1 w5 from hk5).alloc hz5 _) (by simp; omega) hgrow (fun q hq => (hown5.lt q hq).1)
              · exact Blk.grown (hbk5.alloc _) hgrow hne3
              · intro e
                rcases hat with h | h
                · exact hne3 (e.trans h.symm)
                · injection e with e; simp at e; omega
            case measure => simp [intOf]; omega
          · have hvf : (v == r) = false := by simpa using hvr
            have hy : ys = xs ++ plOne ss r j ⟨p, fn, oc⟩ (f + 1) := by rw [plOne_no (by rw [← hv]; exact hvr), HYS.out]
            have HY := Lib.hid hy
            clear hy hv hvr
            go_wp2_with (first | (go_at_call 67; refine (HCALL.out _ hkw3).mono ?_; rintro e5 w5 ⟨rfl, hb5⟩; have hk5 := hk3.next hb5; have hown5 := own_up hown3 hb5 (Nat.le_refl _); have hbk5 := hb3.below hb5 hz3))
            go_roundw
            case rel => exact ⟨f + 1, n, c3, A3, ys, by omega, by go_num, rfl, by omega, hown5, HY, hk5, hbk5, hne3⟩
            case measure => simp [intOf]; omega
end Go.Proofs.YtbdhjpdjbogggaaDoor
