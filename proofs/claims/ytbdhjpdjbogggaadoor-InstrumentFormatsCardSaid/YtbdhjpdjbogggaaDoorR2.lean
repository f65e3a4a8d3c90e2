/- Walks of the reference: position, Spell. -/
import Derived.Test.YtbdhjpdjbogggaaDoorR1
import Derived.Test.YtbdhjpdjbogggaaDoorPl1
namespace Go.Proofs.YtbdhjpdjbogggaaDoor
open Go.RowKit

theorem rpos_any (l a : Int) (w : World) (l0 : 0 ≤ l) (l6 : l ≤ 6) (a0 : -1 ≤ a) (a1 : a ≤ 1) : Calls Tryd.prog 62 #[.int .i64 l, .int .i64 a] w fun e w' =>
    e = .returned (.int .i64 (fif l + 7 * a)) ∧ Below w.heap.size w w' := by
  have h : l = 0 ∨ l = 1 ∨ l = 2 ∨ l = 3 ∨ l = 4 ∨ l = 5 ∨ l = 6 := by omega
  clear l0 l6
  rcases h with rfl | rfl | rfl | rfl | rfl | rfl | rfl
  all_goals
    go_enter Tryd.func62, Tryd.ntmps62
    go_wp2
    go_ret
    exact ⟨ret_int (by simp [fif, fifL]), (by repeat (first | exact Below.refl _ _ | assumption | refine below_drewN ?_ _ | refine Below.drew ?_ | refine Below.alloc ?_ (by first | exact Nat.le_refl _ | omega | (simp; done) | (simp; omega)) _ | refine Below.setCell ?_ (by first | exact Nat.le_refl _ | (simp; done) | (simp; omega)) _))⟩

set_option maxHeartbeats 4000000 in
theorem rspell_any (p key : Int) (w : World) : Calls Tryd.prog 21 #[.int .i64 p, .int .i64 key] w fun e w' =>
    e = .returned (rfR p key) ∧ Below w.heap.size w w' := by
  obtain ⟨r, hr⟩ : ∃ r, r = rfR p key := ⟨_, rfl⟩
  rw [← hr]
  by_cases hp : p < 0 ∨ 127 < p
  · have h1 : r = .tuple #[.agg #[.int .i64 0, .int .i64 0, .int .i64 0], .int .i64 10] := by rw [hr, rfR, if_pos hp]
    have H1 := Lib.hid h1
    clear h1 hr
    go_enter Tryd.func21, Tryd.ntmps21
    go_wp2
    all_goals refine bodyPost_ret (v := .tuple #[.agg #[.int .i64 0, .int .i64 0, .int .i64 0], .int .i64 10]) (by simp only [results, Tryd.results21]; go_simp) rfl ⟨by rw [H1.out], (by repeat (first | exact Below.refl _ _ | assumption | refine below_drewN ?_ _ | refine Below.drew ?_ | refine Below.alloc ?_ (by first | exact Nat.le_refl _ | omega | (simp; done) | (simp; omega)) _ | refine Below.setCell ?_ (by first | exact Nat.le_refl _ | (simp; done) | (simp; omega)) _))⟩
  · by_cases hk : key < -4 ∨ 4 < key
    · have h1 : r = .tuple #[.agg #[.int .i64 0, .int .i64 0, .int .i64 0], .int .i64 1] := by rw [hr, rfR, if_neg hp, if_pos hk]
      have H1 := Lib.hid h1
      have p0 : 0 ≤ p := by omega
      have p1 : p ≤ 127 := by omega
      clear h1 hr hp
      go_enter Tryd.func21, Tryd.ntmps21
      go_wp2
      all_goals refine bodyPost_ret (v := .tuple #[.agg #[.int .i64 0, .int .i64 0, .int .i64 0], .int .i64 1]) (by simp only [results, Tryd.results21]; go_simp) rfl ⟨by rw [H1.out], (by repeat (first | exact Below.refl _ _ | assumption | refine below_drewN ?_ _ | refine Below.drew ?_ | refine Below.alloc ?_ (by first | exact Nat.le_refl _ | omega | (simp; done) | (simp; omega)) _ | refine Below.setCell ?_ (by first | exact Nat.le_refl _ | (simp; done) | (simp; omega)) _))⟩
    · have h1 : r = rfV (rfFrom p key 231 0) := by rw [hr, rfR, if_neg hp, if_neg hk]
      have H1 := Lib.hid h1
      have p0 : 0 ≤ p := by omega
      have p1 : p ≤ 127 := by omega
      have c0 : -4 ≤ key := by omega
      have c1 : key ≤ 4 := by omega
      clear h1 hr hp hk
      have hbx : ∀ W, Below (w.heap.size + 1) (w.alloc (Obj.cells #[Value.int .i64 0, Value.int .i64 0, Value.int .i64 0] 27)) W →
          W.cell? ⟨w.heap.size, 0, none⟩ = some (.int .i64 0) ∧ W.cell? ⟨w.heap.size, 1, none⟩ = some (.int .i64 0) ∧ W.cell? ⟨w.heap.size, 2, none⟩ = some (.int .i64 0) ∧
          W.frozen? ⟨w.heap.size, 0, none⟩ = false ∧ W.frozen? ⟨w.heap.size, 1, none⟩ = false ∧ W.frozen? ⟨w.heap.size, 2, none⟩ = false ∧ w.heap.size < W.heap.size ∧ Below w.heap.size w W := fun W hW => by
        obtain ⟨hc, hf⟩ := bcell hW
        have hz := hW.size
        simp at hz
        have hB := below_box hW
        refine ⟨?_, ?_, ?_, ?_, ?_, ?_, by omega, hB⟩
        · rw [hc _ _ (by omega)]; simp [go_sem]
        · rw [hc _ _ (by omega)]; simp [go_sem]
        · rw [hc _ _ (by omega)]; simp [go_sem]
        · rw [hf _ _ (by omega)]; simp [go_sem]
        · rw [hf _ _ (by omega)]; simp [go_sem]
        · rw [hf _ _ (by omega)]; simp [go_sem]
      have HBX := Lib.hid hbx
      clear hbx
      go_enter Tryd.func21, Tryd.ntmps21
      go_wp2
      go_loopw [6] (fun i wr => ∃ k : Nat, k ≤ 11 ∧ i = .int .i64 ((k : Int) - 1) ∧ Hid (rfFrom p key 231 0 = rfFrom p key (231 - 21 * k) (21 * k)) ∧ Below (w.heap.size + 1) (w.alloc (Obj.cells #[Value.int .i64 0, Value.int .i64 0, Value.int .i64 0] 27)) wr)
        (fun i _ => (10 - intOf i).toNat)
      case atStart => exact ⟨0, Nat.zero_le _, rfl, Lib.hid rfl, Below.refl _ _⟩
      case round =>
        obtain ⟨k, hk, rfl, HSP, hb⟩ := hrel
        by_cases h7 : k = 11
        · subst h7
          have h1 : r = .tuple #[.agg #[.int .i64 0, .int .i64 0, .int .i64 0], .int .i64 10] := by rw [H1.out, HSP.out]; rfl
          have H2 := Lib.hid h1
          clear h1
          obtain ⟨d0, d1, d2, f0, f1, f2, hz, hbw⟩ := HBX.out _ hb
          go_wp2
          refine bodyPost_ret (v := .tuple #[.agg #[.int .i64 0, .int .i64 0, .int .i64 0], .int .i64 10]) (by simp only [results, Tryd.results21]; go_simp) rfl ⟨by rw [H2.out], ?_⟩
          (repeat (first | exact Below.refl _ _ | assumption | refine below_drewN ?_ _ | refine Below.drew ?_ | refine Below.alloc ?_ (by first | exact Nat.le_refl _ | omega | (simp; done) | (simp; omega)) _ | refine Below.setCell ?_ (by first | exact Nat.le_refl _ | (simp; done) | (simp; omega)) _))
        · have hk7 : k < 11 := by omega
          clear h7
          have t1 : decide ((k : Int) - 1 ≤ 9) = true := by simp; omega
          obtain ⟨wo, rfl⟩ : ∃ wo : World, wo = wr := ⟨_, rfl⟩
          go_wp2
          go_loopw [7] (fun i wr => ∃ j : Nat, j ≤ 7 ∧ i = .int .i64 j ∧ Hid (rfFrom p key 231 0 = rfFrom p key (231 - 21 * k - 3 * j) (21 * k + 3 * j)) ∧ Below (w.heap.size + 1) (w.alloc (Obj.cells #[Value.int .i64 0, Value.int .i64 0, Value.int .i64 0] 27)) wr)
            (fun i _ => (7 - intOf i).toNat)
          case atStart => exact ⟨0, Nat.zero_le _, rfl, HSP, hb⟩
          case round =>
            obtain ⟨j, hj, rfl, HSJ, hb1⟩ := hrel
            by_cases h3 : j = 7
            · subst h3
              have hn : rfFrom p key 231 0 = rfFrom p key (231 - 21 * (k + 1)) (21 * (k + 1)) := by
                rw [HSJ.out, show 231 - 21 * k - 3 * 7 = 231 - 21 * (k + 1) by omega, show 21 * k + 3 * 7 = 21 * (k + 1) by omega]
              have HN := Lib.hid hn
              clear hn
              go_wp2
              go_roundw
              case rel => exact ⟨k + 1, by omega, by go_num, HN, hb1⟩
              case measure => simp [intOf]; omega
            · have hj7 : j < 7 := by omega
              clear h3
              have t2 : decide ((j : Int) < 7) = true := by simp; omega
              obtain ⟨wn, rfl⟩ : ∃ wn : World, wn = wr := ⟨_, rfl⟩
              go_wp2
              go_loopw [8] (fun i wr => ∃ m : Nat, m ≤ 3 ∧ i = .int .i64 ((m : Int) - 1) ∧ Hid (rfFrom p key 231 0 = rfFrom p key (231 - 21 * k - 3 * j - m) (21 * k + 3 * j + m)) ∧ Below (w.heap.size + 1) (w.alloc (Obj.cells #[Value.int .i64 0, Value.int .i64 0, Value.int .i64 0] 27)) wr)
                (fun i _ => (2 - intOf i).toNat)
              case atStart => exact ⟨0, Nat.zero_le _, rfl, HSJ, hb1⟩
              case round =>
                obtain ⟨m, hm, rfl, HSM, hb2⟩ := hrel
                obtain ⟨d0, d1, d2, f0, f1, f2, hz, hbw⟩ := HBX.out _ hb2
                by_cases h3 : m = 3
                · subst h3
                  have hn : rfFrom p key 231 0 = rfFrom p key (231 - 21 * k - 3 * (j + 1)) (21 * k + 3 * (j + 1)) := by
                    rw [HSM.out, show 231 - 21 * k - 3 * j - 3 = 231 - 21 * k - 3 * (j + 1) by omega, show 21 * k + 3 * j + 3 = 21 * k + 3 * (j + 1) by omega]
                  have HN := Lib.hid hn
                  clear hn
                  go_wp2
                  go_roundw
                  case rel => exact ⟨j + 1, by omega, by go_num, HN, hb2⟩
                  case measure => simp [intOf]; omega
                · have hm3 : m < 3 := by omega
                  have hfb := fif_bd (l := (j : Int)) (by omega) (by omega)
                  have hst := rfFrom_step (p := p) (key := key) hk7 hj7 hm3
                  rw [← HSM.out] at hst
                  obtain ⟨F, hF⟩ : ∃ F, F = fif (j : Int) + 7 * ((m : Int) - 1) := ⟨_, rfl⟩
                  obtain ⟨se, hse⟩ : ∃ se, se = sndE j ((m : Int) - 1) ((k : Int) - 1) := ⟨_, rfl⟩
                  obtain ⟨sp, hsp⟩ : ∃ sp, sp = sndP j ((m : Int) - 1) ((k : Int) - 1) := ⟨_, rfl⟩
                  have hok : rfOk p key j ((m : Int) - 1) ((k : Int) - 1) = (decide (se = 0) && decide (sp = p) && (decide (key - 3 ≤ F) && decide (F ≤ key + 8))) := by
                    rw [rfOk, spIn, ← hse, ← hsp, ← hF]
                  have hcall : ∀ W, Calls Tryd.prog 57 #[.agg #[.int .i64 (j : Int), .int .i64 ((m : Int) - 1), .int .i64 ((k : Int) - 1)]] W fun e w' => e = .returned (.tuple #[.int .i64 sp, .int .i64 se]) ∧ Below W.heap.size W w' := fun W => by
                    rw [hse, hsp]; exact rsounding_any _ _ _ W
                  have hpos : ∀ W, Calls Tryd.prog 62 #[.int .i64 (j : Int), .int .i64 ((m : Int) - 1)] W fun e w' => e = .returned (.int .i64 F) ∧ Below W.heap.size W w' := fun W => by
                    rw [hF]; exact rpos_any _ _ W (by omega) (by omega) (by omega) (by omega)
                  have HCALL := Lib.hid hcall
                  have HPOS := Lib.hid hpos
                  have HOK := Lib.hid hok
                  have HST := Lib.hid hst
                  clear hcall hpos hok hst hse hsp hF HSM h3
                  by_cases hyes : (se = 0 ∧ sp = p) ∧ (key - 3 ≤ F ∧ F ≤ key + 8)
                  · obtain ⟨⟨hy1, hy2⟩, hy3, hy4⟩ := hyes
                    have hyy : rfOk p key j ((m : Int) - 1) ((k : Int) - 1) = true := by rw [HOK.out, hy1, hy2, decide_eq_true hy3, decide_eq_true hy4]; simp
                    have hn : r = .tuple #[.agg #[.int .i64 (j : Int), .int .i64 ((m : Int) - 1), .int .i64 ((k : Int) - 1)], .int .i64 0] := by
                      rw [H1.out, HST.out, hyy, if_pos rfl, rfV]
                    have HN := Lib.hid hn
                    clear hn hyy
                    subst hy1
                    subst hy2
                    go_wp2_with (first | (go_at_call 62; refine (HPOS.out _).mono ?_; rintro e1 w1 ⟨rfl, hb3⟩; have hb4 := hb2.trans (hb3.mono (by omega)); obtain ⟨g0, g1, g2, q0, q1, q2, hz1, hbw1⟩ := HBX.out _ hb4) | (go_at_call 57; refine (HCALL.out _).mono ?_; rintro e2 w2 ⟨rfl, hb5⟩; have hb6 := (hb4.alloc hz1 (Obj.cells #[Value.int .i64 (j : Int), Value.int .i64 ((m : Int) - 1), Value.int .i64 ((k : Int) - 1)] 27)).trans (hb5.mono (by simp; omega)); obtain ⟨x0, x1, x2, y0, y1, y2, hz2, hbw2⟩ := HBX.out _ hb6; have e0 := (bcell hb5).1 w1.heap.size 0 (by simp); have e1 := (bcell hb5).1 w1.heap.size 1 (by simp); have e2 := (bcell hb5).1 w1.heap.size 2 (by simp); simp [go_sem] at e0 e1 e2))
                    refine bodyPost_ret (v := .tuple #[.agg #[.int .i64 (j : Int), .int .i64 ((m : Int) - 1), .int .i64 ((k : Int) - 1)], .int .i64 0]) (by simp only [results, Tryd.results21]; go_simp) rfl ⟨by rw [HN.out], ?_⟩
                    (repeat (first | exact Below.refl _ _ | assumption | refine below_drewN ?_ _ | refine Below.drew ?_ | refine Below.alloc ?_ (by first | exact Nat.le_refl _ | omega | (simp; done) | (simp; omega)) _ | refine Below.setCell ?_ (by first | exact Nat.le_refl _ | (simp; done) | (simp; omega)) _))
                  · have hno : rfOk p key j ((m : Int) - 1) ((k : Int) - 1) = false := by
                      rw [HOK.out, Bool.eq_false_iff]; simpa using hyes
                    have hn : rfFrom p key 231 0 = rfFrom p key (231 - 21 * k - 3 * j - (m + 1)) (21 * k + 3 * j + (m + 1)) := by rw [HST.out, hno]; rfl
                    have HN := Lib.hid hn
                    clear hn hno
                    have hcs : (se == 0) = false ∨ (se = 0 ∧ ((sp == p) = false ∨ (sp = p ∧ (F < key - 3 ∨ (key - 3 ≤ F ∧ key + 8 < F))))) := by
                      by_cases g1 : se = 0
                      · refine .inr ⟨g1, ?_⟩
                        by_cases g2 : sp = p
                        · exact .inr ⟨g2, by omega⟩
                        · exact .inl (by simpa using g2)
                      · exact .inl (by simpa using g1)
                    clear hyes
                    rcases hcs with g1 | ⟨rfl, g2 | ⟨rfl, g3 | ⟨g3, g4⟩⟩⟩
                    all_goals
                      go_wp2_with (first | (go_at_call 62; refine (HPOS.out _).mono ?_; rintro e1 w1 ⟨rfl, hb3⟩; have hb4 := hb2.trans (hb3.mono (by omega)); obtain ⟨g0, g1, g2, q0, q1, q2, hz1, hbw1⟩ := HBX.out _ hb4) | (go_at_call 57; refine (HCALL.out _).mono ?_; rintro e2 w2 ⟨rfl, hb5⟩; have hb6 := (hb4.alloc hz1 (Obj.cells #[Value.int .i64 (j : Int), Value.int .i64 ((m : Int) - 1), Value.int .i64 ((k : Int) - 1)] 27)).trans (hb5.mono (by simp; omega)); obtain ⟨x0, x1, x2, y0, y1, y2, hz2, hbw2⟩ := HBX.out _ hb6; have e0 := (bcell hb5).1 w1.heap.size 0 (by simp); have e1 := (bcell hb5).1 w1.heap.size 1 (by simp); have e2 := (bcell hb5).1 w1.heap.size 2 (by simp); simp [go_sem] at e0 e1 e2))
                      go_roundw
                      case rel => exact ⟨m + 1, by omega, by go_num, HN, hb6⟩
                      case measure => simp [intOf]; omega
end Go.Proofs.YtbdhjpdjbogggaaDoor
