/- Spell. -/
import Derived.Test.YtbdhjpdjbogggaaDoorW12
import Derived.Test.YtbdhjpdjbogggaaDoorPl1
namespace Go.Proofs.YtbdhjpdjbogggaaDoor
open Go.RowKit

theorem spFrom_step {p key : Int} {k j : Nat} (hk : k < 7) (hj : j < 3) : spFrom p key (21 - 3 * k - j) (3 * k + j) =
    if spOk p key (k : Int) ((j : Int) - 1) then some ((k : Int), (j : Int) - 1) else spFrom p key (21 - 3 * k - (j + 1)) (3 * k + (j + 1)) := by
  obtain ⟨n, hn⟩ : ∃ n, 21 - 3 * k - j = n + 1 := ⟨20 - 3 * k - j, by omega⟩
  rw [hn, spFrom, show 21 - 3 * k - (j + 1) = n by omega, show (3 * k + j) / 3 = k by omega, show (3 * k + j) % 3 = j by omega]
  rfl

set_option maxHeartbeats 4000000 in
theorem spell_any (p key : Int) (w : World) (hg : Gnd w) : Calls Tryd.prog 20 #[.int .i64 p, .int .i64 key] w fun e w' =>
    e = .returned (spR p key) ∧ Below w.heap.size w w' := by
  obtain ⟨r, hr⟩ : ∃ r, r = spR p key := ⟨_, rfl⟩
  rw [← hr]
  by_cases hp : p < 0 ∨ 127 < p
  · have h1 : r = .tuple #[.agg #[.int .i64 0, .int .i64 0, .int .i64 0], .int .i64 10] := by rw [hr, spR, if_pos hp]
    have H1 := Lib.hid h1
    clear h1 hr hg
    go_enter Tryd.func20, Tryd.ntmps20
    go_wp2
    all_goals refine bodyPost_ret (v := .tuple #[.agg #[.int .i64 0, .int .i64 0, .int .i64 0], .int .i64 10]) (by simp only [results, Tryd.results20]; go_simp) rfl ⟨by rw [H1.out], (by repeat (first | exact Below.refl _ _ | assumption | refine below_drewN ?_ _ | refine Below.drew ?_ | refine Below.alloc ?_ (by first | exact Nat.le_refl _ | omega | (simp; done) | (simp; omega)) _ | refine Below.setCell ?_ (by first | exact Nat.le_refl _ | (simp; done) | (simp; omega)) _))⟩
  · by_cases hk : key < -4 ∨ 4 < key
    · have h1 : r = .tuple #[.agg #[.int .i64 0, .int .i64 0, .int .i64 0], .int .i64 1] := by rw [hr, spR, if_neg hp, if_pos hk]
      have H1 := Lib.hid h1
      have p0 : 0 ≤ p := by omega
      have p1 : p ≤ 127 := by omega
      clear h1 hr hg hp
      go_enter Tryd.func20, Tryd.ntmps20
      go_wp2
      all_goals refine bodyPost_ret (v := .tuple #[.agg #[.int .i64 0, .int .i64 0, .int .i64 0], .int .i64 1]) (by simp only [results, Tryd.results20]; go_simp) rfl ⟨by rw [H1.out], (by repeat (first | exact Below.refl _ _ | assumption | refine below_drewN ?_ _ | refine Below.drew ?_ | refine Below.alloc ?_ (by first | exact Nat.le_refl _ | omega | (simp; done) | (simp; omega)) _ | refine Below.setCell ?_ (by first | exact Nat.le_refl _ | (simp; done) | (simp; omega)) _))⟩
    · have h1 : r = spV p (spFrom p key 21 0) := by rw [hr, spR, if_neg hp, if_neg hk]
      have H1 := Lib.hid h1
      have p0 : 0 ≤ p := by omega
      have p1 : p ≤ 127 := by omega
      have c0 : -4 ≤ key := by omega
      have c1 : key ≤ 4 := by omega
      clear h1 hr hp hk
      have HG := Lib.hid hg
      have hbx : ∀ W, Below (w.heap.size + 1) (w.alloc (Obj.cells #[Value.int .i64 0, Value.int .i64 0, Value.int .i64 0] 23)) W →
          W.cell? ⟨w.heap.size, 0, none⟩ = some (.int .i64 0) ∧ W.cell? ⟨w.heap.size, 1, none⟩ = some (.int .i64 0) ∧ W.cell? ⟨w.heap.size, 2, none⟩ = some (.int .i64 0) ∧
          W.frozen? ⟨w.heap.size, 0, none⟩ = false ∧ W.frozen? ⟨w.heap.size, 1, none⟩ = false ∧ W.frozen? ⟨w.heap.size, 2, none⟩ = false ∧ w.heap.size < W.heap.size ∧ Below w.heap.size w W ∧ Gnd W := fun W hW => by
        obtain ⟨hc, hf⟩ := bcell hW
        have hz := hW.size
        simp at hz
        have hB := below_box hW
        refine ⟨?_, ?_, ?_, ?_, ?_, ?_, by omega, hB, hg.up hB⟩
        · rw [hc _ _ (by omega)]; simp [go_sem]
        · rw [hc _ _ (by omega)]; simp [go_sem]
        · rw [hc _ _ (by omega)]; simp [go_sem]
        · rw [hf _ _ (by omega)]; simp [go_sem]
        · rw [hf _ _ (by omega)]; simp [go_sem]
        · rw [hf _ _ (by omega)]; simp [go_sem]
      have HBX := Lib.hid hbx
      clear hg hbx
      go_enter Tryd.func20, Tryd.ntmps20
      go_wp2
      go_loopw [27] (fun i wr => ∃ k : Nat, k ≤ 7 ∧ i = .int .i64 k ∧ Hid (spFrom p key 21 0 = spFrom p key (21 - 3 * k) (3 * k)) ∧ Below (w.heap.size + 1) (w.alloc (Obj.cells #[Value.int .i64 0, Value.int .i64 0, Value.int .i64 0] 23)) wr)
        (fun i _ => 7 - (intOf i).toNat)
      case atStart => exact ⟨0, Nat.zero_le _, rfl, Lib.hid rfl, Below.refl _ _⟩
      case round =>
        obtain ⟨k, hk, rfl, HSP, hb⟩ := hrel
        by_cases h7 : k = 7
        · subst h7
          have h1 : r = .tuple #[.agg #[.int .i64 0, .int .i64 0, .int .i64 0], .int .i64 10] := by rw [H1.out, HSP.out]; rfl
          have H2 := Lib.hid h1
          clear h1
          obtain ⟨d0, d1, d2, f0, f1, f2, hz, hbw, hgw⟩ := HBX.out _ hb
          clear hgw
          go_wp2
          refine bodyPost_ret (v := .tuple #[.agg #[.int .i64 0, .int .i64 0, .int .i64 0], .int .i64 10]) (by simp only [results, Tryd.results20]; go_simp) rfl ⟨by rw [H2.out], ?_⟩
          (repeat (first | exact Below.refl _ _ | assumption | refine below_drewN ?_ _ | refine Below.drew ?_ | refine Below.alloc ?_ (by first | exact Nat.le_refl _ | omega | (simp; done) | (simp; omega)) _ | refine Below.setCell ?_ (by first | exact Nat.le_refl _ | (simp; done) | (simp; omega)) _))
        · have hk7 : k < 7 := by omega
          clear h7
          have hkd : decide ((k : Int) < 7) = true := by simp; omega
          obtain ⟨wo, rfl⟩ : ∃ wo : World, wo = wr := ⟨_, rfl⟩
          go_wp2
          go_loopw [7] (fun i wr => ∃ j : Nat, j ≤ 3 ∧ i = .int .i64 ((j : Int) - 1) ∧ Hid (spFrom p key 21 0 = spFrom p key (21 - 3 * k - j) (3 * k + j)) ∧ Below (w.heap.size + 1) (w.alloc (Obj.cells #[Value.int .i64 0, Value.int .i64 0, Value.int .i64 0] 23)) wr)
            (fun i _ => (2 - intOf i).toNat)
          case atStart => exact ⟨0, Nat.zero_le _, rfl, HSP, hb⟩
          case round =>
            obtain ⟨j, hj, rfl, HSJ, hb2⟩ := hrel
            obtain ⟨d0, d1, d2, f0, f1, f2, hz, hbw, hgw⟩ := HBX.out _ hb2
            by_cases h3 : j = 3
            · subst h3
              have hn : spFrom p key 21 0 = spFrom p key (21 - 3 * (k + 1)) (3 * (k + 1)) := by
                rw [HSJ.out, show 21 - 3 * k - 3 = 21 - 3 * (k + 1) by omega, show 3 * k + 3 = 3 * (k + 1) by omega]
              have HN := Lib.hid hn
              clear hn hgw
              go_wp2
              go_roundw
              case rel => exact ⟨k + 1, by omega, by go_num, HN, hb2⟩
              case measure => simp [intOf]; omega
            · have hj3 : j < 3 := by omega
              have hfc := hgw.fif (l := (k : Int)) (by omega) (by omega)
              have hbc := hgw.bas (l := (k : Int)) (by omega) (by omega)
              have hfb := fif_bd (l := (k : Int)) (by omega) (by omega)
              have hbb := bas_bd (l := (k : Int)) (by omega) (by omega)
              have hst := spFrom_step (p := p) (key := key) hk7 hj3
              rw [← HSJ.out] at hst
              obtain ⟨F, hF⟩ : ∃ F, F = fif (k : Int) := ⟨_, rfl⟩
              obtain ⟨B, hB⟩ : ∃ B, B = bas (k : Int) := ⟨_, rfl⟩
              rw [← hF] at hfc hfb
              rw [← hB] at hbc hbb
              obtain ⟨hfb1, hfb2⟩ := hfb
              obtain ⟨hbb1, hbb2⟩ := hbb
              rw [show ((k : Int)).toNat = k from rfl] at hfc hbc
              obtain ⟨q, hq⟩ : ∃ q, q = (p - ((j : Int) - 1) - B + 12).tdiv 12 := ⟨_, rfl⟩
              have hq0 : 0 ≤ q := by rw [hq]; exact Int.tdiv_nonneg (by omega) (by decide)
              have hq1 : q ≤ 11 := by
                rw [hq, Int.tdiv_eq_ediv_of_nonneg (by omega)]
                omega
              have hspo : spO p k ((j : Int) - 1) = q - 2 := by rw [spO, ← hB, ← hq]
              have HST := Lib.hid hst
              have HSPO := Lib.hid hspo
              have HF := Lib.hid hF
              have HB := Lib.hid hB
              have hq' := hq.symm
              clear hst hspo hF hB hq HSJ
              by_cases hin : F + 7 * ((j : Int) - 1) < key - 3 ∨ key + 8 < F + 7 * ((j : Int) - 1)
              · have hno : spOk p key k ((j : Int) - 1) = false := by
                  rw [spOk, spIn, ← HF.out]
                  rcases hin with h | h
                  · rw [decide_eq_false (by omega)]; rfl
                  · rw [decide_eq_false (p := F + 7 * ((j : Int) - 1) ≤ key + 8) (by omega), Bool.and_false]; rfl
                have hn : spFrom p key 21 0 = spFrom p key (21 - 3 * k - (j + 1)) (3 * k + (j + 1)) := by rw [HST.out, hno]; rfl
                have HN := Lib.hid hn
                clear hn hno hgw hq'
                go_wp2
                · go_roundw
                  case rel => exact ⟨j + 1, by omega, by go_num, HN, hb2⟩
                  case measure => simp [intOf]; omega
                · go_roundw
                  case rel => exact ⟨j + 1, by omega, by go_num, HN, hb2⟩
                  case measure => simp [intOf]; omega
              · have i0 : key - 3 ≤ F + 7 * ((j : Int) - 1) := by omega
                have i1 : F + 7 * ((j : Int) - 1) ≤ key + 8 := by omega
                have hsi : spIn key k ((j : Int) - 1) = true := by
                  rw [spIn, ← HF.out, decide_eq_true i0, decide_eq_true i1]; rfl
                obtain ⟨se, hse⟩ : ∃ se, se = sndE k ((j : Int) - 1) (q - 2) := ⟨_, rfl⟩
                obtain ⟨sp, hsp⟩ : ∃ sp, sp = sndP k ((j : Int) - 1) (q - 2) := ⟨_, rfl⟩
                have hok : spOk p key k ((j : Int) - 1) = (decide (se = 0) && decide (sp = p)) := by
                  rw [spOk, hsi, HSPO.out, ← hse, ← hsp]; rfl
                have hcall : ∀ W, Below wr.heap.size wr W → Calls Tryd.prog 56 #[.agg #[.int .i64 (k : Int), .int .i64 ((j : Int) - 1), .int .i64 (q - 2)]] W fun e w' => e = .returned (.tuple #[.int .i64 sp, .int .i64 se]) ∧ Below W.heap.size W w' := fun W hW => by
                  rw [hse, hsp]; exact sounding_any _ _ _ W (hgw.up hW)
                have HCALL := Lib.hid hcall
                have HOK := Lib.hid hok
                clear hcall hok hse hsp hsi hin hgw
                by_cases hyes : se = 0 ∧ sp = p
                · obtain ⟨hy1, hy2⟩ := hyes
                  have hyy : spOk p key k ((j : Int) - 1) = true := by rw [HOK.out, hy1, hy2]; simp
                  have hn : r = .tuple #[.agg #[.int .i64 (k : Int), .int .i64 ((j : Int) - 1), .int .i64 (q - 2)], .int .i64 0] := by
                    rw [H1.out, HST.out, hyy, if_pos rfl, spV, HSPO.out]
                  have HN := Lib.hid hn
                  clear hn hyy
                  subst hy1
                  subst hy2
                  go_wp2_with (first | (go_at_call 56; refine (HCALL.out _ ?_).mono ?_; (repeat (first | exact Below.refl _ _ | assumption | refine below_drewN ?_ _ | refine Below.drew ?_ | refine Below.alloc ?_ (by first | exact Nat.le_refl _ | omega | (simp; done) | (simp; omega)) _ | refine Below.setCell ?_ (by first | exact Nat.le_refl _ | (simp; done) | (simp; omega)) _)); rintro e1 w1 ⟨rfl, hb3⟩; have hz3 := hb3.size; (try simp at hz3); have hb4 : Below w.heap.size w w1 := (hbw.alloc hbw.size _).trans (hb3.mono (by simp; omega)); have e0 := (bcell hb3).1 wr.heap.size 0 (by simp); have e1 := (bcell hb3).1 wr.heap.size 1 (by simp); have e2 := (bcell hb3).1 wr.heap.size 2 (by simp); simp [go_sem] at e0 e1 e2; have x0 := ((bcell hb3).1 w.heap.size 0 (by simp; omega)).trans ((World.cell?_alloc_lt _ _ _ (by show w.heap.size < wr.heap.size; omega)).trans d0); have x1 := ((bcell hb3).1 w.heap.size 1 (by simp; omega)).trans ((World.cell?_alloc_lt _ _ _ (by show w.heap.size < wr.heap.size; omega)).trans d1); have x2 := ((bcell hb3).1 w.heap.size 2 (by simp; omega)).trans ((World.cell?_alloc_lt _ _ _ (by show w.heap.size < wr.heap.size; omega)).trans d2); have y0 := ((bcell hb3).2 w.heap.size 0 (by simp; omega)).trans ((World.frozen?_alloc_past _ _ _ (by show w.heap.size < wr.heap.size; omega)).trans f0); have y1 := ((bcell hb3).2 w.heap.size 1 (by simp; omega)).trans ((World.frozen?_alloc_past _ _ _ (by show w.heap.size < wr.heap.size; omega)).trans f1); have y2 := ((bcell hb3).2 w.heap.size 2 (by simp; omega)).trans ((World.frozen?_alloc_past _ _ _ (by show w.heap.size < wr.heap.size; omega)).trans f2)))
                  refine bodyPost_ret (v := .tuple #[.agg #[.int .i64 (k : Int), .int .i64 ((j : Int) - 1), .int .i64 (q - 2)], .int .i64 0]) (by simp only [results, Tryd.results20]; go_simp) rfl ⟨by rw [HN.out], ?_⟩
                  (repeat (first | exact Below.refl _ _ | assumption | refine below_drewN ?_ _ | refine Below.drew ?_ | refine Below.alloc ?_ (by first | exact Nat.le_refl _ | omega | (simp; done) | (simp; omega)) _ | refine Below.setCell ?_ (by first | exact Nat.le_refl _ | (simp; done) | (simp; omega)) _))
                · have hno : spOk p key k ((j : Int) - 1) = false := by
                    rw [HOK.out]; simpa using fun h => fun h2 => hyes ⟨h, h2⟩
                  have hn : spFrom p key 21 0 = spFrom p key (21 - 3 * k - (j + 1)) (3 * k + (j + 1)) := by rw [HST.out, hno]; rfl
                  have HN := Lib.hid hn
                  clear hn hno
                  by_cases hse0 : se = 0
                  · have hsp0 : (sp == p) = false := by simpa using fun h => hyes ⟨hse0, h⟩
                    subst hse0
                    clear hyes
                    go_wp2_with (first | (go_at_call 56; refine (HCALL.out _ ?_).mono ?_; (repeat (first | exact Below.refl _ _ | assumption | refine below_drewN ?_ _ | refine Below.drew ?_ | refine Below.alloc ?_ (by first | exact Nat.le_refl _ | omega | (simp; done) | (simp; omega)) _ | refine Below.setCell ?_ (by first | exact Nat.le_refl _ | (simp; done) | (simp; omega)) _)); rintro e1 w1 ⟨rfl, hb3⟩; have hz3 := hb3.size; (try simp at hz3)))
                    go_roundw
                    case rel => exact ⟨j + 1, by omega, by go_num, HN, hb2.trans (((Below.refl wr.heap.size wr).alloc (Nat.le_refl _) _).trans (hb3.mono (by simp)) |>.mono (by omega))⟩
                    case measure => simp [intOf]; omega
                  · have hse1 : (se == 0) = false := by simpa using hse0
                    clear hyes hse0
                    go_wp2_with (first | (go_at_call 56; refine (HCALL.out _ ?_).mono ?_; (repeat (first | exact Below.refl _ _ | assumption | refine below_drewN ?_ _ | refine Below.drew ?_ | refine Below.alloc ?_ (by first | exact Nat.le_refl _ | omega | (simp; done) | (simp; omega)) _ | refine Below.setCell ?_ (by first | exact Nat.le_refl _ | (simp; done) | (simp; omega)) _)); rintro e1 w1 ⟨rfl, hb3⟩; have hz3 := hb3.size; (try simp at hz3)))
                    go_roundw
                    case rel => exact ⟨j + 1, by omega, by go_num, HN, hb2.trans (((Below.refl wr.heap.size wr).alloc (Nat.le_refl _) _).trans (hb3.mono (by simp)) |>.mono (by omega))⟩
                    case measure => simp [intOf]; omega
end Go.Proofs.YtbdhjpdjbogggaaDoor
