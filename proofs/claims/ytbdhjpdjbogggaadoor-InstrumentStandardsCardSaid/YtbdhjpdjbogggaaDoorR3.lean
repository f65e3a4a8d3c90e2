/- Walks of the reference: letter, ParseName. -/
import Derived.Test.YtbdhjpdjbogggaaDoorR1
import Derived.Test.YtbdhjpdjbogggaaDoorW6
namespace Go.Proofs.YtbdhjpdjbogggaaDoor
open Go.RowKit

theorem let_spec (c : UInt8) : ∃ J : Nat, J ≤ 7 ∧ (∀ k, k < J → ((letters.getD k 0).toNat : Int) ≠ (c.toNat : Int)) ∧ (J < 7 → ((letters.getD J 0).toNat : Int) = (c.toNat : Int)) ∧ letOf c = if J < 7 then (J : Int) else -1 := by
  have key : ∀ n : Fin 256, ∃ J : Fin 8, (∀ k : Fin 8, k < J → ((letters.getD k 0).toNat : Int) ≠ (n.val : Int)) ∧ (J.val < 7 → ((letters.getD J 0).toNat : Int) = (n.val : Int)) ∧ letOf (UInt8.ofNat n.val) = if J.val < 7 then (J.val : Int) else -1 := by decide +kernel
  obtain ⟨J, h1, h2, h3⟩ := key ⟨c.toNat, c.toNat_lt⟩
  refine ⟨J.val, by omega, fun k hk => h1 ⟨k, by omega⟩ hk, h2, ?_⟩
  simpa using h3

theorem let_at (k : Nat) (hk : k < 7) (hsz : k < (⟨#[67, 68, 69, 70, 71, 65, 66]⟩ : ByteArray).size) : letters.getD k 0 = (⟨#[67, 68, 69, 70, 71, 65, 66]⟩ : ByteArray)[k]'hsz := by
  have hcs : k = 0 ∨ k = 1 ∨ k = 2 ∨ k = 3 ∨ k = 4 ∨ k = 5 ∨ k = 6 := by omega
  rcases hcs with rfl | rfl | rfl | rfl | rfl | rfl | rfl <;> rfl

set_option maxHeartbeats 1000000 in
theorem rletter_any (c : UInt8) (w : World) : Calls Tryd.prog 65 #[.int .u8 (c.toNat : Int)] w fun e w' => e = .returned (.int .i64 (letOf c)) ∧ w' = w := by
  obtain ⟨J, hJ, hne, heq, hl⟩ := let_spec c
  obtain ⟨v, hv⟩ : ∃ v, v = (c.toNat : Int) := ⟨_, rfl⟩
  rw [hl]
  rw [← hv] at hne heq ⊢
  have HNE := Lib.hid hne
  have HEQ := Lib.hid heq
  clear hne heq hv hl
  go_enter Tryd.func65, Tryd.ntmps65
  go_wp2
  go_loop [3] (fun i => ∃ k : Nat, k ≤ J ∧ i = .int .i64 k) (fun i => 7 - (intOf i).toNat)
  case atStart => exact ⟨0, Nat.zero_le _, rfl⟩
  case round =>
    obtain ⟨k, hk, rfl⟩ := hrel
    by_cases h7 : k = 7
    · subst h7
      obtain rfl : J = 7 := by omega
      go_wp2
      go_ret
      exact ⟨rfl, rfl⟩
    · have h7' : k < 7 := by omega
      clear h7
      have hsz : k < (⟨#[67, 68, 69, 70, 71, 65, 66]⟩ : ByteArray).size := h7'
      have hg := let_at k h7' hsz
      by_cases hkJ : k = J
      · have he := HEQ.out (by omega)
        have ht : ((((⟨#[67, 68, 69, 70, 71, 65, 66]⟩ : ByteArray)[k]'hsz).toNat : Int) == v) = true := by rw [← hg, hkJ]; exact beq_iff_eq.2 he
        have hJ7 : J < 7 := by omega
        subst hkJ
        clear HEQ HNE he hg
        go_wp2
        go_ret
        exact ⟨rfl, rfl⟩
      · have he := HNE.out k (by omega)
        have ht : ((((⟨#[67, 68, 69, 70, 71, 65, 66]⟩ : ByteArray)[k]'hsz).toNat : Int) == v) = false := by rw [← hg]; exact beq_eq_false_iff_ne.2 he
        have hkJ' : k + 1 ≤ J := by omega
        clear HEQ HNE he hg hkJ
        go_wp2
        go_round
        case rel => exact ⟨k + 1, hkJ', by go_num⟩
        case measure => simp [intOf]; omega

theorem rpn_short (s : ByteArray) (w : World) (h2 : s.size < 2) :
    Calls Tryd.prog 25 #[.string s] w fun e1 w' => e1 = .returned (.tuple #[.agg #[.int .i64 0, .int .i64 0, .int .i64 0], .int .i64 4]) ∧ Below w.heap.size w w' := by
  have hd : decide ((s.size : Int) < 2) = true := by simp; omega
  go_enter Tryd.func25, Tryd.ntmps25
  go_wp2
  exact bodyPost_ret (v := .tuple #[.agg #[.int .i64 0, .int .i64 0, .int .i64 0], .int .i64 4]) (by simp only [results, Tryd.results25]; go_simp) rfl ⟨rfl, (by repeat (first | exact Below.refl _ _ | assumption | refine below_drewN ?_ _ | refine Below.drew ?_ | refine Below.alloc ?_ (by first | exact Nat.le_refl _ | omega | (simp; done) | (simp; omega)) _ | refine Below.setCell ?_ (by first | exact Nat.le_refl _ | (simp; done) | (simp; omega)) _))⟩

theorem rpn_letter (s : ByteArray) (c : UInt8) (L : Int) (w : World) (h2 : 2 ≤ s.size) (hc : ∀ h : 0 < s.size, s[0]'h = c) (hL : L < 0)
    (HLET : Hid (∀ W, Calls Tryd.prog 65 #[.int .u8 (c.toNat : Int)] W fun e w' => e = .returned (.int .i64 L) ∧ w' = W)) :
    Calls Tryd.prog 25 #[.string s] w fun e1 w' => e1 = .returned (.tuple #[.agg #[.int .i64 0, .int .i64 0, .int .i64 0], .int .i64 4]) ∧ Below w.heap.size w w' := by
  have hd : decide ((s.size : Int) < 2) = false := by simp; omega
  go_enter Tryd.func25, Tryd.ntmps25
  go_wp2_with (go_at_call 65; refine (HLET.out _).mono ?_; rintro e1 w1 ⟨rfl, rfl⟩)
  exact bodyPost_ret (v := .tuple #[.agg #[.int .i64 0, .int .i64 0, .int .i64 0], .int .i64 4]) (by simp only [results, Tryd.results25]; go_simp) rfl ⟨rfl, (by repeat (first | exact Below.refl _ _ | assumption | refine below_drewN ?_ _ | refine Below.drew ?_ | refine Below.alloc ?_ (by first | exact Nat.le_refl _ | omega | (simp; done) | (simp; omega)) _ | refine Below.setCell ?_ (by first | exact Nat.le_refl _ | (simp; done) | (simp; omega)) _))⟩

set_option maxHeartbeats 8000000 in
theorem rpn_form (s r r2 : ByteArray) (c b d : UInt8) (L : Int) (w : World) (h2 : 2 ≤ s.size) (hc : ∀ h : 0 < s.size, s[0]'h = c) (hL : 0 ≤ L)
    (HLET : Hid (∀ W, Calls Tryd.prog 65 #[.int .u8 (c.toNat : Int)] W fun e w' => e = .returned (.int .i64 L) ∧ w' = W))
    (hr : s.extract 1 s.size = r) (hr0 : 0 < r.size) (hb : ∀ h : 0 < r.size, r[0]'h = b)
    (ha : (((b.toNat : Int) == 35) = true ∧ r.extract 1 r.size = r2) ∨ (((b.toNat : Int) == 35) = false ∧ ((b.toNat : Int) == 98) = true ∧ r.extract 1 r.size = r2) ∨
      (((b.toNat : Int) == 35) = false ∧ ((b.toNat : Int) == 98) = false ∧ r = r2))
    (ho : ((r2.toList == [45, 49]) = false ∧ ((r2.size : Int) == 1) = false) ∨ ((r2.toList == [45, 49]) = false ∧ ((r2.size : Int) == 1) = true ∧ 0 < r2.size ∧ (∀ h : 0 < r2.size, r2[0]'h = d) ∧ ((d.toNat : Int) < 48 ∨ 57 < (d.toNat : Int)))) :
    Calls Tryd.prog 25 #[.string s] w fun e1 w' => e1 = .returned (.tuple #[.agg #[.int .i64 0, .int .i64 0, .int .i64 0], .int .i64 4]) ∧ Below w.heap.size w w' := by
  have hd : decide ((s.size : Int) < 2) = false := by simp; omega
  rcases ha with ⟨p1, e2⟩ | ⟨p1, p2, e2⟩ | ⟨p1, p2, rfl⟩
  · rcases ho with ⟨q1, q2⟩ | ⟨q1, q2, q3, q4, q5⟩
    all_goals
      go_enter Tryd.func25, Tryd.ntmps25
      go_wp2_with (go_at_call 65; refine (HLET.out _).mono ?_; rintro e1 w1 ⟨rfl, rfl⟩)
      all_goals (exact bodyPost_ret (v := .tuple #[.agg #[.int .i64 0, .int .i64 0, .int .i64 0], .int .i64 4]) (by simp only [results, Tryd.results25]; go_simp) rfl ⟨rfl, (by repeat (first | exact Below.refl _ _ | assumption | refine below_drewN ?_ _ | refine Below.drew ?_ | refine Below.alloc ?_ (by first | exact Nat.le_refl _ | omega | (simp; done) | (simp; omega)) _ | refine Below.setCell ?_ (by first | exact Nat.le_refl _ | (simp; done) | (simp; omega)) _))⟩)
  · rcases ho with ⟨q1, q2⟩ | ⟨q1, q2, q3, q4, q5⟩
    all_goals
      go_enter Tryd.func25, Tryd.ntmps25
      go_wp2_with (go_at_call 65; refine (HLET.out _).mono ?_; rintro e1 w1 ⟨rfl, rfl⟩)
      all_goals (exact bodyPost_ret (v := .tuple #[.agg #[.int .i64 0, .int .i64 0, .int .i64 0], .int .i64 4]) (by simp only [results, Tryd.results25]; go_simp) rfl ⟨rfl, (by repeat (first | exact Below.refl _ _ | assumption | refine below_drewN ?_ _ | refine Below.drew ?_ | refine Below.alloc ?_ (by first | exact Nat.le_refl _ | omega | (simp; done) | (simp; omega)) _ | refine Below.setCell ?_ (by first | exact Nat.le_refl _ | (simp; done) | (simp; omega)) _))⟩)
  · rcases ho with ⟨q1, q2⟩ | ⟨q1, q2, q3, q4, q5⟩
    · go_enter Tryd.func25, Tryd.ntmps25
      go_wp2_with (go_at_call 65; refine (HLET.out _).mono ?_; rintro e1 w1 ⟨rfl, rfl⟩)
      all_goals (exact bodyPost_ret (v := .tuple #[.agg #[.int .i64 0, .int .i64 0, .int .i64 0], .int .i64 4]) (by simp only [results, Tryd.results25]; go_simp) rfl ⟨rfl, (by repeat (first | exact Below.refl _ _ | assumption | refine below_drewN ?_ _ | refine Below.drew ?_ | refine Below.alloc ?_ (by first | exact Nat.le_refl _ | omega | (simp; done) | (simp; omega)) _ | refine Below.setCell ?_ (by first | exact Nat.le_refl _ | (simp; done) | (simp; omega)) _))⟩)
    · obtain rfl : b = d := (hb q3).symm.trans (q4 q3)
      clear q4
      go_enter Tryd.func25, Tryd.ntmps25
      go_wp2_with (go_at_call 65; refine (HLET.out _).mono ?_; rintro e1 w1 ⟨rfl, rfl⟩)
      all_goals (exact bodyPost_ret (v := .tuple #[.agg #[.int .i64 0, .int .i64 0, .int .i64 0], .int .i64 4]) (by simp only [results, Tryd.results25]; go_simp) rfl ⟨rfl, (by repeat (first | exact Below.refl _ _ | assumption | refine below_drewN ?_ _ | refine Below.drew ?_ | refine Below.alloc ?_ (by first | exact Nat.le_refl _ | omega | (simp; done) | (simp; omega)) _ | refine Below.setCell ?_ (by first | exact Nat.le_refl _ | (simp; done) | (simp; omega)) _))⟩)

set_option maxHeartbeats 8000000 in
theorem rpn_pitch (s r r2 : ByteArray) (c b d : UInt8) (a o L : Int) (w : World) (h2 : 2 ≤ s.size) (hc : ∀ h : 0 < s.size, s[0]'h = c) (hL : 0 ≤ L)
    (HLET : Hid (∀ W, Calls Tryd.prog 65 #[.int .u8 (c.toNat : Int)] W fun e w' => e = .returned (.int .i64 L) ∧ w' = W))
    (hr : s.extract 1 s.size = r) (hr0 : 0 < r.size) (hb : ∀ h : 0 < r.size, r[0]'h = b)
    (ha : (((b.toNat : Int) == 35) = true ∧ r.extract 1 r.size = r2 ∧ a = 1) ∨ (((b.toNat : Int) == 35) = false ∧ ((b.toNat : Int) == 98) = true ∧ r.extract 1 r.size = r2 ∧ a = -1) ∨
      (((b.toNat : Int) == 35) = false ∧ ((b.toNat : Int) == 98) = false ∧ r = r2 ∧ a = 0))
    (ho : ((r2.toList == [45, 49]) = true ∧ o = -1) ∨ ((r2.toList == [45, 49]) = false ∧ ((r2.size : Int) == 1) = true ∧ 0 < r2.size ∧ (∀ h : 0 < r2.size, r2[0]'h = d) ∧ 48 ≤ (d.toNat : Int) ∧ (d.toNat : Int) ≤ 57 ∧ o = (d.toNat : Int) - 48))
    (HR : Hid (∀ W, Calls Tryd.prog 66 #[.agg #[.int .i64 L, .int .i64 a, .int .i64 o]] W fun e w' => e = .returned (.bool false) ∧ Below W.heap.size W w')) :
    Calls Tryd.prog 25 #[.string s] w fun e1 w' => e1 = .returned (.tuple #[.agg #[.int .i64 0, .int .i64 0, .int .i64 0], .int .i64 10]) ∧ Below w.heap.size w w' := by
  have hd : decide ((s.size : Int) < 2) = false := by simp; omega
  rcases ha with ⟨p1, e2, rfl⟩ | ⟨p1, p2, e2, rfl⟩ | ⟨p1, p2, rfl, rfl⟩
  · rcases ho with ⟨q1, rfl⟩ | ⟨q1, q2, q3, q4, q5, q6, rfl⟩
    all_goals
      go_enter Tryd.func25, Tryd.ntmps25
      go_wp2_with (first | (go_at_call 65; refine (HLET.out _).mono ?_; rintro e1 w1 ⟨rfl, rfl⟩) | (go_at_call 66; refine (HR.out _).mono ?_; rintro e1 w1 ⟨rfl, hb3⟩; obtain ⟨hc3, hf3⟩ := bcell hb3; have hz3 := hb3.size; simp at hz3; have hlt3 : w.heap.size < w1.heap.size := (by omega); have d0 := hc3 w.heap.size 0 (by simp; omega); have d1 := hc3 w.heap.size 1 (by simp; omega); have d2 := hc3 w.heap.size 2 (by simp; omega); simp [go_sem] at d0 d1 d2; have hb4 : Below w.heap.size w w1 := (Below.trans ((((Below.refl _ _).alloc (Nat.le_refl _) _).alloc (by simp) _)) (hb3.mono (by simp; omega)))))
      exact bodyPost_ret (v := .tuple #[.agg #[.int .i64 0, .int .i64 0, .int .i64 0], .int .i64 10]) (by simp only [results, Tryd.results25]; go_simp) rfl ⟨rfl, (by repeat (first | exact Below.refl _ _ | assumption | refine below_drewN ?_ _ | refine Below.drew ?_ | refine Below.alloc ?_ (by first | exact Nat.le_refl _ | omega | (simp; done) | (simp; omega)) _ | refine Below.setCell ?_ (by first | exact Nat.le_refl _ | (simp; done) | (simp; omega)) _))⟩
  · rcases ho with ⟨q1, rfl⟩ | ⟨q1, q2, q3, q4, q5, q6, rfl⟩
    all_goals
      go_enter Tryd.func25, Tryd.ntmps25
      go_wp2_with (first | (go_at_call 65; refine (HLET.out _).mono ?_; rintro e1 w1 ⟨rfl, rfl⟩) | (go_at_call 66; refine (HR.out _).mono ?_; rintro e1 w1 ⟨rfl, hb3⟩; obtain ⟨hc3, hf3⟩ := bcell hb3; have hz3 := hb3.size; simp at hz3; have hlt3 : w.heap.size < w1.heap.size := (by omega); have d0 := hc3 w.heap.size 0 (by simp; omega); have d1 := hc3 w.heap.size 1 (by simp; omega); have d2 := hc3 w.heap.size 2 (by simp; omega); simp [go_sem] at d0 d1 d2; have hb4 : Below w.heap.size w w1 := (Below.trans ((((Below.refl _ _).alloc (Nat.le_refl _) _).alloc (by simp) _)) (hb3.mono (by simp; omega)))))
      exact bodyPost_ret (v := .tuple #[.agg #[.int .i64 0, .int .i64 0, .int .i64 0], .int .i64 10]) (by simp only [results, Tryd.results25]; go_simp) rfl ⟨rfl, (by repeat (first | exact Below.refl _ _ | assumption | refine below_drewN ?_ _ | refine Below.drew ?_ | refine Below.alloc ?_ (by first | exact Nat.le_refl _ | omega | (simp; done) | (simp; omega)) _ | refine Below.setCell ?_ (by first | exact Nat.le_refl _ | (simp; done) | (simp; omega)) _))⟩
  · rcases ho with ⟨q1, rfl⟩ | ⟨q1, q2, q3, q4, q5, q6, rfl⟩
    · go_enter Tryd.func25, Tryd.ntmps25
      go_wp2_with (first | (go_at_call 65; refine (HLET.out _).mono ?_; rintro e1 w1 ⟨rfl, rfl⟩) | (go_at_call 66; refine (HR.out _).mono ?_; rintro e1 w1 ⟨rfl, hb3⟩; obtain ⟨hc3, hf3⟩ := bcell hb3; have hz3 := hb3.size; simp at hz3; have hlt3 : w.heap.size < w1.heap.size := (by omega); have d0 := hc3 w.heap.size 0 (by simp; omega); have d1 := hc3 w.heap.size 1 (by simp; omega); have d2 := hc3 w.heap.size 2 (by simp; omega); simp [go_sem] at d0 d1 d2; have hb4 : Below w.heap.size w w1 := (Below.trans ((((Below.refl _ _).alloc (Nat.le_refl _) _).alloc (by simp) _)) (hb3.mono (by simp; omega)))))
      exact bodyPost_ret (v := .tuple #[.agg #[.int .i64 0, .int .i64 0, .int .i64 0], .int .i64 10]) (by simp only [results, Tryd.results25]; go_simp) rfl ⟨rfl, (by repeat (first | exact Below.refl _ _ | assumption | refine below_drewN ?_ _ | refine Below.drew ?_ | refine Below.alloc ?_ (by first | exact Nat.le_refl _ | omega | (simp; done) | (simp; omega)) _ | refine Below.setCell ?_ (by first | exact Nat.le_refl _ | (simp; done) | (simp; omega)) _))⟩
    · obtain rfl : b = d := (hb q3).symm.trans (q4 q3)
      clear q4
      go_enter Tryd.func25, Tryd.ntmps25
      go_wp2_with (first | (go_at_call 65; refine (HLET.out _).mono ?_; rintro e1 w1 ⟨rfl, rfl⟩) | (go_at_call 66; refine (HR.out _).mono ?_; rintro e1 w1 ⟨rfl, hb3⟩; obtain ⟨hc3, hf3⟩ := bcell hb3; have hz3 := hb3.size; simp at hz3; have hlt3 : w.heap.size < w1.heap.size := (by omega); have d0 := hc3 w.heap.size 0 (by simp; omega); have d1 := hc3 w.heap.size 1 (by simp; omega); have d2 := hc3 w.heap.size 2 (by simp; omega); simp [go_sem] at d0 d1 d2; have hb4 : Below w.heap.size w w1 := (Below.trans ((((Below.refl _ _).alloc (Nat.le_refl _) _).alloc (by simp) _)) (hb3.mono (by simp; omega)))))
      exact bodyPost_ret (v := .tuple #[.agg #[.int .i64 0, .int .i64 0, .int .i64 0], .int .i64 10]) (by simp only [results, Tryd.results25]; go_simp) rfl ⟨rfl, (by repeat (first | exact Below.refl _ _ | assumption | refine below_drewN ?_ _ | refine Below.drew ?_ | refine Below.alloc ?_ (by first | exact Nat.le_refl _ | omega | (simp; done) | (simp; omega)) _ | refine Below.setCell ?_ (by first | exact Nat.le_refl _ | (simp; done) | (simp; omega)) _))⟩
set_option maxHeartbeats 8000000 in
theorem rpn_good (s r r2 : ByteArray) (c b d : UInt8) (a o L : Int) (w : World) (h2 : 2 ≤ s.size) (hc : ∀ h : 0 < s.size, s[0]'h = c) (hL : 0 ≤ L)
    (HLET : Hid (∀ W, Calls Tryd.prog 65 #[.int .u8 (c.toNat : Int)] W fun e w' => e = .returned (.int .i64 L) ∧ w' = W))
    (hr : s.extract 1 s.size = r) (hr0 : 0 < r.size) (hb : ∀ h : 0 < r.size, r[0]'h = b)
    (ha : (((b.toNat : Int) == 35) = true ∧ r.extract 1 r.size = r2 ∧ a = 1) ∨ (((b.toNat : Int) == 35) = false ∧ ((b.toNat : Int) == 98) = true ∧ r.extract 1 r.size = r2 ∧ a = -1) ∨
      (((b.toNat : Int) == 35) = false ∧ ((b.toNat : Int) == 98) = false ∧ r = r2 ∧ a = 0))
    (ho : ((r2.toList == [45, 49]) = true ∧ o = -1) ∨ ((r2.toList == [45, 49]) = false ∧ ((r2.size : Int) == 1) = true ∧ 0 < r2.size ∧ (∀ h : 0 < r2.size, r2[0]'h = d) ∧ 48 ≤ (d.toNat : Int) ∧ (d.toNat : Int) ≤ 57 ∧ o = (d.toNat : Int) - 48))
    (HR : Hid (∀ W, Calls Tryd.prog 66 #[.agg #[.int .i64 L, .int .i64 a, .int .i64 o]] W fun e w' => e = .returned (.bool true) ∧ Below W.heap.size W w')) :
    Calls Tryd.prog 25 #[.string s] w fun e1 w' => e1 = .returned (.tuple #[.agg #[.int .i64 L, .int .i64 a, .int .i64 o], .int .i64 0]) ∧ Below w.heap.size w w' := by
  have hd : decide ((s.size : Int) < 2) = false := by simp; omega
  rcases ha with ⟨p1, e2, rfl⟩ | ⟨p1, p2, e2, rfl⟩ | ⟨p1, p2, rfl, rfl⟩
  · rcases ho with ⟨q1, rfl⟩ | ⟨q1, q2, q3, q4, q5, q6, rfl⟩
    all_goals
      go_enter Tryd.func25, Tryd.ntmps25
      go_wp2_with (first | (go_at_call 65; refine (HLET.out _).mono ?_; rintro e1 w1 ⟨rfl, rfl⟩) | (go_at_call 66; refine (HR.out _).mono ?_; rintro e1 w1 ⟨rfl, hb3⟩; obtain ⟨hc3, hf3⟩ := bcell hb3; have hz3 := hb3.size; simp at hz3; have hlt3 : w.heap.size < w1.heap.size := (by omega); have d0 := hc3 w.heap.size 0 (by simp; omega); have d1 := hc3 w.heap.size 1 (by simp; omega); have d2 := hc3 w.heap.size 2 (by simp; omega); simp [go_sem] at d0 d1 d2; have hb4 : Below w.heap.size w w1 := (Below.trans ((((Below.refl _ _).alloc (Nat.le_refl _) _).alloc (by simp) _)) (hb3.mono (by simp; omega)))))
      exact bodyPost_ret (v := .tuple #[.agg #[.int .i64 L, .int .i64 _, .int .i64 _], .int .i64 0]) (by simp only [results, Tryd.results25]; go_simp) rfl ⟨rfl, (by repeat (first | exact Below.refl _ _ | assumption | refine below_drewN ?_ _ | refine Below.drew ?_ | refine Below.alloc ?_ (by first | exact Nat.le_refl _ | omega | (simp; done) | (simp; omega)) _ | refine Below.setCell ?_ (by first | exact Nat.le_refl _ | (simp; done) | (simp; omega)) _))⟩
  · rcases ho with ⟨q1, rfl⟩ | ⟨q1, q2, q3, q4, q5, q6, rfl⟩
    all_goals
      go_enter Tryd.func25, Tryd.ntmps25
      go_wp2_with (first | (go_at_call 65; refine (HLET.out _).mono ?_; rintro e1 w1 ⟨rfl, rfl⟩) | (go_at_call 66; refine (HR.out _).mono ?_; rintro e1 w1 ⟨rfl, hb3⟩; obtain ⟨hc3, hf3⟩ := bcell hb3; have hz3 := hb3.size; simp at hz3; have hlt3 : w.heap.size < w1.heap.size := (by omega); have d0 := hc3 w.heap.size 0 (by simp; omega); have d1 := hc3 w.heap.size 1 (by simp; omega); have d2 := hc3 w.heap.size 2 (by simp; omega); simp [go_sem] at d0 d1 d2; have hb4 : Below w.heap.size w w1 := (Below.trans ((((Below.refl _ _).alloc (Nat.le_refl _) _).alloc (by simp) _)) (hb3.mono (by simp; omega)))))
      exact bodyPost_ret (v := .tuple #[.agg #[.int .i64 L, .int .i64 _, .int .i64 _], .int .i64 0]) (by simp only [results, Tryd.results25]; go_simp) rfl ⟨rfl, (by repeat (first | exact Below.refl _ _ | assumption | refine below_drewN ?_ _ | refine Below.drew ?_ | refine Below.alloc ?_ (by first | exact Nat.le_refl _ | omega | (simp; done) | (simp; omega)) _ | refine Below.setCell ?_ (by first | exact Nat.le_refl _ | (simp; done) | (simp; omega)) _))⟩
  · rcases ho with ⟨q1, rfl⟩ | ⟨q1, q2, q3, q4, q5, q6, rfl⟩
    · go_enter Tryd.func25, Tryd.ntmps25
      go_wp2_with (first | (go_at_call 65; refine (HLET.out _).mono ?_; rintro e1 w1 ⟨rfl, rfl⟩) | (go_at_call 66; refine (HR.out _).mono ?_; rintro e1 w1 ⟨rfl, hb3⟩; obtain ⟨hc3, hf3⟩ := bcell hb3; have hz3 := hb3.size; simp at hz3; have hlt3 : w.heap.size < w1.heap.size := (by omega); have d0 := hc3 w.heap.size 0 (by simp; omega); have d1 := hc3 w.heap.size 1 (by simp; omega); have d2 := hc3 w.heap.size 2 (by simp; omega); simp [go_sem] at d0 d1 d2; have hb4 : Below w.heap.size w w1 := (Below.trans ((((Below.refl _ _).alloc (Nat.le_refl _) _).alloc (by simp) _)) (hb3.mono (by simp; omega)))))
      exact bodyPost_ret (v := .tuple #[.agg #[.int .i64 L, .int .i64 _, .int .i64 _], .int .i64 0]) (by simp only [results, Tryd.results25]; go_simp) rfl ⟨rfl, (by repeat (first | exact Below.refl _ _ | assumption | refine below_drewN ?_ _ | refine Below.drew ?_ | refine Below.alloc ?_ (by first | exact Nat.le_refl _ | omega | (simp; done) | (simp; omega)) _ | refine Below.setCell ?_ (by first | exact Nat.le_refl _ | (simp; done) | (simp; omega)) _))⟩
    · obtain rfl : b = d := (hb q3).symm.trans (q4 q3)
      clear q4
      go_enter Tryd.func25, Tryd.ntmps25
      go_wp2_with (first | (go_at_call 65; refine (HLET.out _).mono ?_; rintro e1 w1 ⟨rfl, rfl⟩) | (go_at_call 66; refine (HR.out _).mono ?_; rintro e1 w1 ⟨rfl, hb3⟩; obtain ⟨hc3, hf3⟩ := bcell hb3; have hz3 := hb3.size; simp at hz3; have hlt3 : w.heap.size < w1.heap.size := (by omega); have d0 := hc3 w.heap.size 0 (by simp; omega); have d1 := hc3 w.heap.size 1 (by simp; omega); have d2 := hc3 w.heap.size 2 (by simp; omega); simp [go_sem] at d0 d1 d2; have hb4 : Below w.heap.size w w1 := (Below.trans ((((Below.refl _ _).alloc (Nat.le_refl _) _).alloc (by simp) _)) (hb3.mono (by simp; omega)))))
      exact bodyPost_ret (v := .tuple #[.agg #[.int .i64 L, .int .i64 _, .int .i64 _], .int .i64 0]) (by simp only [results, Tryd.results25]; go_simp) rfl ⟨rfl, (by repeat (first | exact Below.refl _ _ | assumption | refine below_drewN ?_ _ | refine Below.drew ?_ | refine Below.alloc ?_ (by first | exact Nat.le_refl _ | omega | (simp; done) | (simp; omega)) _ | refine Below.setCell ?_ (by first | exact Nat.le_refl _ | (simp; done) | (simp; omega)) _))⟩

theorem rparseName_any (s : ByteArray) (w : World) :
    Calls Tryd.prog 25 #[.string s] w fun e1 w' => e1 = .returned (.tuple #[.agg #[.int .i64 (pnV s.data.toList).1, .int .i64 (pnV s.data.toList).2.1, .int .i64 (pnV s.data.toList).2.2], .int .i64 (pnE s.data.toList)]) ∧ Below w.heap.size w w' := by
  have hsl : s.data.toList.length = s.size := by simp
  match ht : s.data.toList with
  | [] => exact rpn_short s w (by rw [← hsl, ht]; decide)
  | [c] =>
    have hO : pnO [c] = none := by
      simp only [pnO]
      split
      · rfl
      · rfl
    have hE : pnE [c] = 4 := by simp only [pnE, hO]
    have hV : pnV [c] = (0, 0, 0) := by simp only [pnV, hO]
    rw [hE, hV]
    exact rpn_short s w (by rw [← hsl, ht]; simp)
  | c :: b :: t =>
    have hsz : s.size = t.length + 2 := by rw [← hsl, ht]; rfl
    have h2 : 2 ≤ s.size := by omega
    have hc : ∀ h : 0 < s.size, s[0]'h = c := by
      intro h
      have e : s.data.toList[0]? = some (s[0]'h) := by rw [List.getElem?_eq_getElem (by simpa using h)]; rfl
      rw [ht] at e; simpa using e.symm
    have HLET : Hid (∀ W, Calls Tryd.prog 65 #[.int .u8 (c.toNat : Int)] W fun e w' => e = .returned (.int .i64 (letOf c)) ∧ w' = W) := Lib.hid fun W => rletter_any c W
    by_cases hl : letOf c < 0
    · have hO : pnO (c :: b :: t) = none := by simp only [pnO, if_pos hl]
      have hE : pnE (c :: b :: t) = 4 := by simp only [pnE, hO]
      have hV : pnV (c :: b :: t) = (0, 0, 0) := by simp only [pnV, hO]
      rw [hE, hV]
      exact rpn_letter s c _ w h2 hc hl HLET
    · have hl' : 0 ≤ letOf c := by omega
      obtain ⟨r, hr⟩ : ∃ r, s.extract 1 s.size = r := ⟨_, rfl⟩
      have hrl : r.data.toList = b :: t := by rw [← hr, ext1, ht]; rfl
      have hrs : r.data.toList.length = r.size := by simp
      have hr0 : 0 < r.size := by rw [← hrs, hrl]; simp
      have hb : ∀ h : 0 < r.size, r[0]'h = b := by
        intro h
        have e : r.data.toList[0]? = some (r[0]'h) := by rw [List.getElem?_eq_getElem (by simpa using h)]; rfl
        rw [hrl] at e; simpa using e.symm
      have hbt : ∀ n : UInt8, ((b.toNat : Int) == (n.toNat : Int)) = decide ((b :: t).head? = some n) := by
        intro n
        rw [Bool.eq_iff_iff, beq_iff_eq, decide_eq_true_iff, List.head?_cons, Option.some.injEq]
        exact ⟨fun h => UInt8.toNat_inj.1 (by omega), fun h => by rw [h]⟩
      have h35' := hbt 35
      have h98' := hbt 98
      obtain ⟨r2, a, ha, hr2l, hae⟩ : ∃ r2 a, ((((b.toNat : Int) == 35) = true ∧ r.extract 1 r.size = r2 ∧ a = 1) ∨ (((b.toNat : Int) == 35) = false ∧ ((b.toNat : Int) == 98) = true ∧ r.extract 1 r.size = r2 ∧ a = -1) ∨
          (((b.toNat : Int) == 35) = false ∧ ((b.toNat : Int) == 98) = false ∧ r = r2 ∧ a = 0)) ∧ r2.data.toList = altR (b :: t) ∧ a = altA (b :: t) := by
        by_cases h35 : (b :: t).head? = some 35
        · refine ⟨_, _, .inl ⟨h35'.trans (decide_eq_true h35), rfl, rfl⟩, ?_, ?_⟩
          · rw [ext1, hrl, altR, if_pos h35]
          · rw [altA, if_pos h35]
        · by_cases h98 : (b :: t).head? = some 98
          · refine ⟨_, _, .inr (.inl ⟨h35'.trans (decide_eq_false h35), h98'.trans (decide_eq_true h98), rfl, rfl⟩), ?_, ?_⟩
            · rw [ext1, hrl, altR, if_neg h35, if_pos h98]
            · rw [altA, if_neg h35, if_pos h98]
          · refine ⟨_, _, .inr (.inr ⟨h35'.trans (decide_eq_false h35), h98'.trans (decide_eq_false h98), rfl, rfl⟩), ?_, ?_⟩
            · rw [hrl, altR, if_neg h35, if_neg h98]
            · rw [altA, if_neg h35, if_neg h98]
      have hr2s : r2.data.toList.length = r2.size := by simp
      obtain ⟨d, hd⟩ : ∃ d, d = (altR (b :: t)).headD 0 := ⟨_, rfl⟩
      have hd0 : ∀ h : 0 < r2.size, r2[0]'h = d := by
        intro h
        have e : r2.data.toList[0]? = some (r2[0]'h) := by rw [List.getElem?_eq_getElem (by simpa using h)]; rfl
        rw [hd, ← hr2l]
        cases hx : r2.data.toList with
        | nil => rw [hx] at e; simp at e
        | cons x y => rw [hx] at e; simpa using e.symm
      have q1 : (r2.toList == [45, 49]) = decide (altR (b :: t) = [45, 49]) := by rw [ByteArray.toList_eq, hr2l]; by_cases h : altR (b :: t) = [45, 49] <;> simp [h]
      cases ho : octOf (altR (b :: t)) with
      | none =>
        have hO : pnO (c :: b :: t) = none := by simp only [pnO, if_neg hl, ho, Option.map_none]
        have hE : pnE (c :: b :: t) = 4 := by simp only [pnE, hO]
        have hV : pnV (c :: b :: t) = (0, 0, 0) := by simp only [pnV, hO]
        rw [hE, hV]
        have ha' : (((b.toNat : Int) == 35) = true ∧ r.extract 1 r.size = r2) ∨ (((b.toNat : Int) == 35) = false ∧ ((b.toNat : Int) == 98) = true ∧ r.extract 1 r.size = r2) ∨
            (((b.toNat : Int) == 35) = false ∧ ((b.toNat : Int) == 98) = false ∧ r = r2) := by
          rcases ha with ⟨x, y, _⟩ | ⟨x, y, z, _⟩ | ⟨x, y, z, _⟩
          · exact .inl ⟨x, y⟩
          · exact .inr (.inl ⟨x, y, z⟩)
          · exact .inr (.inr ⟨x, y, z⟩)
        refine rpn_form s r r2 c b d _ w h2 hc hl' HLET hr hr0 hb ha' ?_
        unfold octOf at ho
        by_cases k1 : altR (b :: t) = [45, 49]
        · rw [if_pos k1] at ho; cases ho
        · rw [if_neg k1] at ho
          by_cases k2 : (altR (b :: t)).length = 1 ∧ digB ((altR (b :: t)).headD 0) = true
          · rw [if_pos k2] at ho; cases ho
          · by_cases k3 : (altR (b :: t)).length = 1
            · right
              refine ⟨by rw [q1]; simpa using k1, by rw [← hr2s, hr2l, k3]; rfl, by rw [← hr2s, hr2l, k3]; decide, hd0, ?_⟩
              have : ¬ digB d = true := fun h => k2 ⟨k3, by rw [← hd]; exact h⟩
              simp [digB] at this
              omega
            · left
              refine ⟨by rw [q1]; simpa using k1, ?_⟩
              simp only [beq_eq_false_iff_ne]
              rw [← hr2s, hr2l]; omega
      | some o =>
        have hO : pnO (c :: b :: t) = some (letOf c, a, o) := by simp only [pnO, if_neg hl, ho, Option.map_some, hae]
        have hoo : ((r2.toList == [45, 49]) = true ∧ o = -1) ∨ ((r2.toList == [45, 49]) = false ∧ ((r2.size : Int) == 1) = true ∧ 0 < r2.size ∧ (∀ h : 0 < r2.size, r2[0]'h = d) ∧ 48 ≤ (d.toNat : Int) ∧ (d.toNat : Int) ≤ 57 ∧ o = (d.toNat : Int) - 48) := by
          unfold octOf at ho
          by_cases k1 : altR (b :: t) = [45, 49]
          · rw [if_pos k1] at ho
            exact .inl ⟨by rw [q1]; simpa using k1, by injection ho with ho; exact ho.symm⟩
          · rw [if_neg k1] at ho
            by_cases k2 : (altR (b :: t)).length = 1 ∧ digB ((altR (b :: t)).headD 0) = true
            · rw [if_pos k2, ← hd] at ho
              have k4 := k2.2
              rw [← hd] at k4
              simp [digB] at k4
              exact .inr ⟨by rw [q1]; simpa using k1, by rw [← hr2s, hr2l, k2.1]; rfl, by rw [← hr2s, hr2l, k2.1]; decide, hd0, k4.1, k4.2, by injection ho with ho; exact ho.symm⟩
            · rw [if_neg k2] at ho; cases ho
        by_cases hR : right (letOf c) a o = true
        · have hE : pnE (c :: b :: t) = 0 := by simp only [pnE, hO, hR, if_true]
          have hV : pnV (c :: b :: t) = (letOf c, a, o) := by simp only [pnV, hO, hR, if_true]
          rw [hE, hV]
          exact rpn_good s r r2 c b d a o _ w h2 hc hl' HLET hr hr0 hb ha hoo (Lib.hid fun W => by rw [← hR]; exact rright_any _ _ _ W)
        · have hR' : right (letOf c) a o = false := by simpa using hR
          have hE : pnE (c :: b :: t) = 10 := by simp only [pnE, hO, hR']; rfl
          have hV : pnV (c :: b :: t) = (0, 0, 0) := by simp only [pnV, hO, hR']; rfl
          rw [hE, hV]
          exact rpn_pitch s r r2 c b d a o _ w h2 hc hl' HLET hr hr0 hb ha hoo (Lib.hid fun W => by rw [← hR']; exact rright_any _ _ _ W)
end Go.Proofs.YtbdhjpdjbogggaaDoor
