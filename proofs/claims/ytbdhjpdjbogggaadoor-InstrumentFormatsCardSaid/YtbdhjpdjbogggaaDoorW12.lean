/- At. -/
import Derived.Test.YtbdhjpdjbogggaaDoorW6
namespace Go.Proofs.YtbdhjpdjbogggaaDoor
open Go.RowKit

theorem crsAll_zero {ss : List Int} : ∀ {cs : List Crs}, crsAll ss cs = 0 → ∀ c ∈ cs, crsE ss c = 0
  | [], _, c, hc => by simp at hc
  | x :: r, h, c, hc => by
    simp only [crsAll] at h
    by_cases hx : crsE ss x = 0
    · rw [if_pos hx] at h
      rcases List.mem_cons.1 hc with rfl | hc
      · exact hx
      · exact crsAll_zero h c hc
    · rw [if_neg hx] at h; exact absurd h hx
theorem chk_zero {cs : List Crs} {ss : List Int} (h : chk cs ss = 0) : cs.length ≤ 14 ∧ ss.length ≤ 18 ∧ stepsOk 0 ss = true ∧ ∀ c ∈ cs, crsE ss c = 0 := by
  rw [chk] at h
  by_cases h1 : 14 < cs.length ∨ 18 < ss.length
  · rw [if_pos h1] at h; cases h
  · rw [if_neg h1] at h
    by_cases h2 : cs = []
    · rw [if_pos h2] at h; cases h
    · rw [if_neg h2] at h
      by_cases h3 : stepsOk 0 ss = true
      · rw [if_pos h3] at h
        exact ⟨by omega, by omega, h3, crsAll_zero h⟩
      · rw [if_neg h3] at h; cases h
theorem crsE_fit {ss : List Int} {c : Crs} (h : crsE ss c = 0) : 0 ≤ c.f ∧ c.f ≤ (ss.length : Int) ∧ 0 ≤ c.p ∧ c.p ≤ 127 ∧ hiOf ss c.p c.f c.o ≤ 127 := by
  rw [crsE] at h
  split at h
  · cases h
  · split at h
    · cases h
    · omega

/-- At: the error and the pitch. -/
def atE (cs : List Crs) (ss : List Int) (co f : Int) : Int :=
  if chk cs ss ≠ 0 then chk cs ss else if co < 1 ∨ (cs.length : Int) < co then 12 else if f < 0 ∨ (cs.getD (co.toNat - 1) default).f < f then 13 else 0
def atV (cs : List Crs) (ss : List Int) (co f : Int) : Int :=
  if atE cs ss co f = 0 then stopOf ss (cs.getD (co.toNat - 1) default).p f else 0

set_option maxHeartbeats 4000000 in
theorem at_any (A C : Option Addr) (nc cc ns kc : Nat) (cs : List Crs) (ss : List Int) (co f : Int) (w : World) (hC : Arr w w.heap.size 3 A nc (cells3 cs)) (hS : Arr w w.heap.size 1 C ns (ss.map (Value.int .i64))) :
    Calls Tryd.prog 27 #[.agg #[.slice A nc cc, .slice C ns kc], .agg #[.int .i64 co, .int .i64 f]] w fun e w' =>
    e = .returned (.tuple #[.int .i64 (atV cs ss co f), .int .i64 (atE cs ss co f)]) ∧ Below w.heap.size w w' := by
  have hlc : cs.length = nc := by have := hC.1; rw [cells3_length] at this; omega
  have hls : ss.length = ns := by have := hS.1; simpa using this
  obtain ⟨x, hx⟩ : ∃ x, x = chk cs ss := ⟨_, rfl⟩
  have hcall : ∀ W, Below w.heap.size w W → Calls Tryd.prog 30 #[.agg #[.slice A nc cc, .slice C ns kc]] W fun e w' => e = .returned (.int .i64 x) ∧ Below W.heap.size W w' := fun W hW => by
    rw [hx]; exact check_any A C nc cc ns kc cs ss W (hC.up hW) (hS.up hW)
  have HCALL := Lib.hid hcall
  have HLC := Lib.hid hlc
  have HLS := Lib.hid hls
  have HX := Lib.hid hx
  obtain ⟨ae, hae⟩ : ∃ ae, ae = atE cs ss co f := ⟨_, rfl⟩
  obtain ⟨av, hav⟩ : ∃ av, av = atV cs ss co f := ⟨_, rfl⟩
  rw [← hae, ← hav]
  have HAE := Lib.hid hae
  have HAV := Lib.hid hav
  clear hcall hlc hls hx hae hav
  by_cases hx0 : x = 0
  · have hz := chk_zero (HX.out.symm.trans hx0)
    subst hx0
    obtain ⟨hz1, hz2, hz3, hz4⟩ := hz
    have HZ4 := Lib.hid hz4
    have hbd := stepsOk_bd 0 ss (Int.le_refl _) hz3
    have HBD := Lib.hid hbd
    have HCH := Lib.hid (show chk cs ss = 0 from HX.out.symm)
    rw [HLC.out] at hz1
    rw [HLS.out] at hz2
    clear hz3 hz4 hbd HX
    by_cases hco : co < 1 ∨ (nc : Int) < co
    · have h1 : ae = 12 := by rw [HAE.out, atE, if_neg (by rw [HCH.out]; decide), if_pos (by rw [HLC.out]; exact hco)]
      have h2 : av = 0 := by rw [HAV.out, atV, if_neg (by rw [← HAE.out, h1]; decide)]
      have H1 := Lib.hid h1
      have H2 := Lib.hid h2
      clear h1 h2 hC hS
      go_enter Tryd.func27, Tryd.ntmps27
      go_wp2_with (first | (go_at_call 30; refine (HCALL.out _ ?_).mono ?_; (repeat (first | exact Below.refl _ _ | assumption | refine below_drewN ?_ _ | refine Below.drew ?_ | refine Below.alloc ?_ (by first | exact Nat.le_refl _ | omega | (simp; done) | (simp; omega)) _ | refine Below.setCell ?_ (by first | exact Nat.le_refl _ | (simp; done) | (simp; omega)) _)); rintro e1 w1 ⟨rfl, hb3⟩; have hz9 := hb3.size; (try simp at hz9); have d0 := (bcell hb3).1 w.heap.size 0 (by simp; omega); have d1 := (bcell hb3).1 w.heap.size 1 (by simp; omega); have d2 := (bcell hb3).1 (w.heap.size + 1) 0 (by simp); have d3 := (bcell hb3).1 (w.heap.size + 1) 1 (by simp); simp [go_sem] at d0 d1 d2 d3))
      all_goals refine bodyPost_ret (v := .tuple #[.int .i64 0, .int .i64 12]) (by simp only [results, Tryd.results27]; go_simp) rfl ⟨by rw [H1.out, H2.out], ?_⟩
      all_goals exact (((Below.refl _ _).alloc (Nat.le_refl _) _).alloc (by simp) _).trans (hb3.mono (by simp; omega))
    · have hc1 : 1 ≤ co := by omega
      have hc2 : co ≤ nc := by omega
      clear hco
      obtain ⟨b, o, rfl, hbB, hp, hf, ho⟩ := hC.crs_at (k := co.toNat - 1) (by omega)
      obtain ⟨c, hcd⟩ : ∃ c, c = cs.getD (co.toNat - 1) default := ⟨_, rfl⟩
      have hce : crsE ss c = 0 := by
        rw [hcd, List.getD_eq_getElem?_getD, List.getElem?_eq_getElem (by rw [HLC.out]; omega)]
        exact HZ4.out _ (List.getElem_mem _)
      have hfit := crsE_fit hce
      rw [← hcd] at hp hf ho
      have h1 : ae = if f < 0 ∨ c.f < f then 13 else 0 := by
        rw [HAE.out, atE, if_neg (by rw [HCH.out]; decide), if_neg (by rw [HLC.out]; omega), ← hcd]
      have h2 : av = if ae = 0 then stopOf ss c.p f else 0 := by rw [HAV.out, atV, ← HAE.out, hcd]
      have H1 := Lib.hid h1
      have H2 := Lib.hid h2
      obtain ⟨p, cf, oc⟩ := c
      dsimp only at hp hf ho hfit
      obtain ⟨k1, k2, k3, k4, _⟩ := hfit
      rw [HLS.out] at k2
      clear h1 h2 hcd hce hC
      obtain ⟨k, hk⟩ : ∃ k : Nat, k = co.toNat - 1 := ⟨_, rfl⟩
      obtain rfl : co = k + 1 := by omega
      have hkn : k < nc := by omega
      rw [← hk] at hp hf ho
      clear hk hc1 hc2
      have hw : ∀ W : World, Below ((w.alloc (Obj.cells #[Value.slice (some ⟨b, o, none⟩) nc cc, Value.slice C ns kc] 39)).alloc (Obj.cells #[Value.int .i64 ((k : Int) + 1), Value.int .i64 f] 41)).heap.size ((w.alloc (Obj.cells #[Value.slice (some ⟨b, o, none⟩) nc cc, Value.slice C ns kc] 39)).alloc (Obj.cells #[Value.int .i64 ((k : Int) + 1), Value.int .i64 f] 41)) W →
          W.cell? ⟨b, o + k * 3, none⟩ = some (.int .i64 p) ∧ W.cell? ⟨b, o + k * 3 + 1, none⟩ = some (.int .i64 cf) ∧ W.cell? ⟨b, o + k * 3 + 2, none⟩ = some (.bool oc) := fun W hW => by
        have hW2 : Below w.heap.size w W := (((Below.refl _ _).alloc (Nat.le_refl _) _).alloc (by simp) _).trans (hW.mono (by simp; omega))
        exact ⟨((bcell hW2).1 _ _ hbB).trans hp, ((bcell hW2).1 _ _ hbB).trans hf, ((bcell hW2).1 _ _ hbB).trans ho⟩
      have HW := Lib.hid hw
      clear hw hp hf ho
      by_cases hff : f < 0 ∨ cf < f
      · have h1 : ae = 13 := by rw [H1.out]; exact if_pos hff
        have h2 : av = 0 := by rw [H2.out, h1]; rfl
        have HH1 := Lib.hid h1
        have HH2 := Lib.hid h2
        clear h1 h2 hS
        go_enter Tryd.func27, Tryd.ntmps27
        go_wp2_with (first | (go_at_call 30; refine (HCALL.out _ ?_).mono ?_; (repeat (first | exact Below.refl _ _ | assumption | refine below_drewN ?_ _ | refine Below.drew ?_ | refine Below.alloc ?_ (by first | exact Nat.le_refl _ | omega | (simp; done) | (simp; omega)) _ | refine Below.setCell ?_ (by first | exact Nat.le_refl _ | (simp; done) | (simp; omega)) _)); rintro e1 w1 ⟨rfl, hb3⟩; have hz9 := hb3.size; (try simp at hz9); have d0 := (bcell hb3).1 w.heap.size 0 (by simp; omega); have d1 := (bcell hb3).1 w.heap.size 1 (by simp; omega); have d2 := (bcell hb3).1 (w.heap.size + 1) 0 (by simp); have d3 := (bcell hb3).1 (w.heap.size + 1) 1 (by simp); simp [go_sem] at d0 d1 d2 d3; have l0 : w.heap.size < w1.heap.size := (by omega); have l1 : w.heap.size + 1 < w1.heap.size := (by omega); have q0 := (HW.out _ hb3).1; have q1 := (HW.out _ hb3).2.1; have q2 := (HW.out _ hb3).2.2))
        all_goals have hb4 : Below w.heap.size w w1 := (((Below.refl _ _).alloc (Nat.le_refl _) _).alloc (by simp) _).trans (hb3.mono (by simp; omega))
        all_goals refine bodyPost_ret (v := .tuple #[.int .i64 0, .int .i64 13]) (by simp only [results, Tryd.results27]; go_simp) rfl ⟨by rw [HH1.out, HH2.out], ?_⟩
        all_goals (repeat (first | exact Below.refl _ _ | assumption | refine below_drewN ?_ _ | refine Below.drew ?_ | refine Below.alloc ?_ (by first | exact Nat.le_refl _ | omega | (simp; done) | (simp; omega)) _ | refine Below.setCell ?_ (by first | exact Nat.le_refl _ | (simp; done) | (simp; omega)) _))
      · have hf0 : 0 ≤ f := by omega
        have hf1 : f ≤ cf := by omega
        have h1 : ae = 0 := by rw [H1.out]; exact if_neg hff
        have h2 : av = stopOf ss p f := by rw [H2.out, h1]; rfl
        obtain ⟨st, hst⟩ : ∃ st, st = stopOf ss p f := ⟨_, rfl⟩
        have hcall2 : ∀ W, Below w.heap.size w W → Calls Tryd.prog 67 #[.agg #[.slice (some ⟨b, o, none⟩) nc cc, .slice C ns kc], .agg #[.int .i64 p, .int .i64 cf, .bool oc], .int .i64 f] W fun e w' => e = .returned (.int .i64 st) ∧ Below W.heap.size W w' := fun W hW => by
          rw [hst]; exact stopped_any _ _ _ _ _ _ _ _ _ _ ss W (hS.up hW) HBD.out k3 k4 hf0 (by omega) (by omega)
        have HCALL2 := Lib.hid hcall2
        rw [← hst] at h2
        have HH1 := Lib.hid h1
        have HH2 := Lib.hid h2
        clear h1 h2 hS hff hst hcall2
        go_enter Tryd.func27, Tryd.ntmps27
        go_wp2_with (first | (go_at_call 30; refine (HCALL.out _ ?_).mono ?_; (repeat (first | exact Below.refl _ _ | assumption | refine below_drewN ?_ _ | refine Below.drew ?_ | refine Below.alloc ?_ (by first | exact Nat.le_refl _ | omega | (simp; done) | (simp; omega)) _ | refine Below.setCell ?_ (by first | exact Nat.le_refl _ | (simp; done) | (simp; omega)) _)); rintro e1 w1 ⟨rfl, hb3⟩; have hz9 := hb3.size; (try simp at hz9); have d0 := (bcell hb3).1 w.heap.size 0 (by simp; omega); have d1 := (bcell hb3).1 w.heap.size 1 (by simp; omega); have d2 := (bcell hb3).1 (w.heap.size + 1) 0 (by simp); have d3 := (bcell hb3).1 (w.heap.size + 1) 1 (by simp); simp [go_sem] at d0 d1 d2 d3; have l0 : w.heap.size < w1.heap.size := (by omega); have l1 : w.heap.size + 1 < w1.heap.size := (by omega); have q0 := (HW.out _ hb3).1; have q1 := (HW.out _ hb3).2.1; have q2 := (HW.out _ hb3).2.2; have hb4 : Below w.heap.size w w1 := (((Below.refl _ _).alloc (Nat.le_refl _) _).alloc (by simp) _).trans (hb3.mono (by simp; omega))) | (go_at_call 67; refine (HCALL2.out _ ?_).mono ?_; (repeat (first | exact Below.refl _ _ | assumption | refine below_drewN ?_ _ | refine Below.drew ?_ | refine Below.alloc ?_ (by first | exact Nat.le_refl _ | omega | (simp; done) | (simp; omega)) _ | refine Below.setCell ?_ (by first | exact Nat.le_refl _ | (simp; done) | (simp; omega)) _)); rintro e2 w2 ⟨rfl, hb5⟩))
        refine bodyPost_ret (v := .tuple #[.int .i64 st, .int .i64 0]) (by simp only [results, Tryd.results27]; go_simp) rfl ⟨by rw [HH1.out, HH2.out], ?_⟩
        refine Below.trans ?_ (hb5.mono (by have := hb4.size; simp; omega))
        (repeat (first | exact Below.refl _ _ | assumption | refine below_drewN ?_ _ | refine Below.drew ?_ | refine Below.alloc ?_ (by first | exact Nat.le_refl _ | omega | (simp; done) | (simp; omega)) _ | refine Below.setCell ?_ (by first | exact Nat.le_refl _ | (simp; done) | (simp; omega)) _))
  · have hb0 : (x == 0) = false := by simpa using hx0
    have h1 : ae = x := by rw [HAE.out, atE, ← HX.out, if_pos hx0]
    have h2 : av = 0 := by rw [HAV.out, atV, if_neg (by rw [← HAE.out, h1]; exact hx0)]
    have H1 := Lib.hid h1
    have H2 := Lib.hid h2
    clear h1 h2 hx0 hC hS
    go_enter Tryd.func27, Tryd.ntmps27
    go_wp2_with (first | (go_at_call 30; refine (HCALL.out _ ?_).mono ?_; (repeat (first | exact Below.refl _ _ | assumption | refine below_drewN ?_ _ | refine Below.drew ?_ | refine Below.alloc ?_ (by first | exact Nat.le_refl _ | omega | (simp; done) | (simp; omega)) _ | refine Below.setCell ?_ (by first | exact Nat.le_refl _ | (simp; done) | (simp; omega)) _)); rintro e1 w1 ⟨rfl, hb3⟩))
    refine bodyPost_ret (v := .tuple #[.int .i64 0, .int .i64 x]) (by simp only [results, Tryd.results27]; go_simp) rfl ⟨by rw [H1.out, H2.out], ?_⟩
    exact (((Below.refl _ _).alloc (Nat.le_refl _) _).alloc (by simp) _).trans (hb3.mono (by simp; omega))
end Go.Proofs.YtbdhjpdjbogggaaDoor
