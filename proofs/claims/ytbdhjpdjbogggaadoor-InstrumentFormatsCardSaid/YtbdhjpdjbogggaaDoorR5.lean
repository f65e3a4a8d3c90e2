/- Walks of the reference: Sound, At. -/
import Derived.Test.YtbdhjpdjbogggaaDoorR4
import Derived.Test.YtbdhjpdjbogggaaDoorW12
namespace Go.Proofs.YtbdhjpdjbogggaaDoor
open Go.RowKit

set_option maxHeartbeats 2000000 in
theorem rsound_any (A C : Option Addr) (nc cc ns kc k : Nat) (cs : List Crs) (ss : List Int) (f p : Int) (w : World) (hC : Arr w w.heap.size 3 A nc (cells3 cs)) (hS : Arr w w.heap.size 1 C ns (ss.map (Value.int .i64)))
    (hk : k < nc) (hp : p = (cs.getD k default).p) (p0 : 0 ≤ p) (p1 : p ≤ 127) (hs : ∀ s ∈ ss, 0 ≤ s ∧ s ≤ 127) (f0 : 0 ≤ f) (f1 : f ≤ ns) (hnc : nc ≤ 100) (hns : ns ≤ 100) :
    Calls Tryd.prog 68 #[.agg #[.slice A nc cc, .slice C ns kc], .agg #[.int .i64 ((k : Int) + 1), .int .i64 f]] w fun e w' =>
    e = .returned (.int .i64 (stopOf ss p f)) ∧ Below w.heap.size w w' := by
  obtain ⟨b, o, rfl, hbB, hcp, _, _⟩ := hC.crs_at hk
  rw [← hp] at hcp
  clear hp hC
  by_cases hf : 0 < f
  · obtain ⟨b2, o2, rfl, hbB2, hc⟩ := hS.int_at (k := f.toNat - 1) (by omega)
    have hl : f.toNat - 1 < ss.length := by have := hS.1; simp at this; omega
    have hsb := hs (ss.getD (f.toNat - 1) 0) (by rw [List.getD_eq_getElem?_getD, List.getElem?_eq_getElem hl]; exact List.getElem_mem hl)
    have hm : stopOf ss p f = p + ss.getD (f.toNat - 1) 0 := by simp only [stopOf, hf, if_true]
    rw [hm]
    clear hm hl hs hS
    generalize ss.getD (f.toNat - 1) 0 = s at *
    go_enter Tryd.func68, Tryd.ntmps68
    go_wp2
    go_ret
    exact ⟨rfl, (by repeat (first | exact Below.refl _ _ | assumption | refine below_drewN ?_ _ | refine Below.drew ?_ | refine Below.alloc ?_ (by first | exact Nat.le_refl _ | omega | (simp; done) | (simp; omega)) _ | refine Below.setCell ?_ (by first | exact Nat.le_refl _ | (simp; done) | (simp; omega)) _))⟩
  · obtain rfl : f = 0 := by omega
    have hm : stopOf ss p 0 = p := by simp [stopOf]
    rw [hm]
    clear hm hS hs
    go_enter Tryd.func68, Tryd.ntmps68
    go_wp2
    go_ret
    exact ⟨rfl, (by repeat (first | exact Below.refl _ _ | assumption | refine below_drewN ?_ _ | refine Below.drew ?_ | refine Below.alloc ?_ (by first | exact Nat.le_refl _ | omega | (simp; done) | (simp; omega)) _ | refine Below.setCell ?_ (by first | exact Nat.le_refl _ | (simp; done) | (simp; omega)) _))⟩

set_option maxHeartbeats 8000000 in
theorem rat_any (A C : Option Addr) (nc cc ns kc : Nat) (cs : List Crs) (ss : List Int) (co f : Int) (w : World) (hC : Arr w w.heap.size 3 A nc (cells3 cs)) (hS : Arr w w.heap.size 1 C ns (ss.map (Value.int .i64))) :
    Calls Tryd.prog 29 #[.agg #[.slice A nc cc, .slice C ns kc], .agg #[.int .i64 co, .int .i64 f]] w fun e w' =>
    e = .returned (.tuple #[.int .i64 (atV cs ss co f), .int .i64 (atE cs ss co f)]) ∧ Below w.heap.size w w' := by
  have hlc : cs.length = nc := by have := hC.1; rw [cells3_length] at this; omega
  have hls : ss.length = ns := by have := hS.1; simpa using this
  obtain ⟨x, hx⟩ : ∃ x, x = chk cs ss := ⟨_, rfl⟩
  have hcall : ∀ W, Below w.heap.size w W → Calls Tryd.prog 31 #[.agg #[.slice A nc cc, .slice C ns kc]] W fun e w' => e = .returned (.int .i64 x) ∧ Below W.heap.size W w' := fun W hW => by
    rw [hx]; exact rcheck_any A C nc cc ns kc cs ss W (hC.up hW) (hS.up hW)
  have HCALL := Lib.hid hcall
  have HLC := Lib.hid hlc
  have HLS := Lib.hid hls
  have HX := Lib.hid hx
  obtain ⟨ae, hae⟩ : ∃ ae, ae = atE cs ss co f := ⟨_, rfl⟩
  obtain ⟨av, hav⟩ : ∃ av, av = atV cs ss co f := ⟨_, rfl⟩
  rw [← hae, ← hav]
  have HAE := Lib.hid hae
  have HAV := Lib.hid hav
  clear hcall hlc hls hx hae hav
  by_cases hx0 : x = 0
  · have hz := chk_zero (HX.out.symm.trans hx0)
    subst hx0
    obtain ⟨hz1, hz2, hz3, hz4⟩ := hz
    have HZ4 := Lib.hid hz4
    have hbd := stepsOk_bd 0 ss (Int.le_refl _) hz3
    have HBD := Lib.hid hbd
    have HCH := Lib.hid (show chk cs ss = 0 from HX.out.symm)
    rw [HLC.out] at hz1
    rw [HLS.out] at hz2
    clear hz3 hz4 hbd HX
    by_cases hco : co < 1 ∨ (nc : Int) < co
    · have h1 : ae = 12 := by rw [HAE.out, atE, if_neg (by rw [HCH.out]; decide), if_pos (by rw [HLC.out]; exact hco)]
      have h2 : av = 0 := by rw [HAV.out, atV, if_neg (by rw [← HAE.out, h1]; decide)]
      have H1 := Lib.hid h1
      have H2 := Lib.hid h2
      clear h1 h2 hC hS
      go_enter Tryd.func29, Tryd.ntmps29
      go_wp2_with (first | (go_at_call 31; refine (HCALL.out _ ?_).mono ?_; (repeat (first | exact Below.refl _ _ | assumption | refine below_drewN ?_ _ | refine Below.drew ?_ | refine Below.alloc ?_ (by first | exact Nat.le_refl _ | omega | (simp; done) | (simp; omega)) _ | refine Below.setCell ?_ (by first | exact Nat.le_refl _ | (simp; done) | (simp; omega)) _)); rintro e1 w1 ⟨rfl, hb3⟩; have hz9 := hb3.size; (try simp at hz9); have d0 := (bcell hb3).1 w.heap.size 0 (by simp; omega); have d1 := (bcell hb3).1 w.heap.size 1 (by simp; omega); have d2 := (bcell hb3).1 (w.heap.size + 1) 0 (by simp); have d3 := (bcell hb3).1 (w.heap.size + 1) 1 (by simp); simp [go_sem] at d0 d1 d2 d3))
      all_goals refine bodyPost_ret (v := .tuple #[.int .i64 0, .int .i64 12]) (by simp only [results, Tryd.results29]; go_simp) rfl ⟨by rw [H1.out, H2.out], ?_⟩
      all_goals exact (((Below.refl _ _).alloc (Nat.le_refl _) _).alloc (by simp) _).trans (hb3.mono (by simp; omega))
    · have hc1 : 1 ≤ co := by omega
      have hc2 : co ≤ nc := by omega
      clear hco
      obtain ⟨k, hk⟩ : ∃ k : Nat, k = co.toNat - 1 := ⟨_, rfl⟩
      obtain rfl : co = k + 1 := by omega
      have hkn : k < nc := by omega
      have hCs := hC
      obtain ⟨b, o, rfl, hbB, hp, hf, ho⟩ := hC.crs_at hkn
      obtain ⟨c, hcd⟩ : ∃ c, c = cs.getD k default := ⟨_, rfl⟩
      have hce : crsE ss c = 0 := by
        rw [hcd, List.getD_eq_getElem?_getD, List.getElem?_eq_getElem (by rw [HLC.out]; omega)]
        exact HZ4.out _ (List.getElem_mem _)
      have hfit := crsE_fit hce
      rw [← hcd] at hp hf ho
      have h1 : ae = if f < 0 ∨ c.f < f then 13 else 0 := by
        rw [HAE.out, atE, if_neg (by rw [HCH.out]; decide), if_neg (by rw [HLC.out]; omega), ← hk, ← hcd]
      have h2 : av = if ae = 0 then stopOf ss c.p f else 0 := by rw [HAV.out, atV, ← HAE.out, ← hk, hcd]
      have H1 := Lib.hid h1
      have H2 := Lib.hid h2
      have HP := Lib.hid (congrArg Crs.p hcd)
      obtain ⟨p, cf, oc⟩ := c
      dsimp only at hp hf ho hfit HP
      obtain ⟨k1, k2, k3, k4, _⟩ := hfit
      rw [HLS.out] at k2
      have HCS := Lib.hid hCs
      clear h1 h2 hcd hce hC hk hc1 hc2 hCs hp ho
      have hw : ∀ W : World, Below ((w.alloc (Obj.cells #[Value.slice (some ⟨b, o, none⟩) nc cc, Value.slice C ns kc] 39)).alloc (Obj.cells #[Value.int .i64 ((k : Int) + 1), Value.int .i64 f] 41)).heap.size ((w.alloc (Obj.cells #[Value.slice (some ⟨b, o, none⟩) nc cc, Value.slice C ns kc] 39)).alloc (Obj.cells #[Value.int .i64 ((k : Int) + 1), Value.int .i64 f] 41)) W →
          W.cell? ⟨b, o + k * 3 + 1, none⟩ = some (.int .i64 cf) := fun W hW => by
        have hW2 : Below w.heap.size w W := (((Below.refl _ _).alloc (Nat.le_refl _) _).alloc (by simp) _).trans (hW.mono (by simp; omega))
        exact ((bcell hW2).1 _ _ hbB).trans hf
      have HW := Lib.hid hw
      clear hw hf
      by_cases hff : f < 0 ∨ cf < f
      · have h1 : ae = 13 := by rw [H1.out]; exact if_pos hff
        have h2 : av = 0 := by rw [H2.out, h1]; rfl
        have HH1 := Lib.hid h1
        have HH2 := Lib.hid h2
        clear h1 h2 hS
        have hcs2 : decide (f < 0) = true ∨ (decide (f < 0) = false ∧ 0 ≤ f ∧ cf < f) := by
          by_cases h : f < 0
          · exact .inl (by simpa using h)
          · exact .inr ⟨by simpa using h, by omega, by omega⟩
        clear hff
        rcases hcs2 with hg1 | ⟨hg1, hg2, hg3⟩
        all_goals
          go_enter Tryd.func29, Tryd.ntmps29
          go_wp2_with (first | (go_at_call 31; refine (HCALL.out _ ?_).mono ?_; (repeat (first | exact Below.refl _ _ | assumption | refine below_drewN ?_ _ | refine Below.drew ?_ | refine Below.alloc ?_ (by first | exact Nat.le_refl _ | omega | (simp; done) | (simp; omega)) _ | refine Below.setCell ?_ (by first | exact Nat.le_refl _ | (simp; done) | (simp; omega)) _)); rintro e1 w1 ⟨rfl, hb3⟩; have hz9 := hb3.size; (try simp at hz9); have d0 := (bcell hb3).1 w.heap.size 0 (by simp; omega); have d1 := (bcell hb3).1 w.heap.size 1 (by simp; omega); have d2 := (bcell hb3).1 (w.heap.size + 1) 0 (by simp); have d3 := (bcell hb3).1 (w.heap.size + 1) 1 (by simp); simp [go_sem] at d0 d1 d2 d3; have q1 := HW.out _ hb3))
          go_quiet (fail)
          go_wp2
          have hb4 : Below w.heap.size w w1 := (((Below.refl _ _).alloc (Nat.le_refl _) _).alloc (by simp) _).trans (hb3.mono (by simp; omega))
          refine bodyPost_ret (v := .tuple #[.int .i64 0, .int .i64 13]) (by simp only [results, Tryd.results29]; go_simp) rfl ⟨by rw [HH1.out, HH2.out], ?_⟩
          (repeat (first | exact Below.refl _ _ | assumption | refine below_drewN ?_ _ | refine Below.drew ?_ | refine Below.alloc ?_ (by first | exact Nat.le_refl _ | omega | (simp; done) | (simp; omega)) _ | refine Below.setCell ?_ (by first | exact Nat.le_refl _ | (simp; done) | (simp; omega)) _))
      · have hf0 : 0 ≤ f := by omega
        have hf1 : f ≤ cf := by omega
        have h1 : ae = 0 := by rw [H1.out]; exact if_neg hff
        have h2 : av = stopOf ss p f := by rw [H2.out, h1]; rfl
        obtain ⟨st, hst⟩ : ∃ st, st = stopOf ss p f := ⟨_, rfl⟩
        have hcall2 : ∀ W, Below w.heap.size w W → Calls Tryd.prog 68 #[.agg #[.slice (some ⟨b, o, none⟩) nc cc, .slice C ns kc], .agg #[.int .i64 ((k : Int) + 1), .int .i64 f]] W fun e w' => e = .returned (.int .i64 st) ∧ Below W.heap.size W w' := fun W hW => by
          rw [hst]; exact rsound_any _ _ _ _ _ _ k cs ss _ p W (HCS.out.up hW) (hS.up hW) hkn HP.out k3 k4 HBD.out hf0 (by omega) (by omega) (by omega)
        have HCALL2 := Lib.hid hcall2
        rw [← hst] at h2
        have HH1 := Lib.hid h1
        have HH2 := Lib.hid h2
        have hg1 : decide (f < 0) = false := by simpa using hf0
        clear h1 h2 hS hff hst hcall2
        go_enter Tryd.func29, Tryd.ntmps29
        go_wp2_with (first | (go_at_call 31; refine (HCALL.out _ ?_).mono ?_; (repeat (first | exact Below.refl _ _ | assumption | refine below_drewN ?_ _ | refine Below.drew ?_ | refine Below.alloc ?_ (by first | exact Nat.le_refl _ | omega | (simp; done) | (simp; omega)) _ | refine Below.setCell ?_ (by first | exact Nat.le_refl _ | (simp; done) | (simp; omega)) _)); rintro e1 w1 ⟨rfl, hb3⟩; have hz9 := hb3.size; (try simp at hz9); have d0 := (bcell hb3).1 w.heap.size 0 (by simp; omega); have d1 := (bcell hb3).1 w.heap.size 1 (by simp; omega); have d2 := (bcell hb3).1 (w.heap.size + 1) 0 (by simp); have d3 := (bcell hb3).1 (w.heap.size + 1) 1 (by simp); simp [go_sem] at d0 d1 d2 d3; have q1 := HW.out _ hb3; have hb4 : Below w.heap.size w w1 := (((Below.refl _ _).alloc (Nat.le_refl _) _).alloc (by simp) _).trans (hb3.mono (by simp; omega))))
        go_quiet (fail)
        go_wp2_with (first | (go_at_call 68; refine (HCALL2.out _ ?_).mono ?_; (repeat (first | exact Below.refl _ _ | assumption | refine below_drewN ?_ _ | refine Below.drew ?_ | refine Below.alloc ?_ (by first | exact Nat.le_refl _ | omega | (simp; done) | (simp; omega)) _ | refine Below.setCell ?_ (by first | exact Nat.le_refl _ | (simp; done) | (simp; omega)) _)); rintro e2 w2 ⟨rfl, hb5⟩))
        refine bodyPost_ret (v := .tuple #[.int .i64 st, .int .i64 0]) (by simp only [results, Tryd.results29]; go_simp) rfl ⟨by rw [HH1.out, HH2.out], ?_⟩
        exact (below_drewN hb4 _).trans (hb5.mono hb4.size)
  · have hb0 : (x == 0) = false := by simpa using hx0
    have h1 : ae = x := by rw [HAE.out, atE, ← HX.out, if_pos hx0]
    have h2 : av = 0 := by rw [HAV.out, atV, if_neg (by rw [← HAE.out, h1]; exact hx0)]
    have H1 := Lib.hid h1
    have H2 := Lib.hid h2
    clear h1 h2 hx0 hC hS
    go_enter Tryd.func29, Tryd.ntmps29
    go_wp2_with (first | (go_at_call 31; refine (HCALL.out _ ?_).mono ?_; (repeat (first | exact Below.refl _ _ | assumption | refine below_drewN ?_ _ | refine Below.drew ?_ | refine Below.alloc ?_ (by first | exact Nat.le_refl _ | omega | (simp; done) | (simp; omega)) _ | refine Below.setCell ?_ (by first | exact Nat.le_refl _ | (simp; done) | (simp; omega)) _)); rintro e1 w1 ⟨rfl, hb3⟩))
    refine bodyPost_ret (v := .tuple #[.int .i64 0, .int .i64 x]) (by simp only [results, Tryd.results29]; go_simp) rfl ⟨by rw [H1.out, H2.out], ?_⟩
    exact (((Below.refl _ _).alloc (Nat.le_refl _) _).alloc (by simp) _).trans (hb3.mono (by simp; omega))
end Go.Proofs.YtbdhjpdjbogggaaDoor
