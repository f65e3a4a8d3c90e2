/- Walks: highest, stopped, Check. -/
import Derived.Test.YtbdhjpdjbogggaaDoorBase
namespace Go.Proofs.YtbdhjpdjbogggaaDoor
open Go.RowKit

set_option maxHeartbeats 1000000 in
theorem highest_any (A C : Option Addr) (nc cc ns kc : Nat) (p f : Int) (o : Bool) (ss : List Int) (w : World) (hS : Arr w w.heap.size 1 C ns (ss.map (Value.int .i64)))
    (hs : ∀ s ∈ ss, 0 ≤ s ∧ s ≤ 127) (p0 : 0 ≤ p) (p1 : p ≤ 127) (_f0 : 0 ≤ f) (f1 : f ≤ ns) (hns : ns ≤ 100) :
    Calls Tryd.prog 69 #[.agg #[.slice A nc cc, .slice C ns kc], .agg #[.int .i64 p, .int .i64 f, .bool o]] w fun e w' =>
    e = .returned (.int .i64 (hiOf ss p f o)) ∧ Below w.heap.size w w' := by
  by_cases hf : 0 < f
  · obtain ⟨b, of, rfl, hb, hc⟩ := hS.int_at (k := f.toNat - 1) (by omega)
    have hl : f.toNat - 1 < ss.length := by have := hS.1; simp at this; omega
    have hsb := hs (ss.getD (f.toNat - 1) 0) (by rw [List.getD_eq_getElem?_getD, List.getElem?_eq_getElem hl]; exact List.getElem_mem hl)
    have hm : hiOf ss p f o = p + ss.getD (f.toNat - 1) 0 + (if o then 12 else 0) := by
      have e : (f - 1).toNat = f.toNat - 1 := by omega
      simp only [hiOf, hf, if_true, e]
    rw [hm]
    clear hm hl hs hS
    generalize ss.getD (f.toNat - 1) 0 = s at *
    cases o
    · go_enter Tryd.func69, Tryd.ntmps69
      go_wp2
      go_ret
      exact ⟨by simp, (by repeat (first | exact Below.refl _ _ | assumption | refine below_drewN ?_ _ | refine Below.drew ?_ | refine Below.alloc ?_ (by first | exact Nat.le_refl _ | omega | (simp; done) | (simp; omega)) _ | refine Below.setCell ?_ (by first | exact Nat.le_refl _ | (simp; done) | (simp; omega)) _))⟩
    · go_enter Tryd.func69, Tryd.ntmps69
      go_wp2
      go_ret
      exact ⟨by simp, (by repeat (first | exact Below.refl _ _ | assumption | refine below_drewN ?_ _ | refine Below.drew ?_ | refine Below.alloc ?_ (by first | exact Nat.le_refl _ | omega | (simp; done) | (simp; omega)) _ | refine Below.setCell ?_ (by first | exact Nat.le_refl _ | (simp; done) | (simp; omega)) _))⟩
  · have hm : hiOf ss p f o = p + (if o then 12 else 0) := by simp [hiOf, hf]
    rw [hm]
    clear hm hS
    cases o
    · go_enter Tryd.func69, Tryd.ntmps69
      go_wp2
      go_ret
      exact ⟨by simp, (by repeat (first | exact Below.refl _ _ | assumption | refine below_drewN ?_ _ | refine Below.drew ?_ | refine Below.alloc ?_ (by first | exact Nat.le_refl _ | omega | (simp; done) | (simp; omega)) _ | refine Below.setCell ?_ (by first | exact Nat.le_refl _ | (simp; done) | (simp; omega)) _))⟩
    · go_enter Tryd.func69, Tryd.ntmps69
      go_wp2
      go_ret
      exact ⟨by simp, (by repeat (first | exact Below.refl _ _ | assumption | refine below_drewN ?_ _ | refine Below.drew ?_ | refine Below.alloc ?_ (by first | exact Nat.le_refl _ | omega | (simp; done) | (simp; omega)) _ | refine Below.setCell ?_ (by first | exact Nat.le_refl _ | (simp; done) | (simp; omega)) _))⟩

set_option maxHeartbeats 1000000 in
theorem stopped_any (A C : Option Addr) (nc cc ns kc : Nat) (p f1 f : Int) (o : Bool) (ss : List Int) (w : World) (hS : Arr w w.heap.size 1 C ns (ss.map (Value.int .i64)))
    (hs : ∀ s ∈ ss, 0 ≤ s ∧ s ≤ 127) (p0 : 0 ≤ p) (p1 : p ≤ 127) (f0 : 0 ≤ f) (hfn : f ≤ ns) (hns : ns ≤ 100) :
    Calls Tryd.prog 67 #[.agg #[.slice A nc cc, .slice C ns kc], .agg #[.int .i64 p, .int .i64 f1, .bool o], .int .i64 f] w fun e w' =>
    e = .returned (.int .i64 (stopOf ss p f)) ∧ Below w.heap.size w w' := by
  by_cases hf : 0 < f
  · obtain ⟨b, of, rfl, hb, hc⟩ := hS.int_at (k := f.toNat - 1) (by omega)
    have hl : f.toNat - 1 < ss.length := by have := hS.1; simp at this; omega
    have hsb := hs (ss.getD (f.toNat - 1) 0) (by rw [List.getD_eq_getElem?_getD, List.getElem?_eq_getElem hl]; exact List.getElem_mem hl)
    have hm : stopOf ss p f = p + ss.getD (f.toNat - 1) 0 := by simp only [stopOf, hf, if_true]
    rw [hm]
    clear hm hl hs hS
    generalize ss.getD (f.toNat - 1) 0 = s at *
    have hz : (f == 0) = false := by simp; omega
    have h1 : (1 : Int) ≤ f := by omega
    have hq : f - 1 < (ns : Int) := by omega
    go_enter Tryd.func67, Tryd.ntmps67
    go_wp2
    go_quiet (fail)
    go_wp2
    go_ret
    exact ⟨by simp, (by repeat (first | exact Below.refl _ _ | assumption | refine below_drewN ?_ _ | refine Below.drew ?_ | refine Below.alloc ?_ (by first | exact Nat.le_refl _ | omega | (simp; done) | (simp; omega)) _ | refine Below.setCell ?_ (by first | exact Nat.le_refl _ | (simp; done) | (simp; omega)) _))⟩
  · obtain rfl : f = 0 := by omega
    have hm : stopOf ss p 0 = p := by simp [stopOf]
    rw [hm]
    clear hm hS
    go_enter Tryd.func67, Tryd.ntmps67
    go_wp2
    go_ret
    exact ⟨by simp, (by repeat (first | exact Below.refl _ _ | assumption | refine below_drewN ?_ _ | refine Below.drew ?_ | refine Below.alloc ?_ (by first | exact Nat.le_refl _ | omega | (simp; done) | (simp; omega)) _ | refine Below.setCell ?_ (by first | exact Nat.le_refl _ | (simp; done) | (simp; omega)) _))⟩
end Go.Proofs.YtbdhjpdjbogggaaDoor
