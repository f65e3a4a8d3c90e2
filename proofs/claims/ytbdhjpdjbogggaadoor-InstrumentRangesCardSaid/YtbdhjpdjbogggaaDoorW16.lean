/- Walk: Places, whole. -/
import Derived.Test.YtbdhjpdjbogggaaDoorW15b
namespace Go.Proofs.YtbdhjpdjbogggaaDoor
open Go.RowKit

def plE (cs : List Crs) (ss : List Int) (r : Int) : Int := if chk cs ss ≠ 0 then chk cs ss else if r < 0 ∨ 127 < r then 10 else 0
def plV (cs : List Crs) (ss : List Int) (r : Int) : List (Nat × Nat) := if plE cs ss r = 0 then plTo cs ss r cs.length else []

set_option maxHeartbeats 4000000 in
theorem places_any (A C : Option Addr) (nc cc ns kc : Nat) (cs : List Crs) (ss : List Int) (r : Int) (w : World) (hC : Arr w w.heap.size 3 A nc (cells3 cs)) (hS : Arr w w.heap.size 1 C ns (ss.map (Value.int .i64))) :
    Calls Tryd.prog 40 #[.agg #[.slice A nc cc, .slice C ns kc], .int .i64 r] w (PlRet w (plV cs ss r) (plE cs ss r)) := by
  obtain ⟨x, hx⟩ : ∃ x, x = chk cs ss := ⟨_, rfl⟩
  by_cases hz : x = 0
  · by_cases hr : r < 0 ∨ 127 < r
    · have he : plE cs ss r = 10 := by rw [plE, if_neg (by rw [← hx, hz]; decide), if_pos hr]
      have hv : plV cs ss r = [] := by rw [plV, if_neg (by rw [he]; decide)]
      rw [he, hv]
      have hck : ∀ W, Kp w W → Calls Tryd.prog 30 #[.agg #[.slice A nc cc, .slice C ns kc]] W fun e w' => e = .returned (.int .i64 0) ∧ Below W.heap.size W w' := fun W hW => by
        have h := check_any A C nc cc ns kc cs ss W (hC.up hW) (hS.up hW)
        rw [← hx, hz] at h
        exact h
      have HCK := Lib.hid hck
      clear hck he hv hx hz hC hS
      by_cases hr0 : r < 0
      · clear hr
        go_enter Tryd.func40, Tryd.ntmps40
        go_wp2_with (go_at_call 30; refine (HCK.out _ ((Kp.refl w).alloc _)).mono ?_; rintro e1 w1 ⟨rfl, hb1⟩)
        refine bodyPost_ret (v := .tuple #[.slice none 0 0, .int .i64 10]) (by simp only [results, Tryd.results40]; go_simp) rfl ?_
        exact ⟨none, 0, 0, rfl, Arr.nil_ _ _, Kp.below hb1 ((Kp.refl w).alloc _)⟩
      · have hr1 : 127 < r := by omega
        have hr2 : 0 ≤ r := by omega
        clear hr hr0
        go_enter Tryd.func40, Tryd.ntmps40
        go_wp2_with (go_at_call 30; refine (HCK.out _ ((Kp.refl w).alloc _)).mono ?_; rintro e1 w1 ⟨rfl, hb1⟩)
        refine bodyPost_ret (v := .tuple #[.slice none 0 0, .int .i64 10]) (by simp only [results, Tryd.results40]; go_simp) rfl ?_
        exact ⟨none, 0, 0, rfl, Arr.nil_ _ _, Kp.below hb1 ((Kp.refl w).alloc _)⟩
    · have hlc : cs.length = nc := by have := hC.1; rw [cells3_length] at this; omega
      have he : plE cs ss r = 0 := by rw [plE, if_neg (by rw [← hx, hz]; decide), if_neg hr]
      have hv : plV cs ss r = plTo cs ss r nc := by rw [plV, if_pos he, hlc]
      rw [he, hv]
      exact places_main A C nc cc ns kc cs ss r w hC hS (by rw [← hx, hz]) (by omega) (by omega)
  · have he : plE cs ss r = x := by rw [plE, if_pos (by rw [← hx]; exact hz), hx]
    have hv : plV cs ss r = [] := by rw [plV, if_neg (by rw [he]; exact hz)]
    rw [he, hv]
    have hck : ∀ W, Kp w W → Calls Tryd.prog 30 #[.agg #[.slice A nc cc, .slice C ns kc]] W fun e w' => e = .returned (.int .i64 x) ∧ Below W.heap.size W w' := fun W hW => by
      rw [hx]; exact check_any A C nc cc ns kc cs ss W (hC.up hW) (hS.up hW)
    have HCK := Lib.hid hck
    have hne : (x == 0) = false := by simpa using hz
    clear hck he hv hx hz hC hS
    go_enter Tryd.func40, Tryd.ntmps40
    go_wp2_with (go_at_call 30; refine (HCK.out _ ((Kp.refl w).alloc _)).mono ?_; rintro e1 w1 ⟨rfl, hb1⟩)
    refine bodyPost_ret (v := .tuple #[.slice none 0 0, .int .i64 x]) (by simp only [results, Tryd.results40]; go_simp) rfl ?_
    exact ⟨none, 0, 0, rfl, Arr.nil_ _ _, Kp.below hb1 ((Kp.refl w).alloc _)⟩
end Go.Proofs.YtbdhjpdjbogggaaDoor
