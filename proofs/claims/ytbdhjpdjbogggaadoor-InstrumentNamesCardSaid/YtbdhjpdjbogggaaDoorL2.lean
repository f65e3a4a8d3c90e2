/- The law InstrumentNames: the walk. -/
import Derived.Test.YtbdhjpdjbogggaaDoorW14
import Derived.Test.YtbdhjpdjbogggaaDoorR3
import Derived.Test.YtbdhjpdjbogggaaDoorKp
namespace Go.Proofs.YtbdhjpdjbogggaaDoor
open Go.RowKit

set_option maxHeartbeats 2000000 in
theorem names_any (s : ByteArray) (w : World) (hg : Gnd w) : Calls Tryd.prog 4 #[.string s] w fun e w' => e = .returned (.bool true) ∧ Below w.heap.size w w' := by
  by_cases hbig : 4096 < s.size
  · have hd : decide ((4096 : Int) < (s.size : Int)) = true := by simp; omega
    have hwk : ∀ W, Below w.heap.size w W → Calls Tryd.prog 23 #[] W fun e w' => e = .returned (.bool true) ∧ Below W.heap.size W w' := fun W hW => works_any W (hg.up hW)
    have HW := Lib.hid hwk
    clear hwk hg hbig
    go_enter Tryd.func4, Tryd.ntmps4
    go_wp2_with (go_at_call 23; refine (HW.out _ ?_).mono ?_; (repeat (first | exact Below.refl _ _ | assumption | refine below_drewN ?_ _ | refine Below.drew ?_ | refine Below.alloc ?_ (by first | exact Nat.le_refl _ | omega | (simp; done) | (simp; omega)) _ | refine Below.setCell ?_ (by first | exact Nat.le_refl _ | (simp; done) | (simp; omega)) _)); rintro e1 w1 ⟨rfl, hb1⟩)
    go_ret
    exact ⟨rfl, hb1⟩
  · have hd : decide ((4096 : Int) < (s.size : Int)) = false := by simp; omega
    obtain ⟨l, hl⟩ : ∃ l, l = (pnV s.data.toList).1 := ⟨_, rfl⟩
    obtain ⟨a, ha⟩ : ∃ a, a = (pnV s.data.toList).2.1 := ⟨_, rfl⟩
    obtain ⟨o, ho⟩ : ∃ o, o = (pnV s.data.toList).2.2 := ⟨_, rfl⟩
    obtain ⟨er, he⟩ : ∃ er, er = pnE s.data.toList := ⟨_, rfl⟩
    have hsp : ∀ W, Below w.heap.size w W → Calls Tryd.prog 24 #[.string s] W fun e w' => e = .returned (.tuple #[.agg #[.int .i64 l, .int .i64 a, .int .i64 o], .int .i64 er]) ∧ Below W.heap.size W w' := fun W hW => by
      rw [hl, ha, ho, he]
      exact parseName_any s W (hg.up hW)
    have hrs : ∀ W, Calls Tryd.prog 25 #[.string s] W fun e w' => e = .returned (.tuple #[.agg #[.int .i64 l, .int .i64 a, .int .i64 o], .int .i64 er]) ∧ Below W.heap.size W w' := fun W => by
      rw [hl, ha, ho, he]
      exact rparseName_any s W
    have HSP := Lib.hid hsp
    have HRS := Lib.hid hrs
    have HG := Lib.hid hg
    clear hsp hrs hg hbig hl ha ho he
    go_enter Tryd.func4, Tryd.ntmps4
    go_wp2_with fail
    refine (HSP.out _ (by repeat (first | exact Below.refl _ _ | assumption | refine below_drewN ?_ _ | refine Below.drew ?_ | refine Below.alloc ?_ (by first | exact Nat.le_refl _ | omega | (simp; done) | (simp; omega)) _ | refine Below.setCell ?_ (by first | exact Nat.le_refl _ | (simp; done) | (simp; omega)) _))).mono ?_
    rintro e1 w1 ⟨rfl, hb1⟩
    have hs1 := hb1.size
    go_wp2_with fail
    refine (HRS.out _).mono ?_
    rintro e2 w2 ⟨rfl, hb2⟩
    have hs2 := hb2.size
    have hbw2 : Below w.heap.size w w2 := (hb1.alloc hs1 _).trans (hb2.mono (by simp; omega))
    have hc2 := (bcell hb2).1
    go_wp2_with fail
    have hk2 : Kp w (w2.alloc (Obj.cells #[.int .i64 l, .int .i64 a, .int .i64 o] 27)) := hbw2.alloc hbw2.size _
    have e0 : (w2.alloc (Obj.cells #[.int .i64 l, .int .i64 a, .int .i64 o] 27)).cell? ⟨w2.heap.size, 0, none⟩ = some (.int .i64 l) := by simp [go_sem]
    have e1 : (w2.alloc (Obj.cells #[.int .i64 l, .int .i64 a, .int .i64 o] 27)).cell? ⟨w2.heap.size, 1, none⟩ = some (.int .i64 a) := by simp [go_sem]
    have e2 : (w2.alloc (Obj.cells #[.int .i64 l, .int .i64 a, .int .i64 o] 27)).cell? ⟨w2.heap.size, 2, none⟩ = some (.int .i64 o) := by simp [go_sem]
    have d : ∀ i u, (#[.int .i64 l, .int .i64 a, .int .i64 o] : Array Value)[i]? = some u → (w2.alloc (Obj.cells #[.int .i64 l, .int .i64 a, .int .i64 o] 27)).cell? ⟨w1.heap.size, i, none⟩ = some u := fun i u hu => by
      have hk := (Blk.new w1 23 #[.int .i64 l, .int .i64 a, .int .i64 o]).below hb2 (by simp)
      have hk' := hk.alloc (Obj.cells #[.int .i64 l, .int .i64 a, .int .i64 o] 27)
      rw [hk'.cell]; exact hu
    have d0 := d 0 _ rfl
    have d1 := d 1 _ rfl
    have d2 := d 2 _ rfl
    clear d hc2
    generalize w2.alloc (Obj.cells #[.int .i64 l, .int .i64 a, .int .i64 o] 27) = wx at *
    have hk0 := Kp.refl wx
    go_region_held3 (fun W => Kp wx W ∧ W.cell? ⟨w1.heap.size, 0, none⟩ = some (.int .i64 l) ∧ W.cell? ⟨w1.heap.size, 1, none⟩ = some (.int .i64 a) ∧ W.cell? ⟨w1.heap.size, 2, none⟩ = some (.int .i64 o) ∧
        W.cell? ⟨w2.heap.size, 0, none⟩ = some (.int .i64 l) ∧ W.cell? ⟨w2.heap.size, 1, none⟩ = some (.int .i64 a) ∧ W.cell? ⟨w2.heap.size, 2, none⟩ = some (.int .i64 o)) (go_keep)
      (first
        | (go_at_call 22; refine (own_any _ _ _ _).mono ?_; rintro e9 w9 ⟨rfl, hb9⟩; have hk9 := Kp.next (wx := wx) (by simp [*]) hb9; have g0 := hk9.cell d0; have g1 := hk9.cell d1; have g2 := hk9.cell d2; have g3 := hk9.cell e0; have g4 := hk9.cell e1; have g5 := hk9.cell e2)
        | (go_at_call 23; refine (works_any _ ?_).mono ?_; (focus (exact HG.out.up (Kp.below (wx := wx) (by simp [*]) hk2))); rintro e9 w9 ⟨rfl, hb9⟩; have hk9 := Kp.next (wx := wx) (by simp [*]) hb9; have g0 := hk9.cell d0; have g1 := hk9.cell d1; have g2 := hk9.cell d2; have g3 := hk9.cell e0; have g4 := hk9.cell e1; have g5 := hk9.cell e2))
    go_wp2
    go_ret
    exact ⟨rfl, Kp.below (wx := wx) (by simp [*]) hk2⟩
end Go.Proofs.YtbdhjpdjbogggaaDoor
