/- Walks: Sounding, highest, stopped, own, Big. -/
import Derived.Test.YtbdhjpdjbogggaaDoorBase
namespace Go.Proofs.YtbdhjpdjbogggaaDoor
open Go.RowKit

theorem own_any (l a o : Int) (w : World) : Calls Tryd.prog 22 #[.agg #[.int .i64 l, .int .i64 a, .int .i64 o]] w fun e w' =>
    e = .returned (.agg #[.int .i64 l, .int .i64 a, .int .i64 o]) ∧ Below w.heap.size w w' := by
  go_enter Tryd.func22, Tryd.ntmps22
  go_wp2
  exact bodyPost_ret (v := .agg #[.int .i64 l, .int .i64 a, .int .i64 o]) (by simp [results, Tryd.results22, go_sem]) rfl ⟨rfl, (by repeat (first | exact Below.refl _ _ | assumption | refine below_drewN ?_ _ | refine Below.drew ?_ | refine Below.alloc ?_ (by first | exact Nat.le_refl _ | omega | (simp; done) | (simp; omega)) _ | refine Below.setCell ?_ (by first | exact Nat.le_refl _ | (simp; done) | (simp; omega)) _))⟩

theorem big_any (A C : Option Addr) (nc cc ns cs : Nat) (w : World) : Calls Tryd.prog 26 #[.agg #[.slice A nc cc, .slice C ns cs]] w fun e w' =>
    e = .returned (.bool (decide (64 < nc) || decide (64 < ns))) ∧ Below w.heap.size w w' := by
  go_enter Tryd.func26, Tryd.ntmps26
  go_wp2
  all_goals (go_ret; refine ⟨?_, (by repeat (first | exact Below.refl _ _ | assumption | refine below_drewN ?_ _ | refine Below.drew ?_ | refine Below.alloc ?_ (by first | exact Nat.le_refl _ | omega | (simp; done) | (simp; omega)) _ | refine Below.setCell ?_ (by first | exact Nat.le_refl _ | (simp; done) | (simp; omega)) _))⟩)
  · congr 2
    simp
    congr 1 <;> (congr 1; exact propext (by omega))
  · congr 2
    simp
    exact Or.inl (by omega)

theorem snd_bad {l a o : Int} (h : right l a o = false) : sndP l a o = 0 ∧ sndE l a o = 10 := by simp [sndP, sndE, h]
theorem snd_good {l a o : Int} (h : right l a o = true) : sndP l a o = pit l a o ∧ sndE l a o = 0 := by simp [sndP, sndE, h]

set_option maxHeartbeats 1000000 in
theorem sounding_in (l a o : Int) (w : World) (hg : Gnd w) (l0 : 0 ≤ l) (l6 : l ≤ 6) (a0 : -1 ≤ a) (a1 : a ≤ 1) (o0 : -1 ≤ o) (o1 : o ≤ 9) : Calls Tryd.prog 56 #[.agg #[.int .i64 l, .int .i64 a, .int .i64 o]] w fun e w' =>
    e = .returned (.tuple #[.int .i64 (sndP l a o), .int .i64 (sndE l a o)]) ∧ Below w.heap.size w w' := by
  have hc := hg.bas l0 l6
  have hsz := hg.sz
  have hbb := bas_bd l0 l6
  have hi : inb l a o = true := by simp [inb, *]
  clear hg
  obtain ⟨bl, hbl⟩ : ∃ bl, bl = bas l := ⟨_, rfl⟩
  rw [← hbl] at hc hbb
  have HB := Lib.hid hbl
  clear hbl
  have HI := Lib.hid hi
  clear hi
  have hca : ∀ x, (w.alloc x).cell? ⟨1, l.toNat, none⟩ = some (.int .i64 bl) := fun x => (World.cell?_alloc_lt w x ⟨1, l.toNat, none⟩ (by show 1 < w.heap.size; omega)).trans hc
  go_enter Tryd.func56, Tryd.ntmps56
  go_wp2
  go_quiet (fail)
  go_wp2
  all_goals (go_ret2; refine ⟨?_, (by repeat (first | exact Below.refl _ _ | assumption | refine below_drewN ?_ _ | refine Below.drew ?_ | refine Below.alloc ?_ (by first | exact Nat.le_refl _ | omega | (simp; done) | (simp; omega)) _ | refine Below.setCell ?_ (by first | exact Nat.le_refl _ | (simp; done) | (simp; omega)) _))⟩)
  · have hr : right l a o = false := by simp only [right, HI.out, pit, ← HB.out]; simp; omega
    rw [(snd_bad hr).1, (snd_bad hr).2]; rfl
  · have hr : right l a o = true := by simp only [right, HI.out, pit, ← HB.out]; simp; omega
    rw [(snd_good hr).1, (snd_good hr).2, pit, ← HB.out]; rfl
  · have hr : right l a o = false := by simp only [right, HI.out, pit, ← HB.out]; simp; omega
    rw [(snd_bad hr).1, (snd_bad hr).2]; rfl

theorem sounding_out (l a o : Int) (w : World) (h : inb l a o = false) : Calls Tryd.prog 56 #[.agg #[.int .i64 l, .int .i64 a, .int .i64 o]] w fun e w' =>
    e = .returned (.tuple #[.int .i64 (sndP l a o), .int .i64 (sndE l a o)]) ∧ Below w.heap.size w w' := by
  have hr : right l a o = false := by simp [right, h]
  rw [(snd_bad hr).1, (snd_bad hr).2]
  have h' : ¬ ((0 ≤ l ∧ l ≤ 6) ∧ (-1 ≤ a ∧ a ≤ 1) ∧ (-1 ≤ o ∧ o ≤ 9)) := by
    rintro ⟨⟨h1, h2⟩, ⟨h3, h4⟩, ⟨h5, h6⟩⟩
    simp [inb, *] at h
  clear h hr
  go_enter Tryd.func56, Tryd.ntmps56
  go_wp2
  all_goals (go_ret2; exact ⟨rfl, (by repeat (first | exact Below.refl _ _ | assumption | refine below_drewN ?_ _ | refine Below.drew ?_ | refine Below.alloc ?_ (by first | exact Nat.le_refl _ | omega | (simp; done) | (simp; omega)) _ | refine Below.setCell ?_ (by first | exact Nat.le_refl _ | (simp; done) | (simp; omega)) _))⟩)

theorem sounding_any (l a o : Int) (w : World) (hg : Gnd w) : Calls Tryd.prog 56 #[.agg #[.int .i64 l, .int .i64 a, .int .i64 o]] w fun e w' =>
    e = .returned (.tuple #[.int .i64 (sndP l a o), .int .i64 (sndE l a o)]) ∧ Below w.heap.size w w' := by
  by_cases h : inb l a o = true
  · have h' := h
    simp [inb] at h'
    obtain ⟨⟨⟨⟨⟨h1, h2⟩, h3⟩, h4⟩, h5⟩, h6⟩ := h'
    exact sounding_in l a o w hg h1 h2 h3 h4 h5 h6
  · exact sounding_out l a o w (by simpa using h)
end Go.Proofs.YtbdhjpdjbogggaaDoor
