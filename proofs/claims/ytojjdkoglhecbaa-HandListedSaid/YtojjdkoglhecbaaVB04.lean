/- Fits of the reference says what fits of the program says. Functions of the program, as code on values by numbers: printed by a program from the program that was given, and held against it here. The places of a finger and the own cost of a grip, program and reference, on values. The own cost of a grip, program and reference, on values. Check of the reference, on values. Chords of the reference, on values. The own cost of a grip: the reference; Own, program and reference, on values. The cost of a step: the program, on values. Sequences of chords: the reference, on values. -/
import Derived.Test.YtojjdkoglhecbaaG0
import Derived.Test.YtojjdkoglhecbaaWk
import Derived.Test.YtojjdkoglhecbaaVB03
set_option linter.unusedSimpArgs false
set_option linter.unusedVariables false
namespace Go.Proofs.Ytojjdkoglhecbaa
open Go.RowKit
set_option linter.unusedSimpArgs false
set_option linter.unusedVariables false

/-- A grip that fits, as the reference has it. -/
structure RFit (h : Hand) (c : Chord) (g : Grip) : Prop where
  pos : 1 ≤ g.pos ∧ g.pos ≤ h.top
  len : g.fingers.length = c.down.length
  rch : ∀ i, i < c.down.length → rrchB h g.pos (g.fingers.getD i 0) (c.down.getD i (0, 0)).2 = true
  apt : ∀ i, i < c.down.length → ∀ k, k < i → AptP h c k i (g.fingers.getD k 0) (g.fingers.getD i 0)
theorem crs_lt {c : Chord} (hc : ChordOk c) {i : Nat} : ∀ {j : Nat}, i < j → j < c.down.length → (c.down.getD i (0, 0)).1 < (c.down.getD j (0, 0)).1
  | 0, h, _ => by omega
  | j + 1, h, hj => by
    have h1 := hc.rise j hj
    rcases Nat.lt_or_ge i j with h2 | h2
    · have := crs_lt hc h2 (by omega); omega
    · have : i = j := by omega
      subst this; exact h1
theorem rfit_iff {h : Hand} (hk : HandOk h) {c : Chord} (hc : ChordOk c) {g : Grip} : RFit h c g ↔ FitG h c g := by
  constructor
  · intro hr
    have hfin : ∀ i, i < c.down.length → (1 ≤ g.fingers.getD i 0 ∧ g.fingers.getD i 0 ≤ h.low.length) ∧ rchB h g.pos (g.fingers.getD i 0 - 1).toNat (c.down.getD i (0, 0)).2 = true := fun i hi => by
      have := hr.rch i hi
      rw [rrchB, Bool.and_eq_true, Bool.and_eq_true, decide_eq_true_eq, decide_eq_true_eq] at this
      exact this
    refine ⟨hr.pos, hr.len, fun i hi => (hfin i hi).1, fun i hi => (hfin i hi).2, fun i hi k hki => ?_, fun f hf => ?_⟩
    · obtain ⟨h1, h2, h3⟩ := hr.apt i hi k hki
      have h4 := crs_lt hc hki hi
      rw [agrB]
      split
      · rename_i h5; rw [decide_eq_true_eq]; exact h1 h5
      · split
        · rename_i h5; rw [decide_eq_true_eq]; exact h2 h5
        · rename_i h5 h6
          try rw [if_pos h4]
          rw [decide_eq_true_eq]
          by_cases e : g.fingers.getD k 0 = g.fingers.getD i 0
          · omega
          · have := (h3 (by omega)).1 e; omega
    · intro h1 h2
      obtain ⟨o1, o2, o3⟩ := lsF_ok h1
      have hlt : fsF g.fingers f < lsF g.fingers f := by omega
      have h4 := fsF_first h1
      have hb := hr.len
      obtain ⟨a1, a2, a3⟩ := hr.apt (lsF g.fingers f) (by omega) (fsF g.fingers f) hlt
      rw [h4, o3] at a1 a2 a3
      have heq : (c.down.getD (fsF g.fingers f) (0, 0)).2 = (c.down.getD (lsF g.fingers f) (0, 0)).2 := by
        rcases Int.lt_trichotomy (c.down.getD (fsF g.fingers f) (0, 0)).2 (c.down.getD (lsF g.fingers f) (0, 0)).2 with h5 | h5 | h5
        · have := a1 h5; omega
        · exact h5
        · have := a2 h5; omega
      obtain ⟨b1, b2, b3⟩ := (a3 heq).2 rfl
      rw [show (((f + 1 : Nat) : Int) - 1).toNat = f by omega] at b1
      exact ⟨b1, heq, b2, b3⟩
  · intro hs
    refine ⟨hs.pos, hs.len, fun i hi => ?_, fun i hi k hki => ?_⟩
    · rw [rrchB, decide_eq_true (hs.fin i hi).1, decide_eq_true (hs.fin i hi).2, hs.rch i hi]; rfl
    · have h1 := hs.agr i hi k hki
      have h4 := crs_lt hc hki hi
      rw [agrB] at h1
      refine ⟨fun h5 => ?_, fun h5 => ?_, fun h5 => ?_⟩
      · rw [if_pos h5, decide_eq_true_eq] at h1; exact h1
      · rw [if_neg (by omega), if_pos h5, decide_eq_true_eq] at h1; exact h1
      · rw [if_neg (by omega), if_neg (by omega), if_pos h4, decide_eq_true_eq] at h1
        refine ⟨fun hne => by omega, fun heq => ?_⟩
        have hfk := hs.fin k (by omega)
        have hlen := hs.len
        obtain ⟨f, hf⟩ : ∃ f : Nat, g.fingers.getD k 0 = ((f + 1 : Nat) : Int) := ⟨(g.fingers.getD k 0 - 1).toNat, by omega⟩
        have hfi : g.fingers.getD i 0 = ((f + 1 : Nat) : Int) := by omega
        have hfn : f < h.low.length := by omega
        have hfs : fsF g.fingers f < g.fingers.length := (gI_lt 0).2 ⟨k, by omega, by rw [hf]; simp⟩
        have hle : fsF g.fingers f ≤ k := by
          rcases Nat.lt_or_ge k (fsF g.fingers f) with h6 | h6
          · exact absurd hf (fsF_before h6)
          · exact h6
        have hge : i ≤ lsF g.fingers f := by
          rcases Nat.lt_or_ge (lsF g.fingers f) i with h6 | h6
          · exact absurd hfi (lastU_after (by omega) h6 (by omega))
          · exact h6
        obtain ⟨o1, o2, o3⟩ := lsF_ok hfs
        obtain ⟨b1, b2, b3, b4⟩ := hs.spn f hfn hfs (by omega)
        have same : ∀ a b, a < b → b < c.down.length → g.fingers.getD a 0 = g.fingers.getD b 0 → (c.down.getD a (0, 0)).2 = (c.down.getD b (0, 0)).2 := fun a b hab hb he => by
          have h7 := hs.agr b hb a hab
          rw [agrB] at h7
          rcases Int.lt_trichotomy (c.down.getD a (0, 0)).2 (c.down.getD b (0, 0)).2 with h8 | h8 | h8
          · rw [if_pos h8, decide_eq_true_eq] at h7; omega
          · exact h8
          · rw [if_neg (by omega), if_pos h8, decide_eq_true_eq] at h7; omega
        have e1 : (c.down.getD (fsF g.fingers f) (0, 0)).2 = (c.down.getD k (0, 0)).2 := by
          rcases Nat.lt_or_ge (fsF g.fingers f) k with h6 | h6
          · exact same _ _ h6 (by omega) ((fsF_first hfs).trans hf.symm)
          · rw [Nat.le_antisymm hle h6]
        have m1 : (c.down.getD (fsF g.fingers f) (0, 0)).1 ≤ (c.down.getD k (0, 0)).1 := by
          rcases Nat.lt_or_ge (fsF g.fingers f) k with h6 | h6
          · have := crs_lt hc h6 (by omega); omega
          · rw [Nat.le_antisymm hle h6]; omega
        have m2 : (c.down.getD i (0, 0)).1 ≤ (c.down.getD (lsF g.fingers f) (0, 0)).1 := by
          rcases Nat.lt_or_ge i (lsF g.fingers f) with h6 | h6
          · have := crs_lt hc h6 (by omega); omega
          · rw [Nat.le_antisymm hge h6]; omega
        rw [hf, show (((f + 1 : Nat) : Int) - 1).toNat = f by omega]
        refine ⟨b1, fun o ho hoo => b3 o ho ⟨by omega, by omega⟩, fun j h6 h7 h8 => b4 j (by omega) (by omega) (by omega)⟩

end Go.Proofs.Ytojjdkoglhecbaa
namespace Go.Proofs.Ytojjdkoglhecbaa
open Go.RowKit
set_option maxRecDepth 100000

abbrev c_hand_places_p1 : VC := (.ops 9 [oo 20 .mv [.t 6], oo 21 (.fldA 0) [.t 3], oo 22 .ld1 [.t 21], oo 23 .mv [.t 7], oo 24 (.ixA 2) [.t 22, .t 23], oo 25 (.ldA 2) [.t 24], oo 26 (.mksl 1 2 [li 0, li 0] [(0, 2)]) [.t 25], oo 27 (.app 92 2 16) [.t 20, .t 26], oo 6 .mv [.t 27]])
abbrev c_hand_places_p2 : VC := (.seq (.ops 0 [oo 17 .mv [.t 8], oo 18 .mv [.t 2], oo 19 (.bin .eql) [.t 17, .t 18]]) (.cond (.t 19) c_hand_places_p1 .skip))
abbrev c_hand_places_p3 : VC := (.ops 0 [oo 28 (.bin .add) [.t 12, kk 1], oo 12 .mv [.t 28]])
abbrev c_hand_places_p4 : VC := (.seq (.block 1 (.seq (.ops 0 [oo 14 .mv [.t 12], oo 15 (.ixA 1) [.t 10, .t 12], oo 16 .ld1 [.t 15], oo 7 .mv [.t 14], oo 8 .mv [.t 16]]) c_hand_places_p2)) c_hand_places_p3)
abbrev c_hand_places_p5 : VC := (.seq (.ops 0 [oo 13 (.bin .lss) [.t 12, .t 11]]) (.seq (.cond (.t 13) .skip (.exit 0)) c_hand_places_p4))
@[go_sem] abbrev w_hand_places_p5 : Nat := 536867264
abbrev c_hand_places_p7 : VC := (.seq (.ops 0 [oo 29 .mv [.t 6], oo 6 .mv [.t 29]]) .ret)
abbrev c_hand_places_p8 : VC := (.seq (.seq (.ops 0 [oo 9 (.fldA 1) [.t 4], oo 10 .ld1 [.t 9], oo 11 .len [.t 10], oo 12 .mv [kk 0]]) (.block 0 (.loop c_hand_places_p5))) c_hand_places_p7)
def c_hand_places : VC := (.seq (.ops 3 [oo 3 (.box 47) [.t 0], oo 4 (.box 53) [.t 1], oo 6 .mv [(.c (.sl 0 [] .exact))]]) c_hand_places_p8)
theorem k_hand_places : Comp Try.prog nobx gtab 117 30 c_hand_places [.t 6] := ⟨⟨Try.f117, _, Try.func117, rfl, rfl, kr, kr⟩⟩
abbrev c_hand_own_p1 : VC := (.ops 0 [oo 27 .mv [.t 7], oo 28 (.fldA 7) [.t 3], oo 29 .ld1 [.t 28], oo 30 (.bin .add) [.t 27, .t 29], oo 7 .mv [.t 30]])
abbrev c_hand_own_p2 : VC := (.ops 0 [oo 31 .mv [.t 7], oo 32 (.fldA 8) [.t 3], od 33 .ld1 [.t 32] [1], oo 34 .mv [.t 9], oo 35 (.ixA 2) [.t 34, kk 0], oo 36 (.fldA 1) [.t 35], od 37 .ld1 [.t 36] [3, 4, 5], oo 38 (.fldA 0) [.t 5], od 39 .ld1 [.t 38] [7], oo 40 .mv [.t 8], oo 41 (.bin .add) [.t 39, .t 40], oo 42 (.bin .sub) [.t 41, kk 1], od 43 (.call 118) [.t 37, .t 42] [3, 4, 5, 6, 7, 8, 9, 10, 11], oo 44 (.bin .mul) [.t 33, .t 43], oo 45 (.bin .add) [.t 31, .t 44], oo 7 .mv [.t 45]])
abbrev c_hand_own_p3 : VC := (.seq (.seq (.ops 0 [oo 24 .mv [.t 9], oo 25 .len [.t 24], oo 26 (.bin .gtr) [.t 25, kk 1]]) (.cond (.t 26) c_hand_own_p1 .skip)) c_hand_own_p2)
abbrev c_hand_own_p4 : VC := (.seq (.seq (.ops 0 [oo 21 .mv [.t 9], oo 22 .len [.t 21], oo 23 (.bin .eql) [.t 22, kk 0]]) (.cond (.t 23) (.exit 1) .skip)) c_hand_own_p3)
abbrev c_hand_own_p5 : VC := (.ops 0 [oo 15 .mv [.t 8], oo 16 (.bin .add) [.t 15, kk 1], oo 8 .mv [.t 16]])
abbrev c_hand_own_p6 : VC := (.seq (.block 1 (.seq (.ops 0 [oo 17 (.ldA 3) [.t 4], oo 18 (.ldA 2) [.t 5], oo 19 .mv [.t 8], oo 20 (.call 117) [.t 17, .t 18, .t 19], oo 9 .mv [.t 20]]) c_hand_own_p4)) c_hand_own_p5)
abbrev c_hand_own_p7 : VC := (.seq (.seq (.ops 0 [oo 10 .mv [.t 8], oo 11 (.fldA 0) [.t 3], oo 12 .ld1 [.t 11], oo 13 .len [.t 12], oo 14 (.bin .leq) [.t 10, .t 13]]) (.cond (.t 14) .skip (.exit 0))) c_hand_own_p6)
@[go_sem] abbrev w_hand_own_p7 : Nat := 70368744177536
abbrev c_hand_own_p9 : VC := (.seq (.ops 0 [oo 46 .mv [.t 7], oo 6 .mv [.t 46]]) .ret)
abbrev c_hand_own_p10 : VC := (.seq (.seq (.ops 0 [oo 8 .mv [kk 1]]) (.block 0 (.loop c_hand_own_p7))) c_hand_own_p9)
abbrev c_hand_own_p11 : VC := (.seq (.ops 0 [oo 7 .mv [kk 0]]) c_hand_own_p10)
def c_hand_own : VC := (.seq (.ops 4 [oo 3 (.box 25) [.t 0], oo 4 (.box 47) [.t 1], oo 5 (.box 53) [.t 2], oo 6 .mv [kk 0]]) c_hand_own_p11)
theorem k_hand_own : Comp Try.prog nobx gtab 81 47 c_hand_own [.t 6] := ⟨⟨Try.f81, _, Try.func81, rfl, rfl, kr, kr⟩⟩
abbrev c_hand_distance_p1 : VC := (.seq (.ops 0 [oo 5 .mv [.t 0], oo 6 .mv [.t 1], oo 7 (.bin .sub) [.t 5, .t 6], oo 8 .mv [.t 1], oo 9 .mv [.t 0], oo 10 (.bin .sub) [.t 8, .t 9], oo 11 .mx [.t 7, .t 10], oo 4 .mv [.t 11]]) .ret)
def c_hand_distance : VC := (.seq (.ops 0 [oo 4 .mv [kk 0]]) c_hand_distance_p1)
theorem k_hand_distance : Comp Try.prog nobx gtab 118 12 c_hand_distance [.t 4] := ⟨⟨Try.f118, _, Try.func118, rfl, rfl, kr, kr⟩⟩
abbrev c_hand_step_p1 : VC := (.seq (.ops 0 [oo 10 .mv [kk 0], oo 11 .mv [(.c (.lit (.bool false)))]]) .ret)
abbrev c_hand_step_p2 : VC := (.seq (.ops 0 [oo 27 (.fldA 1) [.t 7], od 28 .ld1 [.t 27] [0], od 29 (.ldA 3) [.t 6] [], oo 30 .mv [.t 13], od 31 (.call 100) [.t 29, .t 30] [2, 3], oo 32 (.ixA 1) [.t 28, .t 31], od 33 .ld1 [.t 32] [0, 1, 2, 3, 4, 5], oo 34 (.fldA 1) [.t 9], od 35 .ld1 [.t 34] [7], od 36 (.ldA 3) [.t 8] [], oo 37 .mv [.t 13], od 38 (.call 100) [.t 36, .t 37] [2, 3, 4, 9, 10], oo 39 (.ixA 1) [.t 35, .t 38], od 40 .ld1 [.t 39] [2, 3, 4, 7, 8, 9, 10, 11, 12], oo 41 (.bin .neq) [.t 33, .t 40]]) (.cond (.t 41) c_hand_step_p1 .skip))
abbrev c_hand_step_p3 : VC := (.ops 0 [oo 42 (.bin .add) [.t 23, kk 1], oo 23 .mv [.t 42]])
abbrev c_hand_step_p4 : VC := (.seq (.block 1 (.seq (.ops 0 [oo 25 (.ixA 1) [.t 21, .t 23], oo 26 .ld1 [.t 25], oo 13 .mv [.t 26]]) c_hand_step_p2)) c_hand_step_p3)
abbrev c_hand_step_p5 : VC := (.seq (.ops 0 [oo 24 (.bin .lss) [.t 23, .t 22]]) (.seq (.cond (.t 24) .skip (.exit 0)) c_hand_step_p4))
@[go_sem] abbrev w_hand_step_p5 : Nat := 8796084644864
abbrev c_hand_step_p7 : VC := (.seq (.ops 0 [oo 10 .mv [kk 0], oo 11 .mv [(.c (.lit (.bool false)))]]) .ret)
abbrev c_hand_step_p8 : VC := (.ops 0 [oo 74 .mv [.t 16], oo 75 (.fldA 6) [.t 5], oo 76 .ld1 [.t 75], oo 77 (.bin .add) [.t 74, .t 76], oo 16 .mv [.t 77]])
abbrev c_hand_step_p9 : VC := (.ops 0 [oo 110 .mv [.t 16], oo 111 (.fldA 9) [.t 5], oo 112 .ld1 [.t 111], oo 113 (.bin .add) [.t 110, .t 112], oo 16 .mv [.t 113]])
abbrev c_hand_step_p10 : VC := (.seq (.ops 0 [oo 96 .mv [.t 18], oo 97 .len [.t 96], oo 98 (.bin .gtr) [.t 97, kk 0], oo 99 .mv [.t 98], og 100 99 true .ld1 [.t 19], og 101 99 true .len [.t 100], og 102 99 true (.bin .gtr) [.t 101, kk 0], oo 103 .pick [.t 99, .t 102, (.c (.lit (.bool false)))], oo 104 .mv [.t 103], og 105 104 true .mv [.t 18], og 106 104 true (.mkfn 121) [.t 19], og 107 104 true (.call 120) [.t 105, .t 106], og 108 104 true (.un .not) [.t 107], oo 109 .pick [.t 104, .t 108, (.c (.lit (.bool false)))]]) (.cond (.t 109) c_hand_step_p9 .skip))
abbrev c_hand_step_p11 : VC := (.ops 0 [oo 86 .mv [.t 17], oo 87 (.bin .add) [.t 86, kk 1], oo 17 .mv [.t 87]])
abbrev c_hand_step_p12 : VC := (.seq (.block 3 (.seq (.ops 11 [od 88 (.ldA 3) [.t 6] [], od 89 (.ldA 2) [.t 7] [], oo 90 .mv [.t 17], od 91 (.call 117) [.t 88, .t 89, .t 90] [0, 1, 2], od 92 (.ldA 3) [.t 8] [], od 93 (.ldA 2) [.t 9] [], oo 94 .mv [.t 17], od 95 (.call 117) [.t 92, .t 93, .t 94] [0, 1, 2, 3, 4, 5, 6], ⟨(some 19), none, (.alloc 45 [(.sl 0 [] .exact)]), [], (some [])⟩, oo 18 .mv [.t 91], ⟨none, none, (.st 1), [.t 19, .t 95], none⟩]) c_hand_step_p10)) c_hand_step_p11)
abbrev c_hand_step_p13 : VC := (.seq (.seq (.ops 0 [oo 78 .mv [.t 17], oo 79 (.fldA 0) [.t 5], oo 80 .ld1 [.t 79], oo 81 .len [.t 80], oo 82 (.bin .leq) [.t 78, .t 81], oo 83 .mv [.t 82], og 84 83 true .mv [.t 15], oo 85 .pick [.t 83, .t 84, (.c (.lit (.bool false)))]]) (.cond (.t 85) .skip (.exit 2))) c_hand_step_p12)
@[go_sem] abbrev w_hand_step_p13 : Nat := 20769187433837079059218328024186880
abbrev c_hand_step_p15 : VC := (.seq (.ops 0 [oo 114 .mv [.t 16], oo 10 .mv [.t 114], oo 11 .mv [(.c (.lit (.bool true)))]]) .ret)
abbrev c_hand_step_p16 : VC := (.seq (.seq (.ops 0 [oo 17 .mv [kk 1]]) (.block 2 (.loop c_hand_step_p13))) c_hand_step_p15)
abbrev c_hand_step_p17 : VC := (.seq (.seq (.ops 0 [oo 69 .mv [.t 15], oo 70 .mv [.t 69], og 71 70 true .mv [.t 14], og 72 70 true (.bin .gtr) [.t 71, kk 0], oo 73 .pick [.t 70, .t 72, (.c (.lit (.bool false)))]]) (.cond (.t 73) c_hand_step_p8 .skip)) c_hand_step_p16)
abbrev c_hand_step_p18 : VC := (.seq (.ops 0 [oo 65 (.fldA 5) [.t 5], oo 66 .ld1 [.t 65], oo 67 .mv [.t 14], oo 68 (.bin .mul) [.t 66, .t 67], oo 16 .mv [.t 68]]) c_hand_step_p17)
abbrev c_hand_step_p19 : VC := (.seq (.seq (.ops 0 [oo 58 .mv [.t 15], oo 59 .mv [.t 58], og 60 59 true .mv [.t 14], og 61 59 true (.fldA 4) [.t 5], og 62 59 true .ld1 [.t 61], og 63 59 true (.bin .gtr) [.t 60, .t 62], oo 64 .pick [.t 59, .t 63, (.c (.lit (.bool false)))]]) (.cond (.t 64) c_hand_step_p7 .skip)) c_hand_step_p18)
abbrev c_hand_step_p20 : VC := (.seq (.ops 0 [oo 48 (.fldA 0) [.t 6], oo 49 .ld1 [.t 48], oo 50 .len [.t 49], oo 51 (.bin .gtr) [.t 50, kk 0], oo 52 .mv [.t 51], og 53 52 true (.fldA 0) [.t 8], og 54 52 true .ld1 [.t 53], og 55 52 true .len [.t 54], og 56 52 true (.bin .gtr) [.t 55, kk 0], oo 57 .pick [.t 52, .t 56, (.c (.lit (.bool false)))], oo 15 .mv [.t 57]]) c_hand_step_p19)
abbrev c_hand_step_p21 : VC := (.seq (.ops 0 [oo 43 (.fldA 0) [.t 7], oo 44 .ld1 [.t 43], oo 45 (.fldA 0) [.t 9], oo 46 .ld1 [.t 45], oo 47 (.call 118) [.t 44, .t 46], oo 14 .mv [.t 47]]) c_hand_step_p20)
abbrev c_hand_step_p22 : VC := (.seq (.seq (.ops 0 [oo 20 (.fldA 1) [.t 8], oo 21 .ld1 [.t 20], oo 22 .len [.t 21], oo 23 .mv [kk 0]]) (.block 0 (.loop c_hand_step_p5))) c_hand_step_p21)
def c_hand_step : VC := (.seq (.ops 7 [oo 5 (.box 25) [.t 0], oo 6 (.box 47) [.t 1], oo 7 (.box 53) [.t 2], oo 8 (.box 47) [.t 3], oo 9 (.box 53) [.t 4], oo 10 .mv [kk 0], oo 11 .mv [(.c (.lit (.bool false)))]]) c_hand_step_p22)
theorem k_hand_step : Comp Try.prog nobx gtab 83 115 c_hand_step [.t 10, .t 11] := ⟨⟨Try.f83, _, Try.func83, rfl, rfl, kr, kr⟩⟩
abbrev c_hand_step_1_p1 : VC := (.seq (.ops 0 [oo 4 .ld1 [.t 1], oo 5 (.ldA 2) [.t 2], oo 6 (.call 122) [.t 4, .t 5], oo 3 .mv [.t 6]]) .ret)
def c_hand_step_1 : VC := (.seq (.ops 2 [oo 2 (.box 92) [.t 0], oo 3 .mv [(.c (.lit (.bool false)))]]) c_hand_step_1_p1)
theorem k_hand_step_1 : Comp Try.prog nobx gtab 121 7 c_hand_step_1 [.t 3] := ⟨⟨Try.f121, _, Try.func121, rfl, rfl, kr, kr⟩⟩
abbrev c_slices_Contains_api_Place_api_Place_p1 : VC := (.seq (.ops 0 [oo 5 .mv [.t 0], oo 6 (.ldA 2) [.t 3], oo 7 (.call 136) [.t 5, .t 6], oo 8 (.bin .geq) [.t 7, kk 0], oo 4 .mv [.t 8]]) .ret)
def c_slices_Contains_api_Place_api_Place : VC := (.seq (.ops 2 [oo 3 (.box 92) [.t 1], oo 4 .mv [(.c (.lit (.bool false)))]]) c_slices_Contains_api_Place_api_Place_p1)
theorem k_slices_Contains_api_Place_api_Place : Comp Try.prog nobx gtab 122 9 c_slices_Contains_api_Place_api_Place [.t 4] := ⟨⟨Try.f122, _, Try.func122, rfl, rfl, kr, kr⟩⟩
abbrev c_slices_Index_api_Place_api_Place_p1 : VC := (.seq (.ops 0 [oo 17 .mv [.t 5], oo 4 .mv [.t 17]]) .ret)
abbrev c_slices_Index_api_Place_api_Place_p2 : VC := (.seq (.ops 0 [od 11 (.ldA 2) [.t 3] [], oo 12 .mv [.t 0], oo 13 .mv [.t 5], oo 14 (.ixA 2) [.t 12, .t 13], od 15 (.ldA 2) [.t 14] [1, 2, 3], oo 16 (.eqP [(0, 0), (1, 0)] false) [.t 11, .t 15]]) (.cond (.t 16) c_slices_Index_api_Place_api_Place_p1 .skip))
abbrev c_slices_Index_api_Place_api_Place_p3 : VC := (.ops 0 [oo 18 (.bin .add) [.t 8, kk 1], oo 8 .mv [.t 18]])
abbrev c_slices_Index_api_Place_api_Place_p4 : VC := (.seq (.block 1 (.seq (.ops 0 [oo 10 .mv [.t 8], oo 5 .mv [.t 10]]) c_slices_Index_api_Place_api_Place_p2)) c_slices_Index_api_Place_api_Place_p3)
abbrev c_slices_Index_api_Place_api_Place_p5 : VC := (.seq (.cond (.t 9) .skip (.exit 0)) c_slices_Index_api_Place_api_Place_p4)
abbrev c_slices_Index_api_Place_api_Place_p6 : VC := (.seq (.ops 0 [oo 9 (.bin .lss) [.t 8, .t 7]]) c_slices_Index_api_Place_api_Place_p5)
@[go_sem] abbrev w_slices_Index_api_Place_api_Place_p6 : Nat := 524080
abbrev c_slices_Index_api_Place_api_Place_p8 : VC := (.seq (.ops 0 [oo 4 .mv [kk (-1)]]) .ret)
abbrev c_slices_Index_api_Place_api_Place_p9 : VC := (.seq (.seq (.ops 0 [oo 6 .mv [.t 0], oo 7 .len [.t 6], oo 8 .mv [kk 0]]) (.block 0 (.loop c_slices_Index_api_Place_api_Place_p6))) c_slices_Index_api_Place_api_Place_p8)
def c_slices_Index_api_Place_api_Place : VC := (.seq (.ops 2 [oo 3 (.box 92) [.t 1], oo 4 .mv [kk 0]]) c_slices_Index_api_Place_api_Place_p9)
theorem k_slices_Index_api_Place_api_Place : Comp Try.prog nobx gtab 136 19 c_slices_Index_api_Place_api_Place [.t 4] := ⟨⟨Try.f136, _, Try.func136, rfl, rfl, kr, kr⟩⟩
end Go.Proofs.Ytojjdkoglhecbaa
namespace Go.Proofs.Ytojjdkoglhecbaa
open Go.RowKit
set_option linter.unusedSimpArgs false
set_option linter.unusedVariables false

/-- The places of a finger among the first k. -/
def plU (d : List (Int × Int)) (fg : List Int) (v : Int) : Nat → List (Int × Int)
  | 0 => []
  | k + 1 => if fg.getD k 0 = v then plU d fg v k ++ [d.getD k (0, 0)] else plU d fg v k
theorem plU_len (d : List (Int × Int)) (fg : List Int) (v : Int) : ∀ k, (plU d fg v k).length ≤ k
  | 0 => Nat.le_refl _
  | k + 1 => by
    have := plU_len d fg v k
    rw [plU]
    split
    · rw [List.length_append]; simp; omega
    · omega
theorem plU_mem {d : List (Int × Int)} {fg : List Int} {v : Int} {p : Int × Int} : ∀ {k}, p ∈ plU d fg v k → ∃ i, i < k ∧ fg.getD i 0 = v ∧ d.getD i (0, 0) = p
  | 0, h => by cases h
  | k + 1, h => by
    rw [plU] at h
    split at h
    · rename_i hk
      rcases List.mem_append.1 h with h | h
      · obtain ⟨i, h1, h2⟩ := plU_mem h; exact ⟨i, by omega, h2⟩
      · rw [List.mem_singleton] at h; exact ⟨k, Nat.lt_succ_self k, hk, h.symm⟩
    · obtain ⟨i, h1, h2⟩ := plU_mem h; exact ⟨i, by omega, h2⟩
theorem pls_snoc (l : List (Int × Int)) (p : Int × Int) : (l ++ [p]).flatMap plE = l.flatMap plE ++ [V.lit (.int .i64 p.1), V.lit (.int .i64 p.2)] := by
  rw [List.flatMap_append]; rfl

set_option maxHeartbeats 1000000 in
theorem places_fn (c : Chord) (hf : FitC c) (g : Grip) (hl : g.fingers.length = c.down.length) (v : Int) : Fn Try.prog Gd 117 [c.val, g.val, vint v] (tPs (plU c.down g.fingers v c.down.length)) := by
  refine Fn.of_vx0 k_hand_places (by simp) (by rw [V.pures, pure_chord, V.pures, pure_grip]; rfl) ?_
  have hb1 := hf.1
  unfold c_hand_places Chord.val Chord.cells Grip.val Grip.cells
  replace hl := Hid.mk hl
  repeat' (with_reducible first | refine x_ops ?_ | refine wk ?_ | ((first | refine gd1 ?_ ?_ | refine gd2 ?_ ?_ | refine gd3 ?_ ?_) <;> (first | exact @False.elim _ | intro hc)))
  refine x_loopW w_hand_places_p5 (by kernel_rfl) c.down.length (fun k t m => t 12 = vint (k : Int) ∧ (∃ tok, t 6 = .sl (plU c.down g.fingers v k).length ((plU c.down g.fingers v k).flatMap plE) tok ∧ Apb m tok (plU c.down g.fingers v k).length 92 2) ∧
    m.obj 0 = some (.box [tPs c.down, tIs c.held, tIs c.opn] 47) ∧ 0 < m.next) ?_ ?_
  · exact ⟨vv, ⟨.exact, vv, .inl rfl⟩, vv, by ((refine ve ?_; try exact True.intro)); try omega⟩
  rintro k t m hk ⟨h12, ⟨tok, h6, hap⟩, hm, hn⟩
  by_cases hlt : k < c.down.length
  · have g1 := ints_at (l := g.fingers) (k := k) (by rw [hl.out]; exact hlt)
    have g2 := pls_take hlt
    have g3 := pls_len c.down
    have c1 : (k : Int) < (g.fingers.length : Int) := by rw [hl.out]; omega
    have c2 : (k : Int) < (c.down.length : Int) := by omega
    have c3 : k * 2 + 2 ≤ c.down.length * 2 := by omega
    have w2 := w_add1 (k := k) (by omega)
    have hpl := plU_len c.down g.fingers v k
    have hplU : plU c.down g.fingers v (k + 1) = if g.fingers.getD k 0 = v then plU c.down g.fingers v k ++ [c.down.getD k (0, 0)] else plU c.down g.fingers v k := by rw [plU]
    replace hplU := Hid.mk hplU
    repeat' (with_reducible first | refine x_ops ?_ | refine wk ?_ | ((first | refine gd1 ?_ ?_ | refine gd2 ?_ ?_ | refine gd3 ?_ ?_) <;> (first | exact @False.elim _ | intro hc)))
    · refine x_appb (xs := (plU c.down g.fingers v k).flatMap plE) (ys := [vint (c.down.getD k (0, 0)).1, vint (c.down.getD k (0, 0)).2]) vw vw (hap.mono (fun _ _ _ => rfl) (Nat.le_add_right _ _)) (pls_len _) rfl (by omega) (by unfold Go.maxLen; omega) (by show m.next + 7 < m.next + 9; omega) ?_
      intro tok' m' hap' hn' hbox hobj
      have ho := hbox 0 _ _ hm (by show ¬ 0 = m.next + 7; omega)
      replace hn' : m'.next = m.next + 9 := hn'
      clear hbox hobj hap
      have hcc := eq_of_beq hc
      replace hcc := Hid.mk hcc
      clear hc
      repeat' (with_reducible first | refine x_ops ?_ | refine wk ?_ | ((first | refine gd1 ?_ ?_ | refine gd2 ?_ ?_ | refine gd3 ?_ ?_) <;> (first | exact @False.elim _ | intro hc)))
      refine nx (by omega) ⟨vv, ?_, ho, by ((refine ve ?_; try exact True.intro)); omega⟩
      rw [hplU.out, if_pos hcc.out, pls_snoc, List.length_append]
      exact ⟨tok', vv, hap'.mono (fun _ _ _ => rfl) (Nat.le_of_eq hn')⟩
    · have hcc : ¬ g.fingers.getD k 0 = v := by simpa using hc
      refine nx (by omega) ⟨vv, ?_, hm, hn⟩
      rw [hplU.out, if_neg hcc]
      exact ⟨tok, by exact vw, hap.mono (fun _ _ _ => rfl) (Nat.le_refl _)⟩
  · have hkl : k = c.down.length := by omega
    subst hkl
    have c1 : ¬ (c.down.length : Int) < (g.fingers.length : Int) := by rw [hl.out]; omega
    repeat' (with_reducible first | refine x_ops ?_ | refine wk ?_ | ((first | refine gd1 ?_ ?_ | refine gd2 ?_ ?_ | refine gd3 ?_ ?_) <;> (first | exact @False.elim _ | intro hc)))
    exact finV_ret vv (.sl _ _ _)
/-- How far two numbers are apart. -/
def dist (a b : Int) : Int := if a - b < b - a then b - a else a - b
theorem dist_le {a b : Int} : 0 ≤ dist a b := by rw [dist]; split <;> omega
theorem distance_fn (a b : Int) (h : (-1000000 ≤ a ∧ a ≤ 1000000) ∧ -1000000 ≤ b ∧ b ≤ 1000000) : Fn Try.prog Gd 118 [vint a, vint b] (vint (dist a b)) := by
  refine Fn.of_vx0 k_hand_distance (by simp) rfl ?_
  have w1 : IntKind.i64.wrap (a - b) = a - b := w_in (by omega)
  have w2 : IntKind.i64.wrap (b - a) = b - a := w_in (by omega)
  unfold c_hand_distance dist
  repeat' (with_reducible first | refine x_ops ?_ | refine wk ?_ | ((first | refine gd1 ?_ ?_ | refine gd2 ?_ ?_ | refine gd3 ?_ ?_) <;> (first | exact @False.elim _ | intro hc)))
  all_goals exact finV_lit vv rfl
end Go.Proofs.Ytojjdkoglhecbaa
namespace Go.Proofs.Ytojjdkoglhecbaa
open Go.RowKit
set_option linter.unusedSimpArgs false
set_option linter.unusedVariables false

/-- The places of the finger number k + 1. -/
def plF (c : Chord) (g : Grip) (k : Nat) : List (Int × Int) := plU c.down g.fingers ((k + 1 : Nat) : Int) c.down.length
def ownT (h : Hand) (c : Chord) (g : Grip) (k : Nat) : Int :=
  if (plF c g k).length = 0 then 0 else (if 1 < (plF c g k).length then h.bar else 0) + h.stretch * dist ((plF c g k).getD 0 (0, 0)).2 (g.pos + ((k + 1 : Nat) : Int) - 1)
def ownU (h : Hand) (c : Chord) (g : Grip) : Nat → Int
  | 0 => 0
  | k + 1 => ownU h c g k + ownT h c g k
/-- The own cost of a grip. -/
def ownC (h : Hand) (c : Chord) (g : Grip) : Int := ownU h c g h.low.length
theorem plF_fret {c : Chord} (hc : ChordOk c) {g : Grip} {k i : Nat} (hi : i < (plF c g k).length) : 1 ≤ ((plF c g k).getD i (0, 0)).2 ∧ ((plF c g k).getD i (0, 0)).2 ≤ 18 := by
  have hm : (plF c g k).getD i (0, 0) ∈ plF c g k := by
    rw [List.getD_eq_getElem?_getD, List.getElem?_eq_getElem hi]; exact List.getElem_mem hi
  obtain ⟨j, h1, _, h3⟩ := plU_mem hm
  have h2 := (hc.each j h1).2
  rw [h3] at h2
  exact h2
theorem dist_bound {a b n : Int} (h1 : a - b ≤ n) (h2 : b - a ≤ n) : dist a b ≤ n := by rw [dist]; split <;> assumption
theorem mul_bound {a b : Int} (ha : 0 ≤ a ∧ a ≤ 1000) (hb : 0 ≤ b ∧ b ≤ 100) : 0 ≤ a * b ∧ a * b ≤ 100000 := by
  refine ⟨Int.mul_nonneg ha.1 hb.1, ?_⟩
  have h1 := Int.mul_le_mul_of_nonneg_right ha.2 hb.1
  omega
theorem ownT_bound {h : Hand} (hk : HandOk h) {c : Chord} (hc : ChordOk c) {g : Grip} (hp : 1 ≤ g.pos ∧ g.pos ≤ 18) {k : Nat} (hkl : k < h.low.length) : 0 ≤ ownT h c g k ∧ ownT h c g k ≤ 101000 := by
  rw [ownT]
  split
  · omega
  · rename_i hl
    have hfr := plF_fret hc (g := g) (k := k) (i := 0) (by omega)
    have n4 := hk.n4
    have hd : 0 ≤ dist ((plF c g k).getD 0 (0, 0)).2 (g.pos + ((k + 1 : Nat) : Int) - 1) ∧ dist ((plF c g k).getD 0 (0, 0)).2 (g.pos + ((k + 1 : Nat) : Int) - 1) ≤ 100 := ⟨dist_le, dist_bound (by omega) (by omega)⟩
    have hm := mul_bound hk.stretch hd
    have hb := hk.bar
    split <;> omega
theorem ownU_bound {h : Hand} (hk : HandOk h) {c : Chord} (hc : ChordOk c) {g : Grip} (hp : 1 ≤ g.pos ∧ g.pos ≤ 18) : ∀ {k : Nat}, k ≤ h.low.length → 0 ≤ ownU h c g k ∧ ownU h c g k ≤ 101000 * k
  | 0, _ => by rw [ownU]; omega
  | k + 1, hkl => by
    have h1 := ownU_bound hk hc hp (k := k) (by omega)
    have h2 := ownT_bound hk hc hp (g := g) (k := k) (by omega)
    rw [ownU]; omega

set_option maxHeartbeats 2000000 in
theorem own_fn (h : Hand) (hk : HandOk h) (c : Chord) (hc : ChordOk c) (hf : FitC c) (g : Grip) (hl : g.fingers.length = c.down.length) (hp : 1 ≤ g.pos ∧ g.pos ≤ 18) : Fn Try.prog Gd 81 [h.val, c.val, g.val] (vint (ownC h c g)) := by
  refine Fn.of_vx0 k_hand_own (by simp) (by rw [V.pures, pure_hand, V.pures, pure_chord, V.pures, pure_grip]; rfl) ?_
  have n4 := hk.n4
  have PL := fun v => places_fn c hf g hl v
  unfold Chord.val Chord.cells Grip.val Grip.cells at PL
  unfold c_hand_own Hand.val Chord.val Chord.cells Grip.val Grip.cells
  replace hl := Hid.mk hl
  replace hp := Hid.mk hp
  repeat' (with_reducible first | refine x_ops ?_ | refine wk ?_ | ((first | refine gd1 ?_ ?_ | refine gd2 ?_ ?_ | refine gd3 ?_ ?_) <;> (first | exact @False.elim _ | intro hc)))
  refine x_loopF w_hand_own_p7 (by kernel_rfl) h.low.length (fun k t => t 8 = vint ((k + 1 : Nat) : Int) ∧ t 7 = vint (ownU h c g k)) ?_ ?_
  · exact ⟨vv, vv⟩
  rintro k t hkk ⟨h8, h7⟩
  by_cases hlt : k < h.low.length
  · have c1 : ((k + 1 : Nat) : Int) ≤ (h.low.length : Int) := by omega
    have w1 : IntKind.i64.wrap (((k + 1 : Nat) : Int) + 1) = ((k + 1 + 1 : Nat) : Int) := w_add1 (by omega)
    have P1 := PL ((k + 1 : Nat) : Int)
    have eP : plU c.down g.fingers ((k + 1 : Nat) : Int) c.down.length = plF c g k := rfl
    rw [eP] at P1
    have b1 := ownU_bound hk hc hp.out (g := g) (k := k) (by omega)
    have b2 := ownU_bound hk hc hp.out (g := g) (k := k + 1) (by omega)
    have hU : ownU h c g (k + 1) = ownU h c g k + ownT h c g k := rfl
    have hT : ownT h c g k = if (plF c g k).length = 0 then 0 else (if 1 < (plF c g k).length then h.bar else 0) + h.stretch * dist ((plF c g k).getD 0 (0, 0)).2 (g.pos + ((k + 1 : Nat) : Int) - 1) := rfl
    by_cases hz : (plF c g k).length = 0
    · rw [if_pos hz] at hT
      replace hU : Hid (ownU h c g (k + 1) = ownU h c g k) := ⟨by rw [hU, hT]; omega⟩
      have e1 : (((plF c g k).length : Int) == 0) = true := by rw [hz]; rfl
      clear hT b1 b2 eP hz PL
      repeat' (with_reducible first | refine x_ops ?_ | refine wk ?_ | (with_reducible refine xc (P1) ?_) | ((first | refine gd1 ?_ ?_ | refine gd2 ?_ ?_ | refine gd3 ?_ ?_) <;> (first | exact @False.elim _ | intro hc)))
      exact nf (by omega) ⟨vv, by rw [hU.out]; exact vw⟩ rfl
    · rw [if_neg hz] at hT
      have e1 : (((plF c g k).length : Int) == 0) = false := by simp; exact fun h => hz (by rw [h]; rfl)
      have hfr := plF_fret hc (g := g) (k := k) (i := 0) (by omega)
      have hp1 := hp.out
      have hst := hk.stretch
      have hbr := hk.bar
      have g1 := pls_at1 (l := plF c g k) (k := 0) (by omega)
      have g2 := pls_len (plF c g k)
      have c2 : (0 : Int) < ((plF c g k).length : Int) := by omega
      have D1 := distance_fn ((plF c g k).getD 0 (0, 0)).2 (g.pos + ((k + 1 : Nat) : Int) - 1) (by omega)
      have hd : 0 ≤ dist ((plF c g k).getD 0 (0, 0)).2 (g.pos + ((k + 1 : Nat) : Int) - 1) ∧ dist ((plF c g k).getD 0 (0, 0)).2 (g.pos + ((k + 1 : Nat) : Int) - 1) ≤ 100 := ⟨dist_le, dist_bound (by omega) (by omega)⟩
      have hm := mul_bound hst hd
      have w2 : IntKind.i64.wrap (g.pos + ((k + 1 : Nat) : Int)) = g.pos + ((k + 1 : Nat) : Int) := w_in (by omega)
      have w3 : IntKind.i64.wrap (g.pos + ((k + 1 : Nat) : Int) - 1) = g.pos + ((k + 1 : Nat) : Int) - 1 := w_in (by omega)
      generalize dist ((plF c g k).getD 0 (0, 0)).2 (g.pos + ((k + 1 : Nat) : Int) - 1) = dd at D1 hT hd hm
      have w4 : IntKind.i64.wrap (h.stretch * dd) = h.stretch * dd := w_in (by omega)
      rw [Nat.zero_mul, Nat.zero_add] at g1
      by_cases hone : 1 < (plF c g k).length
      · rw [if_pos hone] at hT
        have c3 : (1 : Int) < ((plF c g k).length : Int) := by omega
        have w5 : IntKind.i64.wrap (ownU h c g k + h.bar) = ownU h c g k + h.bar := w_in (by omega)
        have w6 : IntKind.i64.wrap (ownU h c g k + h.bar + h.stretch * dd) = ownU h c g k + h.bar + h.stretch * dd := w_in (by omega)
        replace hU : Hid (ownU h c g (k + 1) = ownU h c g k + h.bar + h.stretch * dd) := ⟨by rw [hU, hT]; omega⟩
        clear hT b1 b2 eP hz PL hm hd hfr hp1 hst hbr hone
        repeat' (with_reducible first | refine x_ops ?_ | simp only [go_sem, Nat.reduceAdd, Nat.reduceEqDiff, Nat.reduceLT, Nat.reduceLeDiff, Nat.reduceMul, Nat.reduceSub, Nat.reducePow, Nat.reduceDiv, Nat.reduceMod, Nat.reduceBEq, Int.reduceBEq, Int.reduceLT, reduceIte, tIs, tBs, tPs, Int.toNat_zero, *] | (with_reducible refine xc (P1) ?_) | (with_reducible refine xc (D1) ?_) | ((first | refine gd1 ?_ ?_ | refine gd2 ?_ ?_ | refine gd3 ?_ ?_) <;> (first | exact @False.elim _ | intro hc)))
        exact nf (by omega) ⟨vv, by rw [hU.out]; exact vv⟩ rfl
      · rw [if_neg hone] at hT
        have c3 : ¬ (1 : Int) < ((plF c g k).length : Int) := by omega
        have w6 : IntKind.i64.wrap (ownU h c g k + h.stretch * dd) = ownU h c g k + h.stretch * dd := w_in (by omega)
        replace hU : Hid (ownU h c g (k + 1) = ownU h c g k + h.stretch * dd) := ⟨by rw [hU, hT]; omega⟩
        clear hT b1 b2 eP hz PL hm hd hfr hp1 hst hbr hone
        repeat' (with_reducible first | refine x_ops ?_ | simp only [go_sem, Nat.reduceAdd, Nat.reduceEqDiff, Nat.reduceLT, Nat.reduceLeDiff, Nat.reduceMul, Nat.reduceSub, Nat.reducePow, Nat.reduceDiv, Nat.reduceMod, Nat.reduceBEq, Int.reduceBEq, Int.reduceLT, reduceIte, tIs, tBs, tPs, Int.toNat_zero, *] | (with_reducible refine xc (P1) ?_) | (with_reducible refine xc (D1) ?_) | ((first | refine gd1 ?_ ?_ | refine gd2 ?_ ?_ | refine gd3 ?_ ?_) <;> (first | exact @False.elim _ | intro hc)))
        exact nf (by omega) ⟨vv, by rw [hU.out]; exact vv⟩ rfl
  · have hkl : k = h.low.length := by omega
    subst hkl
    have c1 : ¬ ((h.low.length + 1 : Nat) : Int) ≤ (h.low.length : Int) := by omega
    repeat' (with_reducible first | refine x_ops ?_ | refine wk ?_ | ((first | refine gd1 ?_ ?_ | refine gd2 ?_ ?_ | refine gd3 ?_ ?_) <;> (first | exact @False.elim _ | intro hc)))
    exact finV_lit vv rfl
end Go.Proofs.Ytojjdkoglhecbaa
namespace Go.Proofs.Ytojjdkoglhecbaa
open Go.RowKit
set_option linter.unusedSimpArgs false
set_option linter.unusedVariables false

set_option maxHeartbeats 1000000 in
theorem rcheck_fn (h : Hand) : Fn Try.prog Gd 25 [h.val] (vint (chkE h)) := by
  refine Fn.of_vx0 k_theorboref06_Check (by simp) (by rw [V.pures, pure_hand]; rfl) ?_
  unfold c_theorboref06_Check Hand.val
  repeat' (with_reducible first | refine x_ops ?_ | refine wk ?_ | ((first | refine gd1 ?_ ?_ | refine gd2 ?_ ?_ | refine gd3 ?_ ?_) <;> (first | exact @False.elim _ | intro hc)))
  all_goals first
    | (refine finV_lit vv (chkE_bad fun hk => ?_)
       have h1 := hk.n1
       have h2 := hk.n4
       have h3 := hk.nh
       have h4 := hk.nb
       try simp only [beq_eq_false_iff_ne, beq_iff_eq] at *
       omega)
    | skip
  rename_i e1 e2 hh
  have hb : h.barre.length = h.low.length := by have := eq_of_beq hc; omega
  replace hh : h.high.length = h.low.length := by have := eq_of_beq hh; omega
  clear hc
  have hn1 : 1 ≤ h.low.length := by omega
  have hn4 : h.low.length ≤ 4 := by omega
  clear e1 e2
  refine x_loopF w_theorboref06_Check_p5 (by kernel_rfl) h.low.length (fun k t => t 4 = vint (k : Int) ∧ ∀ i, i < k → (0 ≤ h.low.getD i 0 ∧ h.low.getD i 0 ≤ h.high.getD i 0 ∧ h.high.getD i 0 ≤ 8) ∧ (0 < i → h.low.getD (i - 1) 0 ≤ h.low.getD i 0 ∧ h.high.getD (i - 1) 0 ≤ h.high.getD i 0)) ?_ ?_
  · exact ⟨vv, fun i h => by omega⟩
  rintro k t hk ⟨h4, hI⟩
  by_cases hlt : k < h.low.length
  · have g1 := ints_at (l := h.low) (k := k) (by omega)
    have g2 := ints_at (l := h.high) (k := k) (by omega)
    have c2 : (k : Int) < (h.low.length : Int) := by omega
    have w2 := w_add1 (k := k) (by omega)
    by_cases hk0 : 0 < k
    · have g3 := ints_at (l := h.low) (k := k - 1) (by omega)
      have g4 := ints_at (l := h.high) (k := k - 1) (by omega)
      have c3 : ((k - 1 : Nat) : Int) < (h.low.length : Int) := by omega
      have c4 : (0 : Int) < (k : Int) := by omega
      have w1 := w_sub1 hk0 (by omega)
      repeat' (with_reducible first | refine x_ops ?_ | refine wk ?_ | ((first | refine gd1 ?_ ?_ | refine gd2 ?_ ?_ | refine gd3 ?_ ?_) <;> (first | exact @False.elim _ | intro hc)))
      all_goals first
        | (refine nf (by omega) ⟨vv, fun i h => ?_⟩ rfl
           by_cases hi : i = k
           · subst hi; exact ⟨by omega, fun _ => by omega⟩
           · exact hI i (by omega))
        | (refine finV_lit vv (chkE_bad fun hk => ?_)
           have h5 := hk.each k hlt
           have h6 := allB_iff.1 hk.al (k - 1) (by omega)
           have h7 := allB_iff.1 hk.ah (k - 1) (by omega)
           rw [decide_eq_true_eq, Nat.sub_add_cancel hk0] at h6 h7
           omega)
    · have hk1 : ¬ (0 : Int) < (k : Int) := by omega
      repeat' (with_reducible first | refine x_ops ?_ | refine wk ?_ | ((first | refine gd1 ?_ ?_ | refine gd2 ?_ ?_ | refine gd3 ?_ ?_) <;> (first | exact @False.elim _ | intro hc)))
      all_goals first
        | (refine nf (by omega) ⟨vv, fun i h => ?_⟩ rfl
           have hi : i = k := by omega
           subst hi; exact ⟨by omega, fun h => by omega⟩)
        | (refine finV_lit vv (chkE_bad fun hk => ?_)
           have h5 := hk.each k hlt
           omega)
  have hI : ∀ i, i < h.low.length → (0 ≤ h.low.getD i 0 ∧ h.low.getD i 0 ≤ h.high.getD i 0 ∧ h.high.getD i 0 ≤ 8) ∧ (0 < i → h.low.getD (i - 1) 0 ≤ h.low.getD i 0 ∧ h.high.getD (i - 1) 0 ≤ h.high.getD i 0) := fun i hi => hI i (by omega)
  have c1 : ¬ ((k : Int) < (h.low.length : Int)) := by omega
  clear hlt hk
  repeat' (with_reducible first | refine x_ops ?_ | refine wk ?_ | ((first | refine gd1 ?_ ?_ | refine gd2 ?_ ?_ | refine gd3 ?_ ?_) <;> (first | exact @False.elim _ | intro hc)))
  all_goals first
    | (refine finV_lit vv (chkE_bad fun hk => ?_)
       have h5 := hk.top
       have h6 := hk.jump
       omega)
    | skip
  rename_i t1 t2 j1
  refine x_loopF w_theorboref06_Check_p13 (by kernel_rfl) 5 (fun k t => t 124 = vint (k : Int) ∧ ∀ i, i < k → 0 ≤ (Hand.ws h).getD i 0 ∧ (Hand.ws h).getD i 0 ≤ 1000) ?_ ?_
  · exact ⟨vv, fun i h => by omega⟩
  rintro q t' hq ⟨h124, hJ⟩
  by_cases hlt : q < 5
  · have g1 : [V.lit (.int .i64 h.shift), V.lit (.int .i64 h.lift), V.lit (.int .i64 h.bar), V.lit (.int .i64 h.stretch), V.lit (.int .i64 h.slide)][q]? = some (V.lit (.int .i64 ((Hand.ws h).getD q 0))) := ints_at (l := Hand.ws h) (k := q) hlt
    have c2 : (q : Int) < 5 := by omega
    have w2 := w_add1 (k := q) (by omega)
    repeat' (with_reducible first | refine x_ops ?_ | refine wk ?_ | ((first | refine gd1 ?_ ?_ | refine gd2 ?_ ?_ | refine gd3 ?_ ?_) <;> (first | exact @False.elim _ | intro hc)))
    all_goals first
      | (refine finV_lit vv (chkE_bad fun hk => ?_)
         have := hk.ws q hlt
         omega)
      | (refine nf (by omega) ⟨vv, fun i h => ?_⟩ rfl
         by_cases hi : i = q
         · subst hi; omega
         · exact hJ i (by omega))
  · have c3 : ¬ ((q : Int) < 5) := by omega
    repeat' (with_reducible first | refine x_ops ?_ | refine wk ?_ | ((first | refine gd1 ?_ ?_ | refine gd2 ?_ ?_ | refine gd3 ?_ ?_) <;> (first | exact @False.elim _ | intro hc)))
    have hq5 : q = 5 := by omega
    refine finV_lit vv (chkE_good ?_)
    have hJ := fun i (hi : i < 5) => hJ i (by omega)
    refine ⟨hn1, hn4, hh, hb, fun i hi => (hI i hi).1, allB_true fun i hi => ?_, allB_true fun i hi => ?_, by omega, by omega, hJ 0 (by decide), hJ 1 (by decide), hJ 2 (by decide), hJ 3 (by decide), hJ 4 (by decide)⟩
    · rw [decide_eq_true_eq]
      have := ((hI (i + 1) (by omega)).2 (by omega)).1
      simpa using this
    · rw [decide_eq_true_eq]
      have := ((hI (i + 1) (by omega)).2 (by omega)).2
      simpa using this
end Go.Proofs.Ytojjdkoglhecbaa
namespace Go.Proofs.Ytojjdkoglhecbaa
open Go.RowKit
set_option linter.unusedSimpArgs false
set_option linter.unusedVariables false

theorem place_fn (c : Chord) (co : Int) (hl : c.down.length ≤ 8796093022208) : Fn Try.prog Gd 68 [c.val, vint co] (.agg [vint (plA c.down co).1, vint (plA c.down co).2]) := by
  refine Fn.of_vx0 k_theorboref06_place (by simp) (by rw [V.pures, pure_chord]; rfl) ?_
  unfold c_theorboref06_place Chord.val Chord.cells
  repeat' (with_reducible first | refine x_ops ?_ | refine wk ?_ | ((first | refine gd1 ?_ ?_ | refine gd2 ?_ ?_ | refine gd3 ?_ ?_) <;> (first | exact @False.elim _ | intro hc)))
  refine x_loopF w_theorboref06_place_p4 (by kernel_rfl) c.down.length (fun k t => t 5 = vint (k : Int) ∧ ∀ i, i < k → (c.down.getD i (0, 0)).1 ≠ co) ?_ ?_
  · exact ⟨vv, fun i h => by omega⟩
  rintro k t hk ⟨h5, hI⟩
  by_cases hlt : k < c.down.length
  · have g1 := pls_take hlt
    have g2 := pls_len c.down
    have g3 := pls_at0 hlt
    have c2 : (k : Int) < (c.down.length : Int) := by omega
    have c3 : k * 2 + 2 ≤ c.down.length * 2 := by omega
    have w2 := w_add1 (k := k) (by omega)
    repeat' (with_reducible first | refine x_ops ?_ | refine wk ?_ | ((first | refine gd1 ?_ ?_ | refine gd2 ?_ ?_ | refine gd3 ?_ ?_) <;> (first | exact @False.elim _ | intro hc)))
    · have e : plA c.down co = c.down.getD k (0, 0) := by rw [plA, fI_eq hI hlt (eq_of_beq hc)]
      rw [e]
      exact finV_dry rfl vv
    · refine nf (by omega) ⟨vv, fun i h => ?_⟩ rfl
      by_cases hi : i = k
      · subst hi; simpa using hc
      · exact hI i (by omega)
  · have c1 : ¬ ((k : Int) < (c.down.length : Int)) := by omega
    repeat' (with_reducible first | refine x_ops ?_ | refine wk ?_ | ((first | refine gd1 ?_ ?_ | refine gd2 ?_ ?_ | refine gd3 ?_ ?_) <;> (first | exact @False.elim _ | intro hc)))
    have e : plA c.down co = (0, 0) := plA_none (by rw [fI_none fun i hi => hI i (by omega)]; omega)
    rw [e]
    exact finV_dry rfl vv

/-- The courses of places. -/
def crsOf (l : List (Int × Int)) : List Int := l.map (·.1)
theorem crsOf_len (l : List (Int × Int)) : (crsOf l).length = l.length := List.length_map _
theorem crsOf_at (l : List (Int × Int)) (i : Nat) : (crsOf l).getD i 0 = (l.getD i (0, 0)).1 := by
  rw [crsOf, List.getD_eq_getElem?_getD, List.getElem?_map, List.getD_eq_getElem?_getD]
  cases l[i]? <;> rfl

set_option maxHeartbeats 2000000 in
theorem good_fn (c : Chord) (hl : FitC c) : Fn Try.prog Gd 67 [c.val] (vbool (rgtB c)) := by
  refine Fn.of_vx0 k_theorboref06_Good (by simp) (by rw [V.pures, pure_chord]; rfl) ?_
  have D1 := fun co => place_fn c co hl.1
  have A0 := ascend_fn (crsOf c.down) (by rw [crsOf_len]; exact hl.big.1)
  have A1 := ascend_fn c.held hl.big.2.1
  have A2 := ascend_fn c.opn hl.big.2.2
  have hl1 := hl.1
  have hlb := hl.big
  unfold Chord.val Chord.cells at D1
  unfold c_theorboref06_Good Chord.val Chord.cells
  repeat' (with_reducible first | refine x_ops ?_ | refine wk ?_ | ((first | refine gd1 ?_ ?_ | refine gd2 ?_ ?_ | refine gd3 ?_ ?_) <;> (first | exact @False.elim _ | intro hc)))
  refine x_loopW w_theorboref06_Good_p5 (by kernel_rfl) c.down.length (fun k t m => t 4 = vint (k : Int) ∧ (∃ tok, t 3 = .sl k ((crsOf (c.down.take k)).map vint) tok ∧ Apb m tok k 3 1) ∧ m.obj 0 = some (.box [tPs c.down, tIs c.held, tIs c.opn] 47) ∧ 0 < m.next ∧
    ∀ i, i < k → 1 ≤ (c.down.getD i (0, 0)).2 ∧ (c.down.getD i (0, 0)).2 ≤ 18) ?_ ?_
  · exact ⟨vv, ⟨.exact, vv, .inl rfl⟩, vv, by ((refine ve ?_; try exact True.intro)); try omega, fun i h => by omega⟩
  rintro k t m hk ⟨h4, ⟨tok, h3, hap⟩, hm, hn, hI⟩
  by_cases hlt : k < c.down.length
  · have g1 := pls_take hlt
    have g2 := pls_len c.down
    have g3 := pls_at0 hlt
    have g4 := pls_at1 hlt
    have c2 : (k : Int) < (c.down.length : Int) := by omega
    have c3 : k * 2 + 2 ≤ c.down.length * 2 := by omega
    have w2 := w_add1 (k := k) (by omega)
    repeat' (with_reducible first | refine x_ops ?_ | refine wk ?_ | ((first | refine gd1 ?_ ?_ | refine gd2 ?_ ?_ | refine gd3 ?_ ?_) <;> (first | exact @False.elim _ | intro hc)))
    · exact finV_lit vv (rgt_bad fun hk => by have := (hk.each k hlt).2; omega)
    · exact finV_lit vv (rgt_bad fun hk => by have := (hk.each k hlt).2; omega)
    refine x_appb (xs := (crsOf (c.down.take k)).map vint) (ys := [vint (c.down.getD k (0, 0)).1]) vw vw (hap.mono (fun _ _ _ => rfl) (Nat.le_add_right _ _)) ?_ rfl (by omega) (by unfold Go.maxLen; omega) (by show m.next + 8 < m.next + 10; omega) ?_
    · rw [List.length_map, crsOf_len, List.length_take]; omega
    intro tok' m' hap' hn' hbox hobj
    have ho := hbox 0 _ _ hm (by show ¬ 0 = m.next + 8; omega)
    replace hn' : m'.next = m.next + 10 := hn'
    clear hbox hobj hap
    repeat' (with_reducible first | refine x_ops ?_ | refine wk ?_ | ((first | refine gd1 ?_ ?_ | refine gd2 ?_ ?_ | refine gd3 ?_ ?_) <;> (first | exact @False.elim _ | intro hc)))
    refine nx (by omega) ⟨vv, ⟨tok', ?_, hap'.mono (fun _ _ _ => rfl) (Nat.le_of_eq hn')⟩, ho, by ((refine ve ?_; try exact True.intro)); omega, fun i h => ?_⟩
    · ((refine ve ?_; try exact True.intro))
      rw [crsOf, crsOf, List.take_succ_eq_append_getElem hlt, List.map_append, List.map_append, List.getD_eq_getElem?_getD, List.getElem?_eq_getElem hlt]
      rfl
    · by_cases hi : i = k
      · subst hi; omega
      · exact hI i (by omega)
  have hkl : k = c.down.length := by omega
  subst hkl
  rw [List.take_length] at h3
  have hcl := crsOf_len c.down
  have c1 : ¬ ((c.down.length : Int) < (c.down.length : Int)) := by omega
  clear hlt hk hl1 hap
  replace hI := Hid.mk hI
  have up : ∀ l : List Int, risB l = true → (∀ i, i < l.length → 1 ≤ l.getD i 0 ∧ l.getD i 0 ≤ 14) → crsB l = true := fun l h1 h2 => by
    rw [crsB, h1, allB_true fun i hi => decide_eq_true (h2 i hi)]; rfl
  have dn : ∀ l : List Int, crsB l = true → risB l = true ∧ ∀ i, i < l.length → 1 ≤ l.getD i 0 ∧ l.getD i 0 ≤ 14 := fun l h => by
    rw [crsB, Bool.and_eq_true] at h
    exact ⟨h.1, fun i hi => of_decide_eq_true (allB_iff.1 h.2 i hi)⟩
  replace up := Hid.mk up
  replace dn := Hid.mk dn
  cases a0 : crsB (crsOf c.down)
  · repeat' (with_reducible first | refine x_ops ?_ | refine wk ?_ | (with_reducible refine xc (A0) ?_) | ((first | refine gd1 ?_ ?_ | refine gd2 ?_ ?_ | refine gd3 ?_ ?_) <;> (first | exact @False.elim _ | intro hc)))
    refine finV_lit vv (rgt_bad fun hk => ?_)
    rw [up.out _ (allB_true fun i hi => ?_) (fun i hi => ?_)] at a0
    · cases a0
    · rw [crsOf_len] at hi
      rw [decide_eq_true_eq, crsOf_at, crsOf_at]; exact hk.rise i (by omega)
    · rw [crsOf_len] at hi
      rw [crsOf_at]; exact (hk.each i hi).1
  cases a1 : crsB c.held
  · repeat' (with_reducible first | refine x_ops ?_ | refine wk ?_ | (with_reducible refine xc (A0) ?_) | (with_reducible refine xc (A1) ?_) | ((first | refine gd1 ?_ ?_ | refine gd2 ?_ ?_ | refine gd3 ?_ ?_) <;> (first | exact @False.elim _ | intro hc)))
    refine finV_lit vv (rgt_bad fun hk => ?_)
    rw [up.out _ hk.rh (fun i hi => ?_)] at a1
    · cases a1
    · have h1 := hk.held i hi
      have h2 := (hk.each _ h1).1
      rwa [fI_at h1] at h2
  cases a2 : crsB c.opn
  · repeat' (with_reducible first | refine x_ops ?_ | refine wk ?_ | (with_reducible refine xc (A0) ?_) | (with_reducible refine xc (A1) ?_) | (with_reducible refine xc (A2) ?_) | ((first | refine gd1 ?_ ?_ | refine gd2 ?_ ?_ | refine gd3 ?_ ?_) <;> (first | exact @False.elim _ | intro hc)))
    refine finV_lit vv (rgt_bad fun hk => ?_)
    rw [up.out _ hk.ro (fun i hi => (hk.opn i hi).1)] at a2
    cases a2
  repeat' (with_reducible first | refine x_ops ?_ | refine wk ?_ | (with_reducible refine xc (A0) ?_) | (with_reducible refine xc (A1) ?_) | (with_reducible refine xc (A2) ?_) | ((first | refine gd1 ?_ ?_ | refine gd2 ?_ ?_ | refine gd3 ?_ ?_) <;> (first | exact @False.elim _ | intro hc)))
  replace a0 := dn.out _ a0
  replace a1 := dn.out _ a1
  replace a2 := dn.out _ a2
  have e1 : ∀ i, i < c.down.length → 1 ≤ (c.down.getD i (0, 0)).1 ∧ (c.down.getD i (0, 0)).1 ≤ 14 := fun i hi => by
    have := a0.2 i (by rw [crsOf_len]; exact hi); rwa [crsOf_at] at this
  replace a0 := Hid.mk a0
  replace a1 := Hid.mk a1
  replace a2 := Hid.mk a2
  replace e1 := Hid.mk e1
  refine x_loopF w_theorboref06_Good_p11 (by kernel_rfl) c.held.length (fun k t => t 5 = vint (k : Int) ∧ ∀ i, i < k → fI c.down (c.held.getD i 0) < c.down.length) ?_ ?_
  · exact ⟨vv, fun i h => by omega⟩
  rintro q t' hq ⟨h5, hJ⟩
  by_cases hlt : q < c.held.length
  · have g1 := ints_at hlt
    have c2 : (q : Int) < (c.held.length : Int) := by omega
    have w2 := w_add1 (k := q) (by omega)
    repeat' (with_reducible first | refine x_ops ?_ | refine wk ?_ | (with_reducible refine xc (D1 _) ?_) | ((first | refine gd1 ?_ ?_ | refine gd2 ?_ ?_ | refine gd3 ?_ ?_) <;> (first | exact @False.elim _ | intro hc)))
    · refine finV_lit vv (rgt_bad fun hk => ?_)
      have h1 := hk.held q hlt
      have h2 := (e1.out _ h1).1
      have h3 := plA_found h1
      rw [fI_at h1] at h2
      have h4 := eq_of_beq hc
      omega
    · refine nf (by omega) ⟨vv, fun i h => ?_⟩ rfl
      by_cases hi : i = q
      · subst hi
        refine Decidable.not_not.1 fun h => ?_
        rw [plA_none h] at hc
        simp at hc
      · exact hJ i (by omega)
  have hJ := Hid.mk fun i (h : i < c.held.length) => hJ i (by omega)
  have c4 : ¬ ((q : Int) < (c.held.length : Int)) := by omega
  clear hlt hq
  repeat' (with_reducible first | refine x_ops ?_ | refine wk ?_ | ((first | refine gd1 ?_ ?_ | refine gd2 ?_ ?_ | refine gd3 ?_ ?_) <;> (first | exact @False.elim _ | intro hc)))
  refine x_loopF w_theorboref06_Good_p16 (by kernel_rfl) c.opn.length (fun k t => t 6 = vint (k : Int) ∧ ∀ i, i < k → fI c.down (c.opn.getD i 0) = c.down.length) ?_ ?_
  · exact ⟨vv, fun i h => by omega⟩
  rintro p t2 hp ⟨h6, hL⟩
  by_cases hlt : p < c.opn.length
  · have g1 := ints_at hlt
    have c2 : (p : Int) < (c.opn.length : Int) := by omega
    have w2 := w_add1 (k := p) (by omega)
    repeat' (with_reducible first | refine x_ops ?_ | refine wk ?_ | (with_reducible refine xc (D1 _) ?_) | ((first | refine gd1 ?_ ?_ | refine gd2 ?_ ?_ | refine gd3 ?_ ?_) <;> (first | exact @False.elim _ | intro hc)))
    · refine finV_lit vv (rgt_bad fun hk => ?_)
      have h1 := (hk.opn p hlt).2
      rw [plA_none (by omega)] at hc
      simp at hc
    · refine nf (by omega) ⟨vv, fun i h => ?_⟩ rfl
      by_cases hi : i = p
      · subst hi
        rcases Nat.lt_or_ge (fI c.down (c.opn.getD i 0)) c.down.length with h1 | h1
        · have h2 := (e1.out _ h1).1
          have h3 := plA_found h1
          rw [fI_at h1] at h2
          have h4 : (plA c.down (c.opn.getD i 0)).1 = 0 := by simpa using hc
          omega
        · exact Nat.le_antisymm (fI_le _ _) h1
      · exact hL i (by omega)
  have hL := fun i (h : i < c.opn.length) => hL i (by omega)
  have c5 : ¬ ((p : Int) < (c.opn.length : Int)) := by omega
  clear hlt hp
  repeat' (with_reducible first | refine x_ops ?_ | refine wk ?_ | ((first | refine gd1 ?_ ?_ | refine gd2 ?_ ?_ | refine gd3 ?_ ?_) <;> (first | exact @False.elim _ | intro hc)))
  refine finV_lit vv (rgt_good ⟨fun i hi => ⟨e1.out i hi, hI.out i hi⟩, fun i hi => ?_, a1.out.1, a2.out.1, hJ.out, fun i hi => ⟨a2.out.2 i hi, hL i hi⟩⟩)
  have := of_decide_eq_true (allB_iff.1 a0.out.1 i (by rw [crsOf_len]; omega))
  rwa [crsOf_at, crsOf_at] at this
end Go.Proofs.Ytojjdkoglhecbaa
namespace Go.Proofs.Ytojjdkoglhecbaa
open Go.RowKit
set_option linter.unusedSimpArgs false
set_option linter.unusedVariables false

theorem chk_ok {h : Hand} (hc : chkE h = 0) : HandOk h := by
  rw [chkE] at hc
  split at hc
  · assumption
  · cases hc
theorem chk_bad {h : Hand} (hc : ¬ chkE h = 0) : chkE h = 60 := by
  rw [chkE] at hc ⊢
  split at hc
  · exact absurd rfl hc
  · rename_i hn; rw [if_neg hn]
end Go.Proofs.Ytojjdkoglhecbaa
namespace Go.Proofs.Ytojjdkoglhecbaa
open Go.RowKit
set_option linter.unusedSimpArgs false
set_option linter.unusedVariables false

/-- Is this place among these? -/
def memB (x : Int × Int) (l : List (Int × Int)) : Bool := decide (gI (fun y => decide (x = y)) l < l.length)
/-- Have two lists a place in common? -/
def cmnB (a b : List (Int × Int)) : Bool := decide (gI (fun x => memB x b) a < a.length)
theorem indexP_fn (l : List (Int × Int)) (v : Int × Int) (hl : l.length ≤ 4611686018427387904) : Fn Try.prog Gd 136 [tPs l, .agg (plE v)] (vint (gIx (fun y => decide (v = y)) l)) := by
  refine Fn.of_vx0 k_slices_Index_api_Place_api_Place (by simp) (by rw [V.pures, pure_tPs]; rfl) ?_
  unfold c_slices_Index_api_Place_api_Place plE
  repeat' (with_reducible first | refine x_ops ?_ | refine wk ?_ | ((first | refine gd1 ?_ ?_ | refine gd2 ?_ ?_ | refine gd3 ?_ ?_) <;> (first | exact @False.elim _ | intro hc)))
  refine x_loopF w_slices_Index_api_Place_api_Place_p6 (by kernel_rfl) l.length (fun k t => t 8 = vint (k : Int) ∧ ∀ i, i < k → decide (v = l.getD i (0, 0)) = false) ?_ ?_
  · exact ⟨vv, fun i h => by omega⟩
  rintro k t hk ⟨h8, hI⟩
  by_cases hlt : k < l.length
  · have g1 := pls_take hlt
    have g2 := pls_len l
    have c2 : (k : Int) < (l.length : Int) := by omega
    have c3 : k * 2 + 2 ≤ l.length * 2 := by omega
    have w2 := w_add1 (k := k) (by omega)
    have eqk := eq_pl v (l.getD k (0, 0))
    cases d : decide (v = l.getD k (0, 0))
    · rw [d] at eqk
      have dh := Hid.mk d
      clear d
      repeat' (with_reducible first | refine x_ops ?_ | refine wk ?_ | ((first | refine gd1 ?_ ?_ | refine gd2 ?_ ?_ | refine gd3 ?_ ?_) <;> (first | exact @False.elim _ | intro hc)))
      refine nf (by omega) ⟨vv, fun i h => ?_⟩ rfl
      by_cases hi : i = k
      · subst hi; exact of_decide_eq_false dh.out
      · exact of_decide_eq_false (hI i (by omega))
    · rw [d] at eqk
      have dh := Hid.mk d
      clear d
      repeat' (with_reducible first | refine x_ops ?_ | refine wk ?_ | ((first | refine gd1 ?_ ?_ | refine gd2 ?_ ?_ | refine gd3 ?_ ?_) <;> (first | exact @False.elim _ | intro hc)))
      refine finV_lit vv ?_
      rw [gIx, gI_eq (p := fun y => decide (v = y)) (d := (0, 0)) hI hlt dh.out, if_pos hlt]
  · have c1 : ¬ ((k : Int) < (l.length : Int)) := by omega
    repeat' (with_reducible first | refine x_ops ?_ | refine wk ?_ | ((first | refine gd1 ?_ ?_ | refine gd2 ?_ ?_ | refine gd3 ?_ ?_) <;> (first | exact @False.elim _ | intro hc)))
    refine finV_lit vv ?_
    have hI := fun i (h : i < l.length) => hI i (by omega)
    rw [gIx, gI_none (p := fun y => decide (v = y)) (d := (0, 0)) hI, if_neg (by omega)]
theorem contP_fn (l : List (Int × Int)) (v : Int × Int) (hl : l.length ≤ 4611686018427387904) : Fn Try.prog Gd 122 [tPs l, .agg (plE v)] (vbool (memB v l)) := by
  refine Fn.of_vx0 k_slices_Contains_api_Place_api_Place (by simp) (by rw [V.pures, pure_tPs]; rfl) ?_
  have h1 := indexP_fn l v hl
  have h2 := gIx_ge (p := fun y => decide (v = y)) (l := l)
  generalize gIx (fun y => decide (v = y)) l = gx at h1 h2
  unfold plE at h1
  unfold c_slices_Contains_api_Place_api_Place plE memB
  repeat' (with_reducible first | refine x_ops ?_ | refine wk ?_ | (with_reducible refine xc (h1) ?_) | ((first | refine gd1 ?_ ?_ | refine gd2 ?_ ?_ | refine gd3 ?_ ?_) <;> (first | exact @False.elim _ | intro hc)))
  exact finV_lit vv (by rw [← h2])
theorem step1_fn (m : List (Int × Int)) (hl : m.length ≤ 4611686018427387904) (x : Int × Int) : Fn Try.prog Gd 121 [.agg (plE x), .ept [.sl m.length (m.flatMap plE) .no] 0] (vbool (memB x m)) := by
  refine Fn.of_vx0 k_hand_step_1 (by simp) rfl ?_
  have h1 := contP_fn m x hl
  rw [show plE x = [vint x.1, vint x.2] from rfl] at h1 ⊢
  unfold c_hand_step_1
  unfold tPs at h1
  repeat' (with_reducible first | refine x_ops ?_ | refine wk ?_ | (with_reducible refine xc (h1) ?_) | ((first | refine gd1 ?_ ?_ | refine gd2 ?_ ?_ | refine gd3 ?_ ?_) <;> (first | exact @False.elim _ | intro hc)))
  exact finV_lit vv rfl
theorem call_step1 : callable Try.prog 121 = true := by kernel_rfl

/-- Held courses keep their fingers. -/
def HeldOk (a : Chord) (g : Grip) (b : Chord) (k : Grip) : Prop := ∀ q, q < b.held.length → g.fingers.getD (fI a.down (b.held.getD q 0)) 0 = k.fingers.getD (fI b.down (b.held.getD q 0)) 0
/-- The slide of the finger number f + 1. -/
def slT (h : Hand) (a : Chord) (g : Grip) (b : Chord) (k : Grip) (f : Nat) : Int :=
  if 0 < (plF a g f).length ∧ 0 < (plF b k f).length ∧ cmnB (plF a g f) (plF b k f) = false then h.slide else 0
def slU (h : Hand) (a : Chord) (g : Grip) (b : Chord) (k : Grip) : Nat → Int
  | 0 => 0
  | f + 1 => slU h a g b k f + slT h a g b k f
def bothD (a b : Chord) : Prop := 0 < a.down.length ∧ 0 < b.down.length
instance (a b : Chord) : Decidable (bothD a b) := by unfold bothD; infer_instance
/-- Is there a step? -/
def StepOk (h : Hand) (a : Chord) (g : Grip) (b : Chord) (k : Grip) : Prop := HeldOk a g b k ∧ ¬ (bothD a b ∧ h.jump < dist g.pos k.pos)
/-- Its cost. -/
def stepC (h : Hand) (a : Chord) (g : Grip) (b : Chord) (k : Grip) : Int :=
  h.shift * dist g.pos k.pos + (if bothD a b ∧ 0 < dist g.pos k.pos then h.lift else 0) + (if bothD a b then slU h a g b k h.low.length else 0)
noncomputable def stepR (h : Hand) (a : Chord) (g : Grip) (b : Chord) (k : Grip) : Int × Bool :=
  if @decide (StepOk h a g b k) (Classical.propDecidable _) = true then (stepC h a g b k, true) else (0, false)
theorem stepR_ok {h : Hand} {a b : Chord} {g k : Grip} (hs : StepOk h a g b k) : stepR h a g b k = (stepC h a g b k, true) := by rw [stepR, if_pos (by simp [hs])]
theorem stepR_no {h : Hand} {a b : Chord} {g k : Grip} (hs : ¬ StepOk h a g b k) : stepR h a g b k = (0, false) := by rw [stepR, if_neg (by simp [hs])]
theorem fol_found {a b : Chord} (hb : ChordOk b) (hf : Fol a b) {q : Nat} (hq : q < b.held.length) : fI a.down (b.held.getD q 0) < a.down.length := by
  rcases Nat.lt_or_ge (fI a.down (b.held.getD q 0)) a.down.length with h1 | h1
  · exact h1
  · have h2 := hf q hq
    rw [plA_none (by omega)] at h2
    have h3 := hb.held q hq
    have h4 := (hb.each _ h3).1.1
    have h5 : (0 : Int) = (plA b.down (b.held.getD q 0)).1 := by rw [← h2]
    have h6 : (plA b.down (b.held.getD q 0)).1 = (b.down.getD (fI b.down (b.held.getD q 0)) (0, 0)).1 := rfl
    omega
theorem slU_bound {h : Hand} (hk : HandOk h) {a b : Chord} {g k : Grip} : ∀ {f : Nat}, 0 ≤ slU h a g b k f ∧ slU h a g b k f ≤ 1000 * f
  | 0 => by rw [slU]; omega
  | f + 1 => by
    have h1 := slU_bound hk (a := a) (b := b) (g := g) (k := k) (f := f)
    have h2 := hk.slide
    rw [slU, slT]
    split <;> omega

set_option maxHeartbeats 4000000 in
theorem step_fn (h : Hand) (hk : HandOk h) (a b : Chord) (ha : ChordOk a) (hb : ChordOk b) (hfol : Fol a b) (fa : FitC a) (fb : FitC b) (g k : Grip) (lg : g.fingers.length = a.down.length) (lk : k.fingers.length = b.down.length)
    (pg : 1 ≤ g.pos ∧ g.pos ≤ 18) (pk : 1 ≤ k.pos ∧ k.pos ≤ 18) : Fn Try.prog Gd 83 [h.val, a.val, g.val, b.val, k.val] (.tup [vint (stepR h a g b k).1, vbool (stepR h a g b k).2]) := by
  refine Fn.of_vx0 k_hand_step (by simp) (by rw [V.pures, pure_hand, V.pures, pure_chord, V.pures, pure_grip, V.pures, pure_chord, V.pures, pure_grip]; rfl) ?_
  have n4 := hk.n4
  have n1 := hk.n1
  have D1 := fun co => down_fn a co fa.big.1
  have D2 := fun co => down_fn b co fb.big.1
  have PL1 := fun v => places_fn a fa g lg v
  have PL2 := fun v => places_fn b fb k lk v
  have DS := distance_fn g.pos k.pos (by omega)
  have hb3 := fb.2.1
  unfold Chord.val Chord.cells at D1 D2
  unfold Chord.val Chord.cells Grip.val Grip.cells at PL1 PL2
  unfold c_hand_step Hand.val Chord.val Chord.cells Grip.val Grip.cells
  have hdd : 0 ≤ dist g.pos k.pos ∧ dist g.pos k.pos ≤ 100 := ⟨dist_le, dist_bound (by omega) (by omega)⟩
  replace lg := Hid.mk lg
  replace lk := Hid.mk lk
  replace pg := Hid.mk pg
  replace pk := Hid.mk pk
  repeat' (with_reducible first | refine x_ops ?_ | refine wk ?_ | ((first | refine gd1 ?_ ?_ | refine gd2 ?_ ?_ | refine gd3 ?_ ?_) <;> (first | exact @False.elim _ | intro hc)))
  refine x_loopF w_hand_step_p5 (by kernel_rfl) b.held.length (fun q t => t 23 = vint (q : Int) ∧ ∀ i, i < q → g.fingers.getD (fI a.down (b.held.getD i 0)) 0 = k.fingers.getD (fI b.down (b.held.getD i 0)) 0) ?_ ?_
  · exact ⟨vv, fun i h => by omega⟩
  rintro q t hq ⟨h23, hJ⟩
  by_cases hql : q < b.held.length
  · have g1 := ints_at hql
    have c2 : (q : Int) < (b.held.length : Int) := by omega
    have w2 := w_add1 (k := q) (by omega)
    have f1 := fol_found hb hfol hql
    have f2 := hb.held q hql
    have d1 : dnI a.down (b.held.getD q 0) = ((fI a.down (b.held.getD q 0) : Nat) : Int) := by rw [dnI, if_pos f1]
    have d2 : dnI b.down (b.held.getD q 0) = ((fI b.down (b.held.getD q 0) : Nat) : Int) := by rw [dnI, if_pos f2]
    have g2 := ints_at (l := g.fingers) (k := fI a.down (b.held.getD q 0)) (by rw [lg.out]; exact f1)
    have g3 := ints_at (l := k.fingers) (k := fI b.down (b.held.getD q 0)) (by rw [lk.out]; exact f2)
    have c3 : ((fI a.down (b.held.getD q 0) : Nat) : Int) < (g.fingers.length : Int) := by rw [lg.out]; omega
    have c4 : ((fI b.down (b.held.getD q 0) : Nat) : Int) < (k.fingers.length : Int) := by rw [lk.out]; omega
    clear f1 f2
    repeat' (with_reducible first | refine x_ops ?_ | refine wk ?_ | (with_reducible refine xc (D1 _) ?_) | (with_reducible refine xc (D2 _) ?_) | ((first | refine gd1 ?_ ?_ | refine gd2 ?_ ?_ | refine gd3 ?_ ?_) <;> (first | exact @False.elim _ | intro hc)))
    · rw [stepR_no (fun hs => ?_)]
      · exact finV_dry rfl vv
      · have := hs.1 q hql
        rw [this] at hc
        simp at hc
    · refine nf (by omega) ⟨vv, fun i h => ?_⟩ rfl
      by_cases hi : i = q
      · subst hi; exact eq_of_beq hc
      · exact hJ i (by omega)
  have hJ : HeldOk a g b k := fun i hi => hJ i (by omega)
  have c2 : ¬ (q : Int) < (b.held.length : Int) := by omega
  clear hql hq D1 D2
  replace hJ := Hid.mk hJ
  have hok : Hid (StepOk h a g b k ↔ ¬ (bothD a b ∧ h.jump < dist g.pos k.pos)) := ⟨⟨fun hs => hs.2, fun hs => ⟨hJ.out, hs⟩⟩⟩
  have hsc : Hid (stepC h a g b k = h.shift * dist g.pos k.pos + (if bothD a b ∧ 0 < dist g.pos k.pos then h.lift else 0) + (if bothD a b then slU h a g b k h.low.length else 0)) := ⟨rfl⟩
  have hsh := mul_bound hk.shift hdd
  have hlf := hk.lift
  generalize dist g.pos k.pos = dd at DS hok hsc hdd hsh
  have w3 : IntKind.i64.wrap (h.shift * dd) = h.shift * dd := w_in (by omega)
  have w4 : IntKind.i64.wrap (h.shift * dd + h.lift) = h.shift * dd + h.lift := w_in (by omega)
  by_cases hbo : bothD a b
  case neg =>
    have hst : StepOk h a g b k := hok.out.2 fun hh => hbo hh.1
    rw [stepR_ok hst, hsc.out, if_neg (fun hh => hbo hh.1), if_neg hbo]
    unfold bothD at hbo
    clear hst hsh hlf hdd
    by_cases h1 : 0 < a.down.length
    · have c5 : (0 : Int) < (a.down.length : Int) := by omega
      have c6 : ¬ (0 : Int) < (b.down.length : Int) := by omega
      clear hbo h1
      repeat' (with_reducible first | refine x_ops ?_ | refine wk ?_ | (with_reducible refine xc (DS) ?_) | ((first | refine gd1 ?_ ?_ | refine gd2 ?_ ?_ | refine gd3 ?_ ?_) <;> (first | exact @False.elim _ | intro hc)))
      refine x_loopF w_hand_step_p13 (by kernel_rfl) 0 (fun f t => t 17 = vint 1 ∧ t 16 = vint (h.shift * dd)) ?_ ?_
      · exact ⟨vv, vv⟩
      rintro f t2 hf ⟨h17, h16⟩
      have c7 : (1 : Int) ≤ (h.low.length : Int) := by omega
      repeat' (with_reducible first | refine x_ops ?_ | refine wk ?_ | ((first | refine gd1 ?_ ?_ | refine gd2 ?_ ?_ | refine gd3 ?_ ?_) <;> (first | exact @False.elim _ | intro hc)))
      exact finV_dry rfl (by (simp only [go_sem, Nat.reduceAdd, Nat.reduceEqDiff, Nat.reduceLT, Nat.reduceLeDiff, Nat.reduceMul, Nat.reduceSub, Nat.reducePow, Nat.reduceDiv, Nat.reduceMod, Nat.reduceBEq, Int.reduceBEq, Int.reduceLT, reduceIte, Int.add_zero, h16]); first | done | rfl)
    · have c5 : ¬ (0 : Int) < (a.down.length : Int) := by omega
      clear hbo h1
      repeat' (with_reducible first | refine x_ops ?_ | refine wk ?_ | (with_reducible refine xc (DS) ?_) | ((first | refine gd1 ?_ ?_ | refine gd2 ?_ ?_ | refine gd3 ?_ ?_) <;> (first | exact @False.elim _ | intro hc)))
      refine x_loopF w_hand_step_p13 (by kernel_rfl) 0 (fun f t => t 17 = vint 1 ∧ t 16 = vint (h.shift * dd)) ?_ ?_
      · exact ⟨vv, vv⟩
      rintro f t2 hf ⟨h17, h16⟩
      have c7 : (1 : Int) ≤ (h.low.length : Int) := by omega
      repeat' (with_reducible first | refine x_ops ?_ | refine wk ?_ | ((first | refine gd1 ?_ ?_ | refine gd2 ?_ ?_ | refine gd3 ?_ ?_) <;> (first | exact @False.elim _ | intro hc)))
      exact finV_dry rfl (by (simp only [go_sem, Nat.reduceAdd, Nat.reduceEqDiff, Nat.reduceLT, Nat.reduceLeDiff, Nat.reduceMul, Nat.reduceSub, Nat.reducePow, Nat.reduceDiv, Nat.reduceMod, Nat.reduceBEq, Int.reduceBEq, Int.reduceLT, reduceIte, Int.add_zero, h16]); first | done | rfl)
  have c5 : (0 : Int) < (a.down.length : Int) := by have := hbo.1; omega
  have c6 : (0 : Int) < (b.down.length : Int) := by have := hbo.2; omega
  by_cases hj : h.jump < dd
  · rw [stepR_no (fun hs => hok.out.1 hs ⟨hbo, hj⟩)]
    clear hsh hlf hdd hbo
    repeat' (with_reducible first | refine x_ops ?_ | refine wk ?_ | (with_reducible refine xc (DS) ?_) | ((first | refine gd1 ?_ ?_ | refine gd2 ?_ ?_ | refine gd3 ?_ ?_) <;> (first | exact @False.elim _ | intro hc)))
    exact finV_dry rfl vv
  have hst : StepOk h a g b k := hok.out.2 fun hh => hj hh.2
  rw [stepR_ok hst, hsc.out, if_pos hbo]
  obtain ⟨L, hL, hL1⟩ : ∃ L : Int, (if bothD a b ∧ 0 < dd then h.lift else 0) = L ∧ 0 ≤ L ∧ L ≤ 1000 := ⟨_, rfl, by split <;> omega⟩
  rw [hL]
  replace hL := Hid.mk hL
  replace hbo := Hid.mk hbo
  have w5 : ∀ f, f ≤ h.low.length → IntKind.i64.wrap (h.shift * dd + L + slU h a g b k f + h.slide) = h.shift * dd + L + slU h a g b k f + h.slide := fun f hf => by
    have h1 := slU_bound hk (a := a) (b := b) (g := g) (k := k) (f := f)
    have h2 := hk.slide
    exact w_in (by omega)
  replace w5 := Hid.mk w5
  have key : ∀ (s0 : St), s0.t 3 = s0.t 3 → True := fun _ _ => trivial
  have mid : Hid (h.shift * dd + (if bothD a b ∧ 0 < dd then h.lift else 0) = h.shift * dd + L) := ⟨by rw [hL.out]⟩
  clear hst hok hsc key hdd hsh hlf
  by_cases h0 : 0 < dd
  · have hLL : L = h.lift := by rw [← hL.out, if_pos ⟨hbo.out, h0⟩]
    subst hLL
    repeat' (with_reducible first | refine x_ops ?_ | refine wk ?_ | (with_reducible refine xc (DS) ?_) | ((first | refine gd1 ?_ ?_ | refine gd2 ?_ ?_ | refine gd3 ?_ ?_) <;> (first | exact @False.elim _ | intro hc)))
    refine x_loopW w_hand_step_p13 (by kernel_rfl) h.low.length (fun f t m => t 17 = vint ((f + 1 : Nat) : Int) ∧ t 16 = vint (h.shift * dd + h.lift + slU h a g b k f) ∧
      m.obj 0 = some (.box [tIs h.low, tIs h.high, tBs h.barre, vint h.top, vint h.jump, vint h.shift, vint h.lift, vint h.bar, vint h.stretch, vint h.slide] 25) ∧ m.obj 1 = some (.box [tPs a.down, tIs a.held, tIs a.opn] 47) ∧
      m.obj 2 = some (.box [vint g.pos, tIs g.fingers] 53) ∧ m.obj 3 = some (.box [tPs b.down, tIs b.held, tIs b.opn] 47) ∧ m.obj 4 = some (.box [vint k.pos, tIs k.fingers] 53) ∧ 4 < m.next) ?_ ?_
    · exact ⟨vv, by (simp only [go_sem, Nat.reduceAdd, Nat.reduceEqDiff, Nat.reduceLT, Nat.reduceLeDiff, Nat.reduceMul, Nat.reduceSub, Nat.reducePow, Nat.reduceDiv, Nat.reduceMod, Nat.reduceBEq, Int.reduceBEq, Int.reduceLT, reduceIte, slU, Int.add_zero]); first | done | rfl, vv, vv, vv, vv, vv, by ((refine ve ?_; try exact True.intro)); try omega⟩
    rintro f t2 m hf ⟨h17, h16, m0, m1, m2, m3, m4, hn⟩
    have hn0 : 0 < m.next := by omega
    have hn1 : 1 < m.next := by omega
    have hn2 : 2 < m.next := by omega
    have hn3 : 3 < m.next := by omega
    by_cases hfl : f < h.low.length
    · have c7 : ((f + 1 : Nat) : Int) ≤ (h.low.length : Int) := by omega
      have w7 : IntKind.i64.wrap (((f + 1 : Nat) : Int) + 1) = ((f + 1 + 1 : Nat) : Int) := w_add1 (by omega)
      have w8 : IntKind.i64.wrap (h.shift * dd + h.lift + slU h a g b k f + h.slide) = h.shift * dd + h.lift + slU h a g b k f + h.slide := w5.out f (by omega)
      have P1 := PL1 ((f + 1 : Nat) : Int)
      have P2 := PL2 ((f + 1 : Nat) : Int)
      have eP1 : plU a.down g.fingers ((f + 1 : Nat) : Int) a.down.length = plF a g f := rfl
      have eP2 : plU b.down k.fingers ((f + 1 : Nat) : Int) b.down.length = plF b k f := rfl
      rw [eP1] at P1
      rw [eP2] at P2
      have hU : slU h a g b k (f + 1) = slU h a g b k f + slT h a g b k f := rfl
      have hT : slT h a g b k f = if 0 < (plF a g f).length ∧ 0 < (plF b k f).length ∧ cmnB (plF a g f) (plF b k f) = false then h.slide else 0 := rfl
      have l1 := plU_len a.down g.fingers ((f + 1 : Nat) : Int) a.down.length
      have l2 := plU_len b.down k.fingers ((f + 1 : Nat) : Int) b.down.length
      rw [eP1] at l1
      rw [eP2] at l2
      have fa1 := fa.1
      have fb1 := fb.1
      have CP : Fn Try.prog Gd 120 [tPs (plF a g f), .fn 121 [.ept [.sl (plF b k f).length ((plF b k f).flatMap plE) .no] 0]] (vbool (cmnB (plF a g f) (plF b k f))) :=
        containsP_fn (plF a g f) (fun x => memB x (plF b k f)) call_step1 rfl rfl (step1_fn (plF b k f) (by omega)) (by omega)
      clear eP1 eP2 l1 l2 fa1 fb1 PL1 PL2 w5
      generalize hu : slU h a g b k f = u at *
      generalize hu2 : slU h a g b k (f + 1) = u2 at *
      generalize hc1 : cmnB (plF a g f) (plF b k f) = cc at *
      replace hu := Hid.mk hu
      replace hu2 := Hid.mk hu2
      replace hc1 := Hid.mk hc1
      have zero : ¬ (0 < (plF a g f).length ∧ 0 < (plF b k f).length ∧ cc = false) → u2 = u := fun hh => by rw [if_neg hh] at hT; rw [hU, hT]; omega
      have some' : (0 < (plF a g f).length ∧ 0 < (plF b k f).length ∧ cc = false) → u2 = u + h.slide := fun hh => by rw [if_pos hh] at hT; rw [hU, hT]
      replace zero := Hid.mk zero
      replace some' := Hid.mk some'
      clear hU hT
      by_cases z1 : 0 < (plF a g f).length
      · have z1' : (0 : Int) < ((plF a g f).length : Int) := by omega
        by_cases z2 : 0 < (plF b k f).length
        · have z2' : (0 : Int) < ((plF b k f).length : Int) := by omega
          repeat' (with_reducible first | refine x_ops ?_ | refine wk ?_ | (with_reducible refine xc (P1) ?_) | (with_reducible refine xc (P2) ?_) | ((first | refine gd1 ?_ ?_ | refine gd2 ?_ ?_ | refine gd3 ?_ ?_) <;> (first | exact @False.elim _ | intro hc)))
          refine x_lend allS CP rfl ?_ ?_
          · (simp only [go_sem, Nat.reduceAdd, Nat.reduceEqDiff, Nat.reduceLT, Nat.reduceLeDiff, Nat.reduceMul, Nat.reduceSub, Nat.reducePow, Nat.reduceDiv, Nat.reduceMod, Nat.reduceBEq, Int.reduceBEq, Int.reduceLT, reduceIte, V.norms, V.norm, tIs, tBs, tPs, *])
            exact .cons (.sl _ _ _) (.cons (.fn (.cons (.ptr rfl vw (.cons (.sl _ _ _) .nil) rfl) .nil)) .nil)
          cases cc
          · have e2 := some'.out ⟨z1, z2, rfl⟩
            replace e2 := Hid.mk e2
            repeat' (with_reducible first | refine x_ops ?_ | refine wk ?_ | ((first | refine gd1 ?_ ?_ | refine gd2 ?_ ?_ | refine gd3 ?_ ?_) <;> (first | exact @False.elim _ | intro hc)))
            refine nx (by omega) ⟨vv, by rw [hu2.out, e2.out, ← Int.add_assoc]; exact vv, ?_, ?_, ?_, ?_, ?_, by ((refine ve ?_; try exact True.intro)); omega⟩
            · exact vw
            · exact vw
            · exact vw
            · exact vw
            · exact vw
          · have e2 := zero.out (fun hh => by cases hh.2.2)
            replace e2 := Hid.mk e2
            repeat' (with_reducible first | refine x_ops ?_ | refine wk ?_ | ((first | refine gd1 ?_ ?_ | refine gd2 ?_ ?_ | refine gd3 ?_ ?_) <;> (first | exact @False.elim _ | intro hc)))
            refine nx (by omega) ⟨vv, by rw [hu2.out, e2.out]; exact vw, ?_, ?_, ?_, ?_, ?_, by ((refine ve ?_; try exact True.intro)); omega⟩
            · exact vw
            · exact vw
            · exact vw
            · exact vw
            · exact vw
        · have z2' : ¬ (0 : Int) < ((plF b k f).length : Int) := by omega
          have e2 := zero.out (fun hh => z2 hh.2.1)
          replace e2 := Hid.mk e2
          repeat' (with_reducible first | refine x_ops ?_ | refine wk ?_ | (with_reducible refine xc (P1) ?_) | (with_reducible refine xc (P2) ?_) | ((first | refine gd1 ?_ ?_ | refine gd2 ?_ ?_ | refine gd3 ?_ ?_) <;> (first | exact @False.elim _ | intro hc)))
          refine nx (by omega) ⟨vv, by rw [hu2.out, e2.out]; exact vw, ?_, ?_, ?_, ?_, ?_, by ((refine ve ?_; try exact True.intro)); omega⟩
          · exact vw
          · exact vw
          · exact vw
          · exact vw
          · exact vw
      · have z1' : ¬ (0 : Int) < ((plF a g f).length : Int) := by omega
        have e2 := zero.out (fun hh => z1 hh.1)
        replace e2 := Hid.mk e2
        repeat' (with_reducible first | refine x_ops ?_ | refine wk ?_ | (with_reducible refine xc (P1) ?_) | (with_reducible refine xc (P2) ?_) | ((first | refine gd1 ?_ ?_ | refine gd2 ?_ ?_ | refine gd3 ?_ ?_) <;> (first | exact @False.elim _ | intro hc)))
        refine nx (by omega) ⟨vv, by rw [hu2.out, e2.out]; exact vw, ?_, ?_, ?_, ?_, ?_, by ((refine ve ?_; try exact True.intro)); omega⟩
        · exact vw
        · exact vw
        · exact vw
        · exact vw
        · exact vw
    · have hfe : f = h.low.length := by omega
      subst hfe
      have c7 : ¬ ((h.low.length + 1 : Nat) : Int) ≤ (h.low.length : Int) := by omega
      repeat' (with_reducible first | refine x_ops ?_ | refine wk ?_ | ((first | refine gd1 ?_ ?_ | refine gd2 ?_ ?_ | refine gd3 ?_ ?_) <;> (first | exact @False.elim _ | intro hc)))
      exact finV_dry rfl vv
  · have hLL : L = 0 := by rw [← hL.out, if_neg fun hh => h0 hh.2]
    subst hLL
    rw [Int.add_zero]
    repeat' (with_reducible first | refine x_ops ?_ | refine wk ?_ | (with_reducible refine xc (DS) ?_) | ((first | refine gd1 ?_ ?_ | refine gd2 ?_ ?_ | refine gd3 ?_ ?_) <;> (first | exact @False.elim _ | intro hc)))
    refine x_loopW w_hand_step_p13 (by kernel_rfl) h.low.length (fun f t m => t 17 = vint ((f + 1 : Nat) : Int) ∧ t 16 = vint (h.shift * dd + slU h a g b k f) ∧
      m.obj 0 = some (.box [tIs h.low, tIs h.high, tBs h.barre, vint h.top, vint h.jump, vint h.shift, vint h.lift, vint h.bar, vint h.stretch, vint h.slide] 25) ∧ m.obj 1 = some (.box [tPs a.down, tIs a.held, tIs a.opn] 47) ∧
      m.obj 2 = some (.box [vint g.pos, tIs g.fingers] 53) ∧ m.obj 3 = some (.box [tPs b.down, tIs b.held, tIs b.opn] 47) ∧ m.obj 4 = some (.box [vint k.pos, tIs k.fingers] 53) ∧ 4 < m.next) ?_ ?_
    · exact ⟨vv, by (simp only [go_sem, Nat.reduceAdd, Nat.reduceEqDiff, Nat.reduceLT, Nat.reduceLeDiff, Nat.reduceMul, Nat.reduceSub, Nat.reducePow, Nat.reduceDiv, Nat.reduceMod, Nat.reduceBEq, Int.reduceBEq, Int.reduceLT, reduceIte, slU, Int.add_zero]); first | done | rfl, vv, vv, vv, vv, vv, by ((refine ve ?_; try exact True.intro)); try omega⟩
    rintro f t2 m hf ⟨h17, h16, m0, m1, m2, m3, m4, hn⟩
    have hn0 : 0 < m.next := by omega
    have hn1 : 1 < m.next := by omega
    have hn2 : 2 < m.next := by omega
    have hn3 : 3 < m.next := by omega
    by_cases hfl : f < h.low.length
    · have c7 : ((f + 1 : Nat) : Int) ≤ (h.low.length : Int) := by omega
      have w7 : IntKind.i64.wrap (((f + 1 : Nat) : Int) + 1) = ((f + 1 + 1 : Nat) : Int) := w_add1 (by omega)
      have w8 : IntKind.i64.wrap (h.shift * dd + slU h a g b k f + h.slide) = h.shift * dd + slU h a g b k f + h.slide := by have := w5.out f (by omega); rwa [Int.add_zero] at this
      have P1 := PL1 ((f + 1 : Nat) : Int)
      have P2 := PL2 ((f + 1 : Nat) : Int)
      have eP1 : plU a.down g.fingers ((f + 1 : Nat) : Int) a.down.length = plF a g f := rfl
      have eP2 : plU b.down k.fingers ((f + 1 : Nat) : Int) b.down.length = plF b k f := rfl
      rw [eP1] at P1
      rw [eP2] at P2
      have hU : slU h a g b k (f + 1) = slU h a g b k f + slT h a g b k f := rfl
      have hT : slT h a g b k f = if 0 < (plF a g f).length ∧ 0 < (plF b k f).length ∧ cmnB (plF a g f) (plF b k f) = false then h.slide else 0 := rfl
      have l1 := plU_len a.down g.fingers ((f + 1 : Nat) : Int) a.down.length
      have l2 := plU_len b.down k.fingers ((f + 1 : Nat) : Int) b.down.length
      rw [eP1] at l1
      rw [eP2] at l2
      have fa1 := fa.1
      have fb1 := fb.1
      have CP : Fn Try.prog Gd 120 [tPs (plF a g f), .fn 121 [.ept [.sl (plF b k f).length ((plF b k f).flatMap plE) .no] 0]] (vbool (cmnB (plF a g f) (plF b k f))) :=
        containsP_fn (plF a g f) (fun x => memB x (plF b k f)) call_step1 rfl rfl (step1_fn (plF b k f) (by omega)) (by omega)
      clear eP1 eP2 l1 l2 fa1 fb1 PL1 PL2 w5
      generalize hu : slU h a g b k f = u at *
      generalize hu2 : slU h a g b k (f + 1) = u2 at *
      generalize hc1 : cmnB (plF a g f) (plF b k f) = cc at *
      replace hu := Hid.mk hu
      replace hu2 := Hid.mk hu2
      replace hc1 := Hid.mk hc1
      have zero : ¬ (0 < (plF a g f).length ∧ 0 < (plF b k f).length ∧ cc = false) → u2 = u := fun hh => by rw [if_neg hh] at hT; rw [hU, hT]; omega
      have some' : (0 < (plF a g f).length ∧ 0 < (plF b k f).length ∧ cc = false) → u2 = u + h.slide := fun hh => by rw [if_pos hh] at hT; rw [hU, hT]
      replace zero := Hid.mk zero
      replace some' := Hid.mk some'
      clear hU hT
      by_cases z1 : 0 < (plF a g f).length
      · have z1' : (0 : Int) < ((plF a g f).length : Int) := by omega
        by_cases z2 : 0 < (plF b k f).length
        · have z2' : (0 : Int) < ((plF b k f).length : Int) := by omega
          repeat' (with_reducible first | refine x_ops ?_ | refine wk ?_ | (with_reducible refine xc (P1) ?_) | (with_reducible refine xc (P2) ?_) | ((first | refine gd1 ?_ ?_ | refine gd2 ?_ ?_ | refine gd3 ?_ ?_) <;> (first | exact @False.elim _ | intro hc)))
          refine x_lend allS CP rfl ?_ ?_
          · (simp only [go_sem, Nat.reduceAdd, Nat.reduceEqDiff, Nat.reduceLT, Nat.reduceLeDiff, Nat.reduceMul, Nat.reduceSub, Nat.reducePow, Nat.reduceDiv, Nat.reduceMod, Nat.reduceBEq, Int.reduceBEq, Int.reduceLT, reduceIte, V.norms, V.norm, tIs, tBs, tPs, *])
            exact .cons (.sl _ _ _) (.cons (.fn (.cons (.ptr rfl vw (.cons (.sl _ _ _) .nil) rfl) .nil)) .nil)
          cases cc
          · have e2 := some'.out ⟨z1, z2, rfl⟩
            replace e2 := Hid.mk e2
            repeat' (with_reducible first | refine x_ops ?_ | refine wk ?_ | ((first | refine gd1 ?_ ?_ | refine gd2 ?_ ?_ | refine gd3 ?_ ?_) <;> (first | exact @False.elim _ | intro hc)))
            refine nx (by omega) ⟨vv, by rw [hu2.out, e2.out, ← Int.add_assoc]; exact vv, ?_, ?_, ?_, ?_, ?_, by ((refine ve ?_; try exact True.intro)); omega⟩
            · exact vw
            · exact vw
            · exact vw
            · exact vw
            · exact vw
          · have e2 := zero.out (fun hh => by cases hh.2.2)
            replace e2 := Hid.mk e2
            repeat' (with_reducible first | refine x_ops ?_ | refine wk ?_ | ((first | refine gd1 ?_ ?_ | refine gd2 ?_ ?_ | refine gd3 ?_ ?_) <;> (first | exact @False.elim _ | intro hc)))
            refine nx (by omega) ⟨vv, by rw [hu2.out, e2.out]; exact vw, ?_, ?_, ?_, ?_, ?_, by ((refine ve ?_; try exact True.intro)); omega⟩
            · exact vw
            · exact vw
            · exact vw
            · exact vw
            · exact vw
        · have z2' : ¬ (0 : Int) < ((plF b k f).length : Int) := by omega
          have e2 := zero.out (fun hh => z2 hh.2.1)
          replace e2 := Hid.mk e2
          repeat' (with_reducible first | refine x_ops ?_ | refine wk ?_ | (with_reducible refine xc (P1) ?_) | (with_reducible refine xc (P2) ?_) | ((first | refine gd1 ?_ ?_ | refine gd2 ?_ ?_ | refine gd3 ?_ ?_) <;> (first | exact @False.elim _ | intro hc)))
          refine nx (by omega) ⟨vv, by rw [hu2.out, e2.out]; exact vw, ?_, ?_, ?_, ?_, ?_, by ((refine ve ?_; try exact True.intro)); omega⟩
          · exact vw
          · exact vw
          · exact vw
          · exact vw
          · exact vw
      · have z1' : ¬ (0 : Int) < ((plF a g f).length : Int) := by omega
        have e2 := zero.out (fun hh => z1 hh.1)
        replace e2 := Hid.mk e2
        repeat' (with_reducible first | refine x_ops ?_ | refine wk ?_ | (with_reducible refine xc (P1) ?_) | (with_reducible refine xc (P2) ?_) | ((first | refine gd1 ?_ ?_ | refine gd2 ?_ ?_ | refine gd3 ?_ ?_) <;> (first | exact @False.elim _ | intro hc)))
        refine nx (by omega) ⟨vv, by rw [hu2.out, e2.out]; exact vw, ?_, ?_, ?_, ?_, ?_, by ((refine ve ?_; try exact True.intro)); omega⟩
        · exact vw
        · exact vw
        · exact vw
        · exact vw
        · exact vw
    · have hfe : f = h.low.length := by omega
      subst hfe
      have c7 : ¬ ((h.low.length + 1 : Nat) : Int) ≤ (h.low.length : Int) := by omega
      repeat' (with_reducible first | refine x_ops ?_ | refine wk ?_ | ((first | refine gd1 ?_ ?_ | refine gd2 ?_ ?_ | refine gd3 ?_ ?_) <;> (first | exact @False.elim _ | intro hc)))
      exact finV_dry rfl vv
end Go.Proofs.Ytojjdkoglhecbaa
namespace Go.Proofs.Ytojjdkoglhecbaa
open Go.RowKit
set_option linter.unusedSimpArgs false
set_option linter.unusedVariables false

theorem chs_at1 {l : List Chord} {k : Nat} (h : k < l.length) : (l.flatMap Chord.cells)[k * 3 + 1]? = some (tIs (l.getD k noC).held) := by
  rw [flat_at (j := 1) chs_l noC h (by decide)]; rfl
set_option maxHeartbeats 1000000 in
theorem rcheckchords_fn (l : List Chord) (hl : Fits l) : Fn Try.prog Gd 27 [tCs l] (vint (seqE l)) := by
  refine Fn.of_vx0 k_theorboref06_CheckChords (by simp) (by rw [V.pures, pure_tCs]; rfl) ?_
  have hl0 := hl.1
  unfold c_theorboref06_CheckChords tCs
  by_cases hm : 400 < l.length
  · have c1 : (400 : Int) < (l.length : Int) := by omega
    repeat' (with_reducible first | refine x_ops ?_ | refine wk ?_ | ((first | refine gd1 ?_ ?_ | refine gd2 ?_ ?_ | refine gd3 ?_ ?_) <;> (first | exact @False.elim _ | intro hc)))
    exact finV_lit vv (seq_many hm)
  have c1 : ¬ (400 : Int) < (l.length : Int) := by omega
  repeat' (with_reducible first | refine x_ops ?_ | refine wk ?_ | ((first | refine gd1 ?_ ?_ | refine gd2 ?_ ?_ | refine gd3 ?_ ?_) <;> (first | exact @False.elim _ | intro hc)))
  refine x_loopF w_theorboref06_CheckChords_p11 (by kernel_rfl) l.length (fun k t => t 3 = vint (k : Int) ∧ ∀ i, i < k → ChordOk (l.getD i noC) ∧ (0 < i → Fol (l.getD (i - 1) noC) (l.getD i noC))) ?_ ?_
  · exact ⟨vv, fun i h => by omega⟩
  rintro k t hk ⟨h3, hI⟩
  by_cases hlt : k < l.length
  · have g1 := chs_take hlt
    have g2 := chs_len l
    have g3 := chs_at1 hlt
    have c2 : (k : Int) < (l.length : Int) := by omega
    have c3 : k * 3 + 3 ≤ l.length * 3 := by omega
    have w2 := w_add1 (k := k) (by omega)
    have R := good_fn (l.getD k noC) (hl.at k)
    cases hr : rgtB (l.getD k noC)
    · rw [hr] at R
      unfold Chord.val Chord.cells at R
      repeat' (with_reducible first | refine x_ops ?_ | refine wk ?_ | (with_reducible refine xc (R) ?_) | ((first | refine gd1 ?_ ?_ | refine gd2 ?_ ?_ | refine gd3 ?_ ?_) <;> (first | exact @False.elim _ | intro hc)))
      refine finV_lit vv (seq_bad hm fun hs => ?_)
      rw [rgt_true.2 (hs k hlt).1] at hr
      cases hr
    rw [hr] at R
    have hok := rgt_true.1 hr
    unfold Chord.val Chord.cells at R
    repeat' (with_reducible first | refine x_ops ?_ | refine wk ?_ | (with_reducible refine xc (R) ?_) | ((first | refine gd1 ?_ ?_ | refine gd2 ?_ ?_ | refine gd3 ?_ ?_) <;> (first | exact @False.elim _ | intro hc)))
    refine x_loopF w_theorboref06_CheckChords_p6 (by kernel_rfl) (l.getD k noC).held.length (fun j t => t 4 = vint (j : Int) ∧ ∀ i, i < j → plA (l.getD (k - 1) noC).down ((l.getD k noC).held.getD i 0) = plA (l.getD k noC).down ((l.getD k noC).held.getD i 0)) ?_ ?_
    · exact ⟨vv, fun i h => by omega⟩
    rintro q t' hq ⟨h4, hJ⟩
    by_cases hk0 : 0 < k
    · have c6 : (0 : Int) < (k : Int) := by omega
      by_cases hql : q < (l.getD k noC).held.length
      · have g4 := chs_take (l := l) (k := k - 1) (by omega)
        have g5 := ints_at hql
        have c4 : ((k - 1 : Nat) : Int) < (l.length : Int) := by omega
        have c5 : (k - 1) * 3 + 3 ≤ l.length * 3 := by omega
        have c7 : (q : Int) < ((l.getD k noC).held.length : Int) := by omega
        have w1 := w_sub1 hk0 (by omega)
        have w3 := w_add1 (k := q) (by have := (hl.at k).2.1; omega)
        have D1 := fun co => place_fn (l.getD k noC) co (hl.at k).1
        have D2 := fun co => place_fn (l.getD (k - 1) noC) co (hl.at (k - 1)).1
        unfold Chord.val Chord.cells at D1 D2
        have eqk := eq_pl (plA (l.getD k noC).down ((l.getD k noC).held.getD q 0)) (plA (l.getD (k - 1) noC).down ((l.getD k noC).held.getD q 0))
        repeat' (with_reducible first | refine x_ops ?_ | refine wk ?_ | (with_reducible refine xc (D1 _) ?_) | (with_reducible refine xc (D2 _) ?_) | ((first | refine gd1 ?_ ?_ | refine gd2 ?_ ?_ | refine gd3 ?_ ?_) <;> (first | exact @False.elim _ | intro hc)))
        · exact finV_lit vv (seq_bad hm fun hs => hc ((hs k hlt).2 hk0 q hql).symm)
        · refine nf (by omega) ⟨vv, fun i h => ?_⟩ rfl
          by_cases hi : i = q
          · subst hi; rw [hc]
          · exact hJ i (by omega)
      · have c7 : ¬ (q : Int) < ((l.getD k noC).held.length : Int) := by omega
        repeat' (with_reducible first | refine x_ops ?_ | refine wk ?_ | ((first | refine gd1 ?_ ?_ | refine gd2 ?_ ?_ | refine gd3 ?_ ?_) <;> (first | exact @False.elim _ | intro hc)))
        refine nf (by omega) ⟨vv, fun i h => ?_⟩ rfl
        by_cases hi : i = k
        · subst hi; exact ⟨hok, fun _ j hj => hJ j (by omega)⟩
        · exact hI i (by omega)
    · have c6 : ¬ (0 : Int) < (k : Int) := by omega
      repeat' (with_reducible first | refine x_ops ?_ | refine wk ?_ | ((first | refine gd1 ?_ ?_ | refine gd2 ?_ ?_ | refine gd3 ?_ ?_) <;> (first | exact @False.elim _ | intro hc)))
      refine nf (by omega) ⟨vv, fun i h => ?_⟩ rfl
      have hi : i = k := by omega
      subst hi; exact ⟨hok, fun h => absurd h hk0⟩
  · have c2 : ¬ ((k : Int) < (l.length : Int)) := by omega
    repeat' (with_reducible first | refine x_ops ?_ | refine wk ?_ | ((first | refine gd1 ?_ ?_ | refine gd2 ?_ ?_ | refine gd3 ?_ ?_) <;> (first | exact @False.elim _ | intro hc)))
    exact finV_lit vv (seq_good hm fun i hi => hI i (by omega))
end Go.Proofs.Ytojjdkoglhecbaa
