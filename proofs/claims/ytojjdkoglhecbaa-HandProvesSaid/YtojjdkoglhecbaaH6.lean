/- Sequences of chords: the program, on values. -/
import Derived.Test.YtojjdkoglhecbaaH5
namespace Go.Proofs.Ytojjdkoglhecbaa
open Go.RowKit
set_option linter.unusedSimpArgs false
set_option linter.unusedVariables false

/-- The place on a course. -/
def plA (l : List (Int × Int)) (c : Int) : Int × Int := l.getD (fI l c) (0, 0)
/-- All held courses have the same place in the chord before. -/
def Fol (a b : Chord) : Prop := ∀ k, k < b.held.length → plA a.down (b.held.getD k 0) = plA b.down (b.held.getD k 0)
noncomputable def folB (a b : Chord) : Bool := @decide (Fol a b) (Classical.propDecidable _)
theorem fol_bad {a b : Chord} (hn : ¬ Fol a b) : Value.bool false = Value.bool (folB a b) := by unfold folB; simp [hn]
theorem fol_good {a b : Chord} (hn : Fol a b) : Value.bool true = Value.bool (folB a b) := by unfold folB; simp [hn]
theorem eq_pl (p q : Int × Int) : (p.1 == q.1 && (p.2 == q.2 && true)) = decide (p = q) := by
  rw [Bool.and_true]
  by_cases h : p = q
  · subst h; simp
  · rw [decide_eq_false h]
    obtain ⟨a, b⟩ := p
    obtain ⟨c, d⟩ := q
    by_cases h1 : a = c
    · have : b ≠ d := fun e => h (by rw [h1, e])
      simp [h1, this]
    · simp [h1]
theorem plA_found {l : List (Int × Int)} {c : Int} (h : fI l c < l.length) : (plA l c).1 = c := fI_at h
theorem plA_none {l : List (Int × Int)} {c : Int} (h : ¬ fI l c < l.length) : plA l c = (0, 0) := by
  rw [plA, List.getD_eq_getElem?_getD, List.getElem?_eq_none (by omega)]; rfl

set_option maxHeartbeats 1000000 in
theorem follows_fn (a b : Chord) (hb : ChordOk b) (hl : a.down.length ≤ 4611686018427387904 ∧ b.down.length ≤ 4611686018427387904 ∧ b.held.length ≤ 4611686018427387904) :
    Fn Try.prog Gd 66 [a.val, b.val] (vbool (folB a b)) := by
  refine Fn.of_vx0 k_hand_follows (by simp) (by rw [V.pures, pure_chord, V.pures, pure_chord]; rfl) ?_
  have D1 := fun co => down_fn a co hl.1
  have D2 := fun co => down_fn b co hl.2.1
  obtain ⟨hl1, hl2, hl3⟩ := hl
  unfold Chord.val Chord.cells at D1 D2
  unfold c_hand_follows Chord.val Chord.cells
  repeat' (with_reducible first | refine x_ops ?_ | refine wk ?_ | ((first | refine gd1 ?_ ?_ | refine gd2 ?_ ?_ | refine gd3 ?_ ?_) <;> (first | exact @False.elim _ | intro hc)))
  refine x_loopF w_hand_follows_p6 (by kernel_rfl) b.held.length (fun k t => t 11 = vint (k : Int) ∧ ∀ i, i < k → plA a.down (b.held.getD i 0) = plA b.down (b.held.getD i 0)) ?_ ?_
  · exact ⟨vv, fun i h => by omega⟩
  rintro q t hq ⟨h11, hJ⟩
  by_cases hlt : q < b.held.length
  · have g1 := ints_at hlt
    have c2 : (q : Int) < (b.held.length : Int) := by omega
    have w2 := w_add1 (k := q) (by omega)
    have hfb := hb.held q hlt
    have db : dnI b.down (b.held.getD q 0) = ((fI b.down (b.held.getD q 0) : Nat) : Int) := by rw [dnI, if_pos hfb]
    have gb := pls_take hfb
    have gb2 := pls_len b.down
    have cb : ((fI b.down (b.held.getD q 0) : Nat) : Int) < (b.down.length : Int) := by omega
    have cb2 : fI b.down (b.held.getD q 0) * 2 + 2 ≤ b.down.length * 2 := by omega
    have eb : plA b.down (b.held.getD q 0) = b.down.getD (fI b.down (b.held.getD q 0)) (0, 0) := rfl
    by_cases hfa : fI a.down (b.held.getD q 0) < a.down.length
    · have da : dnI a.down (b.held.getD q 0) = ((fI a.down (b.held.getD q 0) : Nat) : Int) := by rw [dnI, if_pos hfa]
      have ga := pls_take hfa
      have ga2 := pls_len a.down
      have ca : ((fI a.down (b.held.getD q 0) : Nat) : Int) < (a.down.length : Int) := by omega
      have ca2 : fI a.down (b.held.getD q 0) * 2 + 2 ≤ a.down.length * 2 := by omega
      have na : ¬ ((fI a.down (b.held.getD q 0) : Nat) : Int) < 0 := by omega
      have ea : plA a.down (b.held.getD q 0) = a.down.getD (fI a.down (b.held.getD q 0)) (0, 0) := rfl
      rw [← ea] at ga
      rw [← eb] at gb
      clear ea eb hfa hfb
      have eqk := eq_pl (plA a.down (b.held.getD q 0)) (plA b.down (b.held.getD q 0))
      generalize hia : fI a.down (b.held.getD q 0) = ia at *
      generalize hib : fI b.down (b.held.getD q 0) = ib at *
      generalize hpa : plA a.down (b.held.getD q 0) = pa at *
      generalize hpb : plA b.down (b.held.getD q 0) = pb at *
      replace hpa := Hid.mk hpa
      replace hpb := Hid.mk hpb
      clear hia hib
      repeat' (with_reducible first | refine x_ops ?_ | refine wk ?_ | (with_reducible refine xc (D1 _) ?_) | (with_reducible refine xc (D2 _) ?_) | ((first | refine gd1 ?_ ?_ | refine gd2 ?_ ?_ | refine gd3 ?_ ?_) <;> (first | exact @False.elim _ | intro hc)))
      · exact finV_lit vv (fol_bad fun hf => hc (by rw [← hpa.out, ← hpb.out]; exact hf q hlt))
      · refine nf (by omega) ⟨vv, fun i h => ?_⟩ rfl
        by_cases hi : i = q
        · subst hi; rw [hpa.out, hpb.out]; simpa using hc
        · exact hJ i (by omega)
    · have da : dnI a.down (b.held.getD q 0) = -1 := by rw [dnI, if_neg hfa]
      have na : (-1 : Int) < 0 := by omega
      have pn := Hid.mk (plA_none hfa)
      clear eb hfa
      repeat' (with_reducible first | refine x_ops ?_ | refine wk ?_ | (with_reducible refine xc (D1 _) ?_) | (with_reducible refine xc (D2 _) ?_) | ((first | refine gd1 ?_ ?_ | refine gd2 ?_ ?_ | refine gd3 ?_ ?_) <;> (first | exact @False.elim _ | intro hc)))
      refine finV_lit vv (fol_bad fun hf => ?_)
      have h1 := hf q hlt
      rw [pn.out] at h1
      have h2 := (hb.each _ hfb).1.1
      have h3 : (0 : Int) = (plA b.down (b.held.getD q 0)).1 := by rw [← h1]
      have h4 : (plA b.down (b.held.getD q 0)).1 = (b.down.getD (fI b.down (b.held.getD q 0)) (0, 0)).1 := rfl
      omega
  · have c1 : ¬ ((q : Int) < (b.held.length : Int)) := by omega
    repeat' (with_reducible first | refine x_ops ?_ | refine wk ?_ | ((first | refine gd1 ?_ ?_ | refine gd2 ?_ ?_ | refine gd3 ?_ ?_) <;> (first | exact @False.elim _ | intro hc)))
    exact finV_lit vv (fol_good fun i hi => hJ i (by omega))

def noC : Chord := ⟨[], [], []⟩
/-- A sequence of chords. -/
def tCs (l : List Chord) : V := .sl l.length (l.flatMap Chord.cells) .no
theorem pure_tCs (l : List Chord) : (tCs l).pure = true := by rw [tCs, V.pure]; intro t h; cases h
theorem chs_l (x : Chord) : x.cells.length = 3 := rfl
theorem chs_len (l : List Chord) : (l.flatMap Chord.cells).length = l.length * 3 := flat_len chs_l l
theorem chs_take {l : List Chord} {k : Nat} (h : k < l.length) : ((l.flatMap Chord.cells).drop (k * 3)).take 3 = [tPs (l.getD k noC).down, tIs (l.getD k noC).held, tIs (l.getD k noC).opn] := flat_take chs_l noC h
/-- Lists as long as memory allows. -/
def FitC (c : Chord) : Prop := c.down.length ≤ 8796093022208 ∧ c.held.length ≤ 17592186044416 ∧ c.opn.length ≤ 17592186044416
theorem FitC.big {c : Chord} (h : FitC c) : c.down.length ≤ 4611686018427387904 ∧ c.held.length ≤ 4611686018427387904 ∧ c.opn.length ≤ 4611686018427387904 := ⟨Nat.le_trans h.1 (by decide), Nat.le_trans h.2.1 (by decide), Nat.le_trans h.2.2 (by decide)⟩
def Fits (l : List Chord) : Prop := l.length ≤ 4611686018427387904 ∧ ∀ c ∈ l, FitC c
theorem Fits.at {l : List Chord} (h : Fits l) (k : Nat) : FitC (l.getD k noC) := by
  rw [List.getD_eq_getElem?_getD]
  cases e : l[k]? with
  | none => exact ⟨Nat.zero_le _, Nat.zero_le _, Nat.zero_le _⟩
  | some c => exact h.2 c (List.mem_of_getElem? e)
/-- A valid sequence. -/
def SeqOk (l : List Chord) : Prop := ∀ k, k < l.length → ChordOk (l.getD k noC) ∧ (0 < k → Fol (l.getD (k - 1) noC) (l.getD k noC))
noncomputable def seqE (l : List Chord) : Int := if 400 < l.length then 2 else if @decide (SeqOk l) (Classical.propDecidable _) then 0 else 1
theorem seq_many {l : List Chord} (h : 400 < l.length) : Value.int .i64 2 = Value.int .i64 (seqE l) := by rw [seqE, if_pos h]
theorem seq_bad {l : List Chord} (h : ¬ 400 < l.length) (hn : ¬ SeqOk l) : Value.int .i64 1 = Value.int .i64 (seqE l) := by rw [seqE, if_neg h, if_neg (by simp [hn])]
theorem seq_good {l : List Chord} (h : ¬ 400 < l.length) (hn : SeqOk l) : Value.int .i64 0 = Value.int .i64 (seqE l) := by rw [seqE, if_neg h, if_pos (by simp [hn])]
theorem rgt_true {c : Chord} : rgtB c = true ↔ ChordOk c := by unfold rgtB; simp
theorem fol_true {a b : Chord} : folB a b = true ↔ Fol a b := by unfold folB; simp

set_option maxHeartbeats 1000000 in
theorem checkchords_fn (l : List Chord) (hl : Fits l) : Fn Try.prog Gd 26 [tCs l] (vint (seqE l)) := by
  refine Fn.of_vx0 k_hand_CheckChords (by simp) (by rw [V.pures, pure_tCs]; rfl) ?_
  have hl0 := hl.1
  unfold c_hand_CheckChords tCs
  by_cases hm : 400 < l.length
  · have c1 : (400 : Int) < (l.length : Int) := by omega
    repeat' (with_reducible first | refine x_ops ?_ | refine wk ?_ | ((first | refine gd1 ?_ ?_ | refine gd2 ?_ ?_ | refine gd3 ?_ ?_) <;> (first | exact @False.elim _ | intro hc)))
    exact finV_lit vv (seq_many hm)
  have c1 : ¬ (400 : Int) < (l.length : Int) := by omega
  repeat' (with_reducible first | refine x_ops ?_ | refine wk ?_ | ((first | refine gd1 ?_ ?_ | refine gd2 ?_ ?_ | refine gd3 ?_ ?_) <;> (first | exact @False.elim _ | intro hc)))
  refine x_loopW w_hand_CheckChords_p7 (by kernel_rfl) l.length (fun k t m => t 10 = vint (k : Int) ∧ ∀ i, i < k → ChordOk (l.getD i noC) ∧ (0 < i → Fol (l.getD (i - 1) noC) (l.getD i noC))) ?_ ?_
  · exact ⟨vv, fun i h => by omega⟩
  rintro k t m hk ⟨h10, hI⟩
  by_cases hlt : k < l.length
  · have g1 := chs_take hlt
    have g2 := chs_len l
    have c2 : (k : Int) < (l.length : Int) := by omega
    have c3 : k * 3 + 3 ≤ l.length * 3 := by omega
    have w2 := w_add1 (k := k) (by omega)
    have R := right_fn (l.getD k noC) (hl.at k).big
    cases hr : rgtB (l.getD k noC)
    · rw [hr] at R
      unfold Chord.val Chord.cells at R
      repeat' (with_reducible first | refine x_ops ?_ | refine wk ?_ | (with_reducible refine xc (R) ?_) | ((first | refine gd1 ?_ ?_ | refine gd2 ?_ ?_ | refine gd3 ?_ ?_) <;> (first | exact @False.elim _ | intro hc)))
      refine finV_lit vv (seq_bad hm fun hs => ?_)
      rw [rgt_true.2 (hs k hlt).1] at hr
      cases hr
    rw [hr] at R
    have hok := rgt_true.1 hr
    by_cases hk0 : 0 < k
    · have g3 := chs_take (l := l) (k := k - 1) (by omega)
      have c4 : ((k - 1 : Nat) : Int) < (l.length : Int) := by omega
      have c5 : (k - 1) * 3 + 3 ≤ l.length * 3 := by omega
      have c6 : (0 : Int) < (k : Int) := by omega
      have w1 := w_sub1 hk0 (by omega)
      have F := follows_fn (l.getD (k - 1) noC) (l.getD k noC) hok ⟨(hl.at (k - 1)).big.1, (hl.at k).big.1, (hl.at k).big.2.1⟩
      cases hf : folB (l.getD (k - 1) noC) (l.getD k noC)
      · rw [hf] at F
        unfold Chord.val Chord.cells at R F
        repeat' (with_reducible first | refine x_ops ?_ | refine wk ?_ | (with_reducible refine xc (R) ?_) | (with_reducible refine xc (F) ?_) | ((first | refine gd1 ?_ ?_ | refine gd2 ?_ ?_ | refine gd3 ?_ ?_) <;> (first | exact @False.elim _ | intro hc)))
        refine finV_lit vv (seq_bad hm fun hs => ?_)
        rw [fol_true.2 ((hs k hlt).2 hk0)] at hf
        cases hf
      · rw [hf] at F
        unfold Chord.val Chord.cells at R F
        repeat' (with_reducible first | refine x_ops ?_ | refine wk ?_ | (with_reducible refine xc (R) ?_) | (with_reducible refine xc (F) ?_) | ((first | refine gd1 ?_ ?_ | refine gd2 ?_ ?_ | refine gd3 ?_ ?_) <;> (first | exact @False.elim _ | intro hc)))
        refine nx (by omega) ⟨vv, fun i h => ?_⟩
        by_cases hi : i = k
        · subst hi; exact ⟨hok, fun _ => fol_true.1 hf⟩
        · exact hI i (by omega)
    · have c6 : ¬ (0 : Int) < (k : Int) := by omega
      unfold Chord.val Chord.cells at R
      repeat' (with_reducible first | refine x_ops ?_ | refine wk ?_ | (with_reducible refine xc (R) ?_) | ((first | refine gd1 ?_ ?_ | refine gd2 ?_ ?_ | refine gd3 ?_ ?_) <;> (first | exact @False.elim _ | intro hc)))
      refine nx (by omega) ⟨vv, fun i h => ?_⟩
      have hi : i = k := by omega
      subst hi; exact ⟨hok, fun h => absurd h hk0⟩
  · have c2 : ¬ ((k : Int) < (l.length : Int)) := by omega
    repeat' (with_reducible first | refine x_ops ?_ | refine wk ?_ | ((first | refine gd1 ?_ ?_ | refine gd2 ?_ ?_ | refine gd3 ?_ ?_) <;> (first | exact @False.elim _ | intro hc)))
    exact finV_lit vv (seq_good hm fun i hi => hI i (by omega))
end Go.Proofs.Ytojjdkoglhecbaa
