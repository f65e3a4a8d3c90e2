/- The law HandCut. The law HandCertificate. -/
import Derived.Test.YtojjdkoglhecbaaG0
import Derived.Test.YtojjdkoglhecbaaWk
import Derived.Test.YtojjdkoglhecbaaZ03
import Derived.Test.YtojjdkoglhecbaaZ04
import Derived.Test.YtojjdkoglhecbaaXw
import Derived.Test.YtojjdkoglhecbaaZ06
import Derived.Test.YtojjdkoglhecbaaZ07
import Derived.Test.YtojjdkoglhecbaaZ08
set_option linter.unusedSimpArgs false
set_option linter.unusedVariables false
namespace Go.Proofs.Ytojjdkoglhecbaa
open Go.RowKit

theorem drop_getD {α : Type} {l : List α} {d i : Nat} {z : α} : (l.drop d).getD i z = l.getD (i + d) z := by
  rw [List.getD_eq_getElem?_getD, List.getElem?_drop, List.getD_eq_getElem?_getD, Nat.add_comm]
theorem take_getD_of {α : Type} {l : List α} {d i : Nat} {z : α} (h : i < d) : (l.take d).getD i z = l.getD i z := by
  rw [List.getD_eq_getElem?_getD, List.getElem?_take, if_pos h, List.getD_eq_getElem?_getD]
theorem tab_drop (h : Hand) (l : List Chord) (d : Nat) : tabG h (l.drop d) = (tabG h l).drop d := by rw [tabG, tabG, List.map_drop]
theorem tab_take (h : Hand) (l : List Chord) (d : Nat) : tabG h (l.take d) = (tabG h l).take d := by rw [tabG, tabG, List.map_take]
section
variable {h : Hand} {l : List Chord} {Gs : List (List Grip)}
theorem rsT_drop {d : Nat} : ∀ (j i : Nat), l.length - d - i = j → rsT h (l.drop d) (Gs.drop d) i = rsT h l Gs (i + d)
  | 0, i, hj => by
    rw [rsT, rsT, show (l.drop d).length - i = 0 by rw [List.length_drop]; omega, show l.length - (i + d) = 0 by omega]; rfl
  | j + 1, i, hj => by
    have ld : (l.drop d).length = l.length - d := List.length_drop ..
    rw [rsT_eq (by omega), rsT_eq (i := i + d) (by omega), rsT_drop j (i + 1) (by omega), show i + 1 + d = i + d + 1 by omega, drop_getD]
    apply List.map_congr_left
    intro g _
    rw [rsE, rsE, ld, drop_getD, drop_getD, drop_getD, show i + 1 + d = i + d + 1 by omega]
    by_cases hc : i + 1 = l.length - d
    · rw [if_pos hc, if_pos (by omega)]
    · rw [if_neg hc, if_neg (by omega)]
theorem lst_drop {d i k : Nat} : lst h (l.drop d) (Gs.drop d) i k = lst h l Gs (i + d) k := by rw [lst, lst, rsT_drop _ i rfl]
/-- What the first part costs, at least. -/
theorem lst_take (hn : NetOk h l Gs) {d : Nat} (hd : d ≤ l.length) (hn' : NetOk h (l.take d) (Gs.take d)) {B : Int} (hB : (d < l.length → ∀ q, q < (Gs.getD d []).length → ¬ lst h l Gs d q = -1 → B ≤ lst h l Gs d q) ∧ (d = l.length → B ≤ 0)) :
    ∀ (j i : Nat), d - i = j → i < d → ∀ k, k < (Gs.getD i []).length → ¬ lst h l Gs i k = -1 → ¬ lst h (l.take d) (Gs.take d) i k = -1 ∧ lst h (l.take d) (Gs.take d) i k + B ≤ lst h l Gs i k
  | 0, i, hj, hi => by omega
  | j + 1, i, hj, hi => by
    intro k hk h1
    have ld : (l.take d).length = d := by rw [List.length_take]; omega
    have hgi : (Gs.take d).getD i [] = Gs.getD i [] := take_getD_of hi
    have hli : (l.take d).getD i noC = l.getD i noC := take_getD_of hi
    have hg : grp (Gs.take d) i k = grp Gs i k := by rw [grp, grp, hgi]
    have h2 := lst_own hn (by omega) hk
    by_cases hlast : i + 1 = d
    · rw [lst_last (by omega) (by rw [hgi]; exact hk), hg, hli]
      refine ⟨by omega, ?_⟩
      by_cases hl : i + 1 = l.length
      · rw [lst_last hl hk]
        have := hB.2 (by omega)
        omega
      · obtain ⟨q, q1, q2, _, q4⟩ := lst_eq hn (by omega) hk h1
        have := lst_step hn (by omega) hk q1
        have := hB.1 (by omega) q (by rw [← hlast]; exact q1) (by rw [← hlast]; exact q2)
        rw [← hlast] at this
        omega
    · have hi1 : i + 1 < d := by omega
      obtain ⟨q, q1, q2, q3, q4⟩ := lst_eq hn (by omega) hk h1
      obtain ⟨q5, q6⟩ := lst_take hn hd hn' hB j (i + 1) (by omega) hi1 q q1 q2
      have hgi1 : (Gs.take d).getD (i + 1) [] = Gs.getD (i + 1) [] := take_getD_of hi1
      have hli1 : (l.take d).getD (i + 1) noC = l.getD (i + 1) noC := take_getD_of hi1
      have hg1 : grp (Gs.take d) (i + 1) q = grp Gs (i + 1) q := by rw [grp, grp, hgi1]
      rw [← hli, ← hg, ← hli1, ← hg1] at q3
      obtain ⟨q7, q8⟩ := lst_ub hn' (by omega) (by rw [hgi]; exact hk) (by rw [hgi1]; exact q1) q5 q3
      rw [hli, hg, hli1, hg1] at q8
      exact ⟨q7, by omega⟩
end
theorem seq_drop {l : List Chord} (hs : SeqOk l) (d : Nat) : SeqOk (l.drop d) := by
  intro k hk
  rw [List.length_drop] at hk
  obtain ⟨h1, h2⟩ := hs (k + d) (by omega)
  rw [drop_getD, drop_getD]
  exact ⟨h1, fun h0 => by have := h2 (by omega); rwa [show k + d - 1 = k - 1 + d by omega] at this⟩
theorem seq_take {l : List Chord} (hs : SeqOk l) (d : Nat) : SeqOk (l.take d) := by
  intro k hk
  rw [List.length_take] at hk
  obtain ⟨h1, h2⟩ := hs k (by omega)
  rw [take_getD_of (by omega), take_getD_of (by omega)]
  exact ⟨h1, h2⟩
theorem fits_drop {l : List Chord} (hl : Fits l) (d : Nat) : Fits (l.drop d) := ⟨by rw [List.length_drop]; have := hl.1; omega, fun c hc => hl.2 c (List.mem_of_mem_drop hc)⟩
theorem fits_take {l : List Chord} (hl : Fits l) (d : Nat) : Fits (l.take d) := ⟨by rw [List.length_take]; have := hl.1; omega, fun c hc => hl.2 c (List.mem_of_mem_take hc)⟩
theorem wv_is {h : Hand} {l : List Chord} (h1 : HandOk h) (h2 : l.length ≤ 400) (h3 : SeqOk l) (h4 : ∀ k, k < l.length → (grpA h (l.getD k noC)).length ≤ 200) : wvE h l = 0 := by
  rw [wvE, if_pos (both_is h1 h2 h3), if_pos h4]
theorem wv_drop {h : Hand} {l : List Chord} (hw : wvE h l = 0) (d : Nat) : wvE h (l.drop d) = 0 := by
  obtain ⟨hb, h1⟩ := wv_ok hw
  obtain ⟨hk, h4, hs⟩ := both_ok hb
  refine wv_is hk (by rw [List.length_drop]; omega) (seq_drop hs d) fun k hk => ?_
  rw [List.length_drop] at hk
  rw [drop_getD]; exact h1 _ (by omega)
theorem wv_take {h : Hand} {l : List Chord} (hw : wvE h l = 0) (d : Nat) : wvE h (l.take d) = 0 := by
  obtain ⟨hb, h1⟩ := wv_ok hw
  obtain ⟨hk, h4, hs⟩ := both_ok hb
  refine wv_is hk (by rw [List.length_take]; omega) (seq_take hs d) fun k hk => ?_
  rw [List.length_take] at hk
  rw [take_getD_of (by omega)]; exact h1 _ (by omega)
/-- A sequence costs at least as much as its parts. -/
theorem cut_best {h : Hand} {l : List Chord} (hl : Fits l) (hb : (bstR h l).2.2 = 0) {d : Nat} (hd : d ≤ l.length) :
    (bstR h (l.take d)).2.2 = 0 ∧ (bstR h (l.drop d)).2.2 = 0 ∧ (bstR h (l.take d)).2.1 + (bstR h (l.drop d)).2.1 ≤ (bstR h l).2.1 := by
  obtain ⟨hw, hh⟩ := bst_ok hb
  have hn := wv_net hl hw
  have wt := wv_take hw d
  have wd := wv_drop hw d
  have nt := wv_net (fits_take hl d) wt
  have nd := wv_net (fits_drop hl d) wd
  have lt : (l.take d).length = d := by rw [List.length_take]; omega
  have ld : (l.drop d).length = l.length - d := List.length_drop ..
  obtain ⟨y1, y2⟩ := bst_yes hw hh
  -- the second part
  have second : ∀ (hpos : d < l.length) (q : Nat), q < ((tabG h l).getD d []).length → ¬ lst h l (tabG h l) d q = -1 → (0 < (l.drop d).length → HasF h (l.drop d) (tabG h (l.drop d))) ∧ (rootW h (l.drop d) (tabG h (l.drop d))).1 ≤ lst h l (tabG h l) d q := by
    intro hpos q q1 q2
    have e : lst h (l.drop d) (tabG h (l.drop d)) 0 q = lst h l (tabG h l) d q := by rw [tab_drop, lst_drop, Nat.zero_add]
    have hq : q < ((tabG h (l.drop d)).getD 0 []).length := by rw [tab_drop, drop_getD, Nat.zero_add]; exact q1
    have hp : 0 < (l.drop d).length := by omega
    have hhd : HasF h (l.drop d) (tabG h (l.drop d)) := (has_iff hp).2 ⟨q, hq, by rw [e]; exact q2⟩
    exact ⟨fun _ => hhd, by rw [← e]; exact (root_min hp hhd).2 q hq (by rw [e]; exact q2)⟩
  by_cases hd0 : d = 0
  · subst hd0
    rw [List.take_zero, List.drop_zero]
    have b := bst_yes (l := []) (by simpa using wt) (fun h0 => by simp at h0)
    rw [List.length_nil, if_pos rfl] at b
    exact ⟨b.1, hb, by rw [b.2]; omega⟩
  have hpos : 0 < l.length := by omega
  obtain ⟨⟨q, q1, q2, q3⟩, _⟩ := root_min hpos (hh hpos)
  have B0 : ∃ B : Int, (bstR h (l.drop d)).2.2 = 0 ∧ (bstR h (l.drop d)).2.1 = B ∧ (d < l.length → ∀ q, q < ((tabG h l).getD d []).length → ¬ lst h l (tabG h l) d q = -1 → B ≤ lst h l (tabG h l) d q) ∧ (d = l.length → B ≤ 0) := by
    by_cases hdl : d = l.length
    · have b := bst_yes wd (fun h0 => by omega)
      rw [if_pos (by omega)] at b
      exact ⟨0, b.1, b.2, fun _ => by omega, fun _ => Int.le_refl _⟩
    · -- some grip of the chord d leads to the end
      have hdl' : d < l.length := Nat.lt_of_le_of_ne hd hdl
      have reach : ∀ n, n ≤ d → ∃ q, q < ((tabG h l).getD n []).length ∧ ¬ lst h l (tabG h l) n q = -1 := by
        intro n
        induction n with
        | zero => intro _; exact ⟨q, q1, q2⟩
        | succ n ih =>
          intro hn1
          obtain ⟨p, p1, p2⟩ := ih (Nat.le_of_succ_le hn1)
          have hn2 : n + 1 < l.length := Nat.lt_of_le_of_lt hn1 hdl'
          obtain ⟨p', p3, p4, _⟩ := lst_eq hn hn2 p1 p2
          exact ⟨p', p3, p4⟩
      obtain ⟨p, p1, p2⟩ := reach d (Nat.le_refl _)
      have s := second (by omega) p p1 p2
      have b := bst_yes wd s.1
      rw [if_neg (by omega)] at b
      exact ⟨_, b.1, b.2, fun h0 q a1 a2 => (second h0 q a1 a2).2, fun e => absurd e hdl⟩
  obtain ⟨B, b1, b2, b3⟩ := B0
  rw [tab_take] at nt
  obtain ⟨t1, t2⟩ := lst_take hn hd nt b3 _ 0 rfl (by omega) q q1 q2
  rw [← tab_take] at t1 t2
  have hq : q < ((tabG h (l.take d)).getD 0 []).length := by rw [tab_take, take_getD_of (by omega)]; exact q1
  have hp : 0 < (l.take d).length := by omega
  have hht : HasF h (l.take d) (tabG h (l.take d)) := (has_iff hp).2 ⟨q, hq, t1⟩
  have c := bst_yes wt (fun _ => hht)
  rw [if_neg (by omega)] at c
  have m := (root_min hp hht).2 q hq t1
  rw [if_neg (by omega)] at y2
  exact ⟨c.1, b1, by rw [c.2, b2, y2, q3]; omega⟩
theorem flat_taken {α : Type} {f : α → List V} {z : Nat} (hf : ∀ x, (f x).length = z) : ∀ (l : List α) (d : Nat), (l.flatMap f).take (d * z) = (l.take d).flatMap f
  | [], d => by simp
  | a :: l, 0 => by simp
  | a :: l, d + 1 => by
    rw [List.flatMap_cons, List.take_succ_cons, List.flatMap_cons, List.take_append, hf, List.take_of_length_le (by rw [hf, Nat.succ_mul]; omega), Nat.succ_mul, Nat.add_sub_cancel, flat_taken hf l d]
theorem flat_dropped {α : Type} {f : α → List V} {z : Nat} (hf : ∀ x, (f x).length = z) : ∀ (l : List α) (d : Nat), (l.flatMap f).drop (d * z) = (l.drop d).flatMap f
  | [], d => by simp
  | a :: l, 0 => by simp
  | a :: l, d + 1 => by
    rw [List.flatMap_cons, List.drop_succ_cons, List.drop_append, hf, List.drop_of_length_le (by rw [hf, Nat.succ_mul]; omega), Nat.succ_mul, Nat.add_sub_cancel, flat_dropped hf l d, List.nil_append]
theorem chs_cut (l : List Chord) {d : Nat} (hd : d ≤ l.length) :
    vslc 3 false true (.sl l.length (l.flatMap Chord.cells) .no) [.lit (.int .i64 (d : Int))] = some (.sl (l.take d).length ((l.take d).flatMap Chord.cells) .no) ∧
    vslc 3 true false (.sl l.length (l.flatMap Chord.cells) .no) [.lit (.int .i64 (d : Int))] = some (.sl (l.drop d).length ((l.drop d).flatMap Chord.cells) .no) := by
  have hz : ∀ c : Chord, c.cells.length = 3 := fun _ => rfl
  have hfl : ((l.drop d).flatMap Chord.cells).length = (l.drop d).length * 3 := flat_len hz _
  have h1 : (0 : Int) ≤ 0 ∧ (0 : Int) ≤ (d : Int) ∧ (d : Int) ≤ (l.length : Int) := ⟨by omega, by omega, by omega⟩
  have h2 : (0 : Int) ≤ (d : Int) ∧ (d : Int) ≤ (l.length : Int) ∧ (l.length : Int) ≤ (l.length : Int) := ⟨by omega, by omega, by omega⟩
  constructor
  · show (if (0 : Int) ≤ 0 ∧ (0 : Int) ≤ (d : Int) ∧ (d : Int) ≤ (l.length : Int) then some (V.sl ((d : Int).toNat - (0 : Int).toNat) (((l.flatMap Chord.cells).drop ((0 : Int).toNat * 3)).take (((d : Int).toNat - (0 : Int).toNat) * 3)) .no) else none) = _
    rw [if_pos h1, Int.toNat_natCast, show (0 : Int).toNat = 0 from rfl, Nat.zero_mul, List.drop_zero, Nat.sub_zero, flat_taken hz, List.length_take, Nat.min_eq_left hd]
  · show (if (0 : Int) ≤ (d : Int) ∧ (d : Int) ≤ (l.length : Int) ∧ (l.length : Int) ≤ (l.length : Int) then some (V.sl ((l.length : Int).toNat - (d : Int).toNat) (((l.flatMap Chord.cells).drop ((d : Int).toNat * 3)).take (((l.length : Int).toNat - (d : Int).toNat) * 3)) .no) else none) = _
    rw [if_pos h2, Int.toNat_natCast, Int.toNat_natCast, flat_dropped hz, List.take_of_length_le (by rw [hfl, List.length_drop]; exact Nat.le_refl _), List.length_drop]

set_option maxHeartbeats 4000000 in
theorem handcut_fn (h : Hand) (l : List Chord) (hl : Fits l) (k : Int) : Fn Try.prog Gd 5 [srV h l, vint k] (vbool true) := by
  refine Fn.of_vx0 k_theorbolaw06_HandCut (by simp) (by rw [V.pures, pure_sr, V.pures]; rfl) ?_
  have C0 := heavy_fn h l hl
  have C2 := Best_fn h l hl
  have C5 := works_fn
  have hB := fun hb d hd => cut_best (h := h) (d := d) hl hb hd
  have C3 := fun d => Best_fn h (l.take d) (fits_take hl d)
  have C4 := fun d => Best_fn h (l.drop d) (fits_drop hl d)
  have hlen : (bstR h l).2.2 = 0 → l.length ≤ 400 := fun e => (wv_net hl (bst_ok e).1).len
  have hN1 := fun e => (bst_num (h := h) hl e)
  have hN2 := fun d e => (bst_num (h := h) (fits_take hl d) e)
  have hN3 := fun d e => (bst_num (h := h) (fits_drop hl d) e)
  generalize bstR h l = r1 at *
  obtain ⟨G1, x1, f1⟩ := r1
  dsimp only at hB hlen hN1
  unfold Hand.val at C0 C2 C3 C4
  unfold tCs at C0 C2 C3 C4
  unfold fstV tGs at C2 C3 C4
  unfold c_theorbolaw06_HandCut srV tCs
  generalize hvB h l = hv at *
  cases hv
  case true =>
    clear C2 C3 C4 hB hN1 hN2 hN3
    repeat' (with_reducible first | refine x_ops ?_ | refine wk ?_ | (with_reducible refine xc (C0) ?_) | (with_reducible refine xc (C5) ?_) | ((first | refine gd1 ?_ ?_ | refine gd2 ?_ ?_ | refine gd3 ?_ ?_) <;> (first | exact @False.elim _ | intro hc)))
    all_goals exact finV_dry rfl vv
  by_cases hf : f1 = 0
  case neg =>
    have h1 : (f1 == 0) = false := by rw [beq_eq_false_iff_ne]; exact hf
    clear C3 C4 hB hf hN1 hN2 hN3
    repeat' (with_reducible first | refine x_ops ?_ | refine wk ?_ | (with_reducible refine xc (C0) ?_) | (with_reducible refine xc (C2) ?_) | (with_reducible refine xc (C5) ?_) | ((first | refine gd1 ?_ ?_ | refine gd2 ?_ ?_ | refine gd3 ?_ ?_) <;> (first | exact @False.elim _ | intro hc)))
    all_goals exact finV_dry rfl vv
  subst hf
  have h4 := hlen rfl
  have R1 := rest_fn k ((l.length : Int) + 1) (by omega) (by omega)
  have r1 := rs_bound (n := (l.length : Int) + 1) k (by omega)
  have w1 := w_in (a := (l.length : Int) + 1) (by omega)
  obtain ⟨d, hd⟩ : ∃ d : Nat, rsI k ((l.length : Int) + 1) = (d : Int) := ⟨(rsI k ((l.length : Int) + 1)).toNat, by omega⟩
  rw [hd] at R1 r1
  have hdl : d ≤ l.length := by omega
  obtain ⟨b1, b2, b3⟩ := hB rfl d hdl
  replace hN1 := hN1 rfl
  replace hN2 := hN2 d b1
  replace hN3 := hN3 d b2
  have C3 := C3 d
  have C4 := C4 d
  generalize bstR h (l.take d) = r2 at *
  generalize bstR h (l.drop d) = r3 at *
  obtain ⟨G2, x2, f2⟩ := r2
  obtain ⟨G3, x3, f3⟩ := r3
  dsimp only at b1 b2 b3 C3 C4 hN2 hN3
  have w2 := w_in (a := x2 + x3) (by omega)
  clear hN1 hN2 hN3
  subst b1
  subst b2
  clear hB hd hlen r1
  obtain ⟨v1, v2⟩ := chs_cut l hdl
  have i2 : (decide (x2 + x3 ≤ x1)) = true := by simp [b3]
  have i1 : (d : Int) ≤ (l.length : Int) := by omega
  repeat' (with_reducible first | refine x_ops ?_ | refine wk ?_ | (with_reducible refine xc (C0) ?_) | (with_reducible refine xc (C2) ?_) | (with_reducible refine xc (C3) ?_) | (with_reducible refine xc (C4) ?_) | (with_reducible refine xc (C5) ?_) | (with_reducible refine xc (R1) ?_) | ((first | refine gd1 ?_ ?_ | refine gd2 ?_ ?_ | refine gd3 ?_ ?_) <;> (first | exact @False.elim _ | intro hc)))
  all_goals exact finV_dry rfl vv
end Go.Proofs.Ytojjdkoglhecbaa
namespace Go.Proofs.Ytojjdkoglhecbaa
open Go.RowKit

section
variable {h : Hand} {l : List Chord} {Gs : List (List Grip)}
theorem prv_tbA {i k : Nat} (hi : i < l.length) : tbA (rsA h l Gs) i k = lst h l Gs i k := by rw [tbA, rsA_at hi, lst]
theorem prv_tab (hn : NetOk h l Gs) : CtbOk l Gs (rsA h l Gs) := by
  refine ⟨rsA_len, fun i hi => by rw [rsA_at hi, rsT_len hi], fun i hi k hk => ?_⟩
  rw [prv_tbA hi]
  rcases lst_num hn hi hk with h1 | h1 <;> omega
theorem prv_bnd (hn : NetOk h l Gs) {i k : Nat} (hi : i < l.length) (hk : k < (Gs.getD i []).length) : BndOk h l Gs (rsA h l Gs) i k := by
  rw [BndOk]
  split
  · rename_i hl
    have := lst_own hn hi hk
    rw [prv_tbA hi, lst_last hl hk]
    exact ⟨by omega, Int.le_refl _⟩
  · rename_i hl
    intro m hm hs h1
    have hi1 : i + 1 < l.length := by omega
    rw [prv_tbA hi1] at h1 ⊢
    rw [prv_tbA hi]
    by_cases hso : StepOk h (l.getD i noC) ((Gs.getD i []).getD k noG) (l.getD (i + 1) noC) ((Gs.getD (i + 1) []).getD m noG)
    · obtain ⟨a, b⟩ := lst_ub hn hi1 hk hm h1 hso
      rw [stepR_ok hso]
      refine ⟨a, ?_⟩
      unfold grp at b
      dsimp only; omega
    · rw [stepR_no hso] at hs; cases hs
theorem pvs_own (hn : NetOk h l Gs) {c b : Int} (h0 : l.length = 0 → b = 0) (hp : 0 < l.length → HasF h l Gs ∧ b = (rootW h l Gs).1) : PvsOk h l Gs (rsA h l Gs) c ↔ c ≤ b := by
  constructor
  · intro hv
    by_cases hl : l.length = 0
    · rw [h0 hl]; exact hv.nil hl
    · obtain ⟨hh, e⟩ := hp (by omega)
      obtain ⟨⟨q, q1, q2, q3⟩, _⟩ := root_min (by omega) hh
      have := hv.top 0 (by omega) q q1 rfl
      rw [prv_tbA (by omega)] at this
      rw [e, q3]; exact this q2
  · intro hc
    refine ⟨prv_tab hn, fun i hi k hk => prv_bnd hn hi hk, fun i hi k hk e hne => ?_, fun hl => by rw [h0 hl] at hc; exact hc⟩
    subst e
    obtain ⟨hh, e⟩ := hp hi
    rw [prv_tbA hi] at hne ⊢
    have := (root_min hi hh).2 k hk hne
    omega
/-- A table that is accepted bounds every cost. -/
theorem pvs_low (hn : NetOk h l Gs) {T : List (List Int)} {c : Int} (hv : PvsOk h l Gs T c) : ∀ (j i : Nat), l.length - i = j → i < l.length → ∀ k, k < (Gs.getD i []).length → ¬ lst h l Gs i k = -1 → ¬ tbA T i k = -1 ∧ tbA T i k ≤ lst h l Gs i k
  | 0, i, hj, hi => by omega
  | j + 1, i, hj, hi => by
    intro k hk h1
    have hb := hv.bnd i hi k hk
    rw [BndOk] at hb
    by_cases hl : i + 1 = l.length
    · rw [if_pos hl] at hb
      rw [lst_last hl hk]; exact hb
    · rw [if_neg hl] at hb
      have hi1 : i + 1 < l.length := by omega
      obtain ⟨q, q1, q2, q3, q4⟩ := lst_eq hn hi1 hk h1
      obtain ⟨t1, t2⟩ := pvs_low hn hv j (i + 1) (by omega) hi1 q q1 q2
      unfold grp at q3 q4
      have hs := hb q q1 (by rw [stepR_ok q3]) t1
      rw [stepR_ok q3] at hs
      refine ⟨hs.1, ?_⟩
      have := hs.2
      dsimp only at this
      omega
theorem pvs_le (hn : NetOk h l Gs) {T : List (List Int)} {c b : Int} (hv : PvsOk h l Gs T c) (h0 : l.length = 0 → b = 0) (hp : 0 < l.length → HasF h l Gs ∧ b = (rootW h l Gs).1) : c ≤ b := by
  by_cases hl : l.length = 0
  · rw [h0 hl]; exact hv.nil hl
  · obtain ⟨hh, e⟩ := hp (by omega)
    obtain ⟨⟨q, q1, q2, q3⟩, _⟩ := root_min (by omega) hh
    obtain ⟨t1, t2⟩ := pvs_low hn hv _ 0 rfl (by omega) q q1 q2
    have := hv.top 0 (by omega) q q1 rfl t1
    omega
end
theorem bst_root {h : Hand} {l : List Chord} (hb : (bstR h l).2.2 = 0) : wvE h l = 0 ∧ (l.length = 0 → (bstR h l).2.1 = 0) ∧ (0 < l.length → HasF h l (tabG h l) ∧ (bstR h l).2.1 = (rootW h l (tabG h l)).1) := by
  obtain ⟨hw, hh⟩ := bst_ok hb
  have b := (bst_yes hw hh).2
  exact ⟨hw, fun e => by rw [b, if_pos e], fun hp => ⟨hh hp, by rw [b, if_neg (by omega)]⟩⟩
/-- What HandCertificate says. -/
theorem cert_plain {h : Hand} {l : List Chord} (hl : Fits l) (hw : wvE h l = 0) (T : List (List Int)) (c : Int) :
    ((bstR h l).2.2 = 0 → pvsR h l (prvR h l).1 (bstR h l).2.1 = (true, 0) ∧ pvsR h l (prvR h l).1 ((bstR h l).2.1 + 1) = (false, 0)) ∧ (pvsR h l T c).2 = 0 ∧ ((bstR h l).2.2 = 0 → (pvsR h l T c).1 = true → c ≤ (bstR h l).2.1) := by
  have hn := wv_net hl hw
  have e1 : (prvR h l).1 = rsA h l (tabG h l) := by rw [prvR, if_pos hw]
  have e2 : ∀ T c, pvsR h l T c = (pvsB h l (tabG h l) T c, 0) := fun T c => by rw [pvsR, if_pos hw]
  rw [e1, e2, e2, e2]
  refine ⟨fun hb => ?_, rfl, fun hb hv => ?_⟩
  · obtain ⟨_, b1, b2⟩ := bst_root hb
    have key := fun c => pvs_own hn (c := c) b1 b2
    exact ⟨by rw [pvs_yes ((key _).2 (Int.le_refl _))], by rw [pvs_no (fun hv => by have := (key _).1 hv; omega)]⟩
  · obtain ⟨_, b1, b2⟩ := bst_root hb
    by_cases hx : PvsOk h l (tabG h l) T c
    · exact pvs_le hn hx b1 b2
    · rw [pvs_no hx] at hv; cases hv

set_option maxHeartbeats 4000000 in
theorem handcertificate_fn (h : Hand) (l : List Chord) (hl : Fits l) (cs : List (Int × Int × Int)) (hcs : cs.length ≤ 17592186044416) (cost : Int) : Fn Try.prog Gd 12 [srV h l, tChs cs, vint cost] (vbool true) := by
  refine Fn.of_vx0 k_theorbolaw06_HandCertificate (by simp) (by rw [V.pures, pure_sr, V.pures, pure_tChs]; rfl) ?_
  have C0 := heavy_fn h l hl
  have C1 := Prove_fn h l hl
  have C2 := Best_fn h l hl
  obtain ⟨hF, h4⟩ := fits_prv h l hl
  have C4 := changed_fn _ hF h4 cs hcs
  have hF2 := fits_chgT hF cs
  have C6 := fun X (hX : FitsT X) c => Proves_fn h l hl X hX c
  have C5 := works_fn
  have K := fun hw => cert_plain (h := h) hl hw (chgT (prvR h l).1 cs) cost
  have hN1 := fun e => (bst_num (h := h) hl e)
  have hw : (prvR h l).2 = wvE h l := by rw [prvR]; split <;> simp_all
  generalize wvE h l = we at *
  replace C6 := fun X hX c => C6 X hX c
  have C7 := C6 _ hF2 cost
  have C8 := C6 _ hF (bstR h l).2.1
  have C9 := C6 _ hF ((bstR h l).2.1 + 1)
  clear C6
  generalize pvsR h l (chgT (prvR h l).1 cs) cost = pv at *
  generalize bstR h l = r1 at *
  obtain ⟨G1, x1, f1⟩ := r1
  generalize prvR h l = v at *
  obtain ⟨O, e⟩ := v
  obtain ⟨bb, ee⟩ := pv
  dsimp only at *
  generalize pvsR h l O x1 = p1 at *
  generalize pvsR h l O (x1 + 1) = p2 at *
  generalize chgT O cs = D at *
  unfold fstV tGs at C2
  unfold Hand.val at C0 C1 C2 C7 C8 C9
  unfold tCs at C0 C1 C2 C7 C8 C9
  unfold tIss at C1 C4 C7 C8 C9
  unfold tChs at C4
  unfold c_theorbolaw06_HandCertificate srV tCs tChs
  dsimp only at C2
  subst hw
  generalize hvB h l = hv at *
  cases hv
  case true =>
    clear C1 C2 C4 C7 C8 C9 K hN1
    repeat' (with_reducible first | refine x_ops ?_ | refine wk ?_ | (with_reducible refine xc (C0) ?_) | (with_reducible refine xc (C5) ?_) | ((first | refine gd1 ?_ ?_ | refine gd2 ?_ ?_ | refine gd3 ?_ ?_) <;> (first | exact @False.elim _ | intro hc)))
    all_goals exact finV_dry rfl vv
  by_cases hw : e = 0
  case neg =>
    have h1 : (e == 0) = false := by rw [beq_eq_false_iff_ne]; exact hw
    clear C2 C4 C7 C8 C9 K hN1 hw
    repeat' (with_reducible first | refine x_ops ?_ | refine wk ?_ | (with_reducible refine xc (C0) ?_) | (with_reducible refine xc (C1) ?_) | (with_reducible refine xc (C5) ?_) | ((first | refine gd1 ?_ ?_ | refine gd2 ?_ ?_ | refine gd3 ?_ ?_) <;> (first | exact @False.elim _ | intro hc)))
    all_goals exact finV_dry rfl vv
  obtain ⟨k1, k2, k3⟩ := K hw
  subst hw
  subst k2
  by_cases hf : f1 = 0
  · obtain ⟨k4, k5⟩ := k1 hf
    replace k3 := k3 hf
    replace hN1 := hN1 hf
    subst hf
    subst k4
    subst k5
    dsimp only at C8 C9
    have w2 := w_in (a := x1 + 1) (by omega)
    clear K k1 hN1
    cases bb
    · clear k3
      repeat' (with_reducible first | refine x_ops ?_ | refine wk ?_ | (with_reducible refine xc (C0) ?_) | (with_reducible refine xc (C1) ?_) | (with_reducible refine xc (C2) ?_) | (with_reducible refine xc (C4) ?_) | (with_reducible refine xc (C5) ?_) | (with_reducible refine xc (C7) ?_) | (with_reducible refine xc (C8) ?_) | (with_reducible refine xc (C9) ?_) | ((first | refine gd1 ?_ ?_ | refine gd2 ?_ ?_ | refine gd3 ?_ ?_) <;> (first | exact @False.elim _ | intro hc)))
      all_goals exact finV_dry rfl vv
    · have h1 : ¬ x1 < cost := by have := k3 rfl; omega
      have h2 : (decide (x1 < cost)) = false := by simp [h1]
      clear k3
      repeat' (with_reducible first | refine x_ops ?_ | refine wk ?_ | (with_reducible refine xc (C0) ?_) | (with_reducible refine xc (C1) ?_) | (with_reducible refine xc (C2) ?_) | (with_reducible refine xc (C4) ?_) | (with_reducible refine xc (C5) ?_) | (with_reducible refine xc (C7) ?_) | (with_reducible refine xc (C8) ?_) | (with_reducible refine xc (C9) ?_) | ((first | refine gd1 ?_ ?_ | refine gd2 ?_ ?_ | refine gd3 ?_ ?_) <;> (first | exact @False.elim _ | intro hc)))
      all_goals exact finV_dry rfl vv
  · have h1 : (f1 == 0) = false := by rw [beq_eq_false_iff_ne]; exact hf
    clear k1 k3 hf K hN1 C8 C9
    cases bb
    · repeat' (with_reducible first | refine x_ops ?_ | refine wk ?_ | (with_reducible refine xc (C0) ?_) | (with_reducible refine xc (C1) ?_) | (with_reducible refine xc (C2) ?_) | (with_reducible refine xc (C4) ?_) | (with_reducible refine xc (C5) ?_) | (with_reducible refine xc (C7) ?_) | ((first | refine gd1 ?_ ?_ | refine gd2 ?_ ?_ | refine gd3 ?_ ?_) <;> (first | exact @False.elim _ | intro hc)))
      all_goals exact finV_dry rfl vv
    · repeat' (with_reducible first | refine x_ops ?_ | refine wk ?_ | (with_reducible refine xc (C0) ?_) | (with_reducible refine xc (C1) ?_) | (with_reducible refine xc (C2) ?_) | (with_reducible refine xc (C4) ?_) | (with_reducible refine xc (C5) ?_) | (with_reducible refine xc (C7) ?_) | ((first | refine gd1 ?_ ?_ | refine gd2 ?_ ?_ | refine gd3 ?_ ?_) <;> (first | exact @False.elim _ | intro hc)))
      all_goals exact finV_dry rfl vv
end Go.Proofs.Ytojjdkoglhecbaa
