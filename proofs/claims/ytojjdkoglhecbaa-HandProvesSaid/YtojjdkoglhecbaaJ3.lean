/- spans of the program, on values. -/
import Derived.Test.YtojjdkoglhecbaaJ2
namespace Go.Proofs.Ytojjdkoglhecbaa
open Go.RowKit
set_option linter.unusedSimpArgs false
set_option linter.unusedVariables false

/-- The last of the first k that has this finger; d, if there is none. -/
def lastU (l : List Int) (v : Int) (d : Nat) : Nat → Nat
  | 0 => d
  | k + 1 => if l.getD k 0 = v then k else lastU l v d k
theorem lastU_le {l : List Int} {v : Int} {d : Nat} : ∀ {k : Nat}, (∀ j, j < d → l.getD j 0 ≠ v) → (lastU l v d k = d ∨ (d ≤ lastU l v d k ∧ lastU l v d k < k ∧ l.getD (lastU l v d k) 0 = v))
  | 0, _ => .inl rfl
  | k + 1, h => by
    rw [lastU]
    split
    · rename_i hk
      rcases Nat.lt_or_ge k d with h1 | h1
      · exact absurd hk (h k h1)
      · exact .inr ⟨h1, Nat.lt_succ_self k, hk⟩
    · rcases lastU_le (k := k) h with h1 | ⟨h1, h2, h3⟩
      · exact .inl h1
      · exact .inr ⟨h1, by omega, h3⟩
theorem lastU_after {l : List Int} {v : Int} {d : Nat} : ∀ {k j : Nat}, j < k → lastU l v d k < j → d ≤ j → l.getD j 0 ≠ v
  | 0, j, h, _, _ => by omega
  | k + 1, j, h, h2, h3 => by
    rw [lastU] at h2
    split at h2
    · omega
    · rename_i hk
      rcases Nat.lt_or_ge j k with h1 | h1
      · exact lastU_after h1 h2 h3
      · have : j = k := by omega
        subst this; exact hk
/-- Index of the first and the last place of a finger. -/
def fsF (l : List Int) (f : Nat) : Nat := gI (fun x => ((f + 1 : Nat) : Int) == x) l
def lsF (l : List Int) (f : Nat) : Nat := lastU l ((f + 1 : Nat) : Int) (fsF l f) l.length
/-- A finger with several places can lie over them. -/
def spF (h : Hand) (c : Chord) (l : List Int) (f : Nat) : Prop := fsF l f < l.length → fsF l f ≠ lsF l f →
  h.barre.getD f false = true ∧ (c.down.getD (fsF l f) (0, 0)).2 = (c.down.getD (lsF l f) (0, 0)).2 ∧
  (∀ i, i < c.opn.length → ¬ ((c.down.getD (fsF l f) (0, 0)).1 < c.opn.getD i 0 ∧ c.opn.getD i 0 < (c.down.getD (lsF l f) (0, 0)).1)) ∧
  ∀ j, fsF l f ≤ j → j < lsF l f → ¬ (c.down.getD j (0, 0)).2 < (c.down.getD (fsF l f) (0, 0)).2
def Spans (h : Hand) (c : Chord) (l : List Int) : Prop := ∀ f, f < h.low.length → spF h c l f
noncomputable def spnB (h : Hand) (c : Chord) (l : List Int) : Bool := @decide (Spans h c l) (Classical.propDecidable _)
theorem spn_bad {h : Hand} {c : Chord} {l : List Int} (hn : ¬ Spans h c l) : Value.bool false = Value.bool (spnB h c l) := by unfold spnB; simp [hn]
theorem spn_good {h : Hand} {c : Chord} {l : List Int} (hn : Spans h c l) : Value.bool true = Value.bool (spnB h c l) := by unfold spnB; simp [hn]
theorem spn_true {h : Hand} {c : Chord} {l : List Int} : spnB h c l = true ↔ Spans h c l := by unfold spnB; simp
theorem flat_drop_n {α : Type} {enc : α → List V} {sz : Nat} (he : ∀ x, (enc x).length = sz) (l : List α) (k : Nat) : (l.flatMap enc).drop (k * sz) = (l.drop k).flatMap enc := by
  induction l generalizing k with
  | nil => simp
  | cons a l ih =>
    cases k with
    | zero => simp
    | succ k => rw [List.flatMap_cons, List.drop_succ_cons, ← ih, show (k + 1) * sz = sz + k * sz by rw [Nat.add_mul]; omega, ← List.drop_drop, List.drop_left' (he a)]
theorem fsF_first {l : List Int} {f : Nat} (h : fsF l f < l.length) : l.getD (fsF l f) 0 = ((f + 1 : Nat) : Int) := (eq_of_beq (gI_at (p := fun x => ((f + 1 : Nat) : Int) == x) (d := 0) h)).symm
theorem fsF_before {l : List Int} {f j : Nat} (h : j < fsF l f) : l.getD j 0 ≠ ((f + 1 : Nat) : Int) := fun e => by
  have := gI_before (p := fun x => ((f + 1 : Nat) : Int) == x) (d := 0) h
  rw [e] at this
  simp at this
theorem lsF_ok {l : List Int} {f : Nat} (h : fsF l f < l.length) : fsF l f ≤ lsF l f ∧ lsF l f < l.length ∧ l.getD (lsF l f) 0 = ((f + 1 : Nat) : Int) := by
  rcases lastU_le (l := l) (v := ((f + 1 : Nat) : Int)) (d := fsF l f) (k := l.length) (fun j hj => fsF_before hj) with h1 | ⟨h1, h2, h3⟩
  · rw [lsF, h1]; exact ⟨Nat.le_refl _, h, fsF_first h⟩
  · exact ⟨h1, h2, h3⟩

set_option maxHeartbeats 2000000 in
theorem spans_fn (h : Hand) (hk : HandOk h) (c : Chord) (hf : FitC c) (l : List Int) (hl : l.length = c.down.length) : Fn Try.prog Gd 105 [h.val, c.val, tIs l] (vbool (spnB h c l)) := by
  refine Fn.of_vx0 k_hand_spans (by simp) (by rw [V.pures, pure_hand, V.pures, pure_chord, V.pures, pure_tIs]; rfl) ?_
  have hb1 := hf.1
  have hlb : l.length ≤ 8796093022208 := by omega
  have n4 := hk.n4
  have I0 := fun v => index_fn l v (by omega)
  unfold c_hand_spans Hand.val Chord.val Chord.cells
  replace hl := Hid.mk hl
  repeat' (with_reducible first | refine x_ops ?_ | refine wk ?_ | ((first | refine gd1 ?_ ?_ | refine gd2 ?_ ?_ | refine gd3 ?_ ?_) <;> (first | exact @False.elim _ | intro hc)))
  refine x_loopW w_hand_spans_p20 (by kernel_rfl) h.low.length (fun k t m => t 7 = vint ((k + 1 : Nat) : Int) ∧ m.obj 0 = some (.box [tIs h.low, tIs h.high, tBs h.barre, vint h.top, vint h.jump, vint h.shift, vint h.lift, vint h.bar, vint h.stretch, vint h.slide] 25) ∧
    m.obj 1 = some (.box [tPs c.down, tIs c.held, tIs c.opn] 47) ∧ 1 < m.next ∧ ∀ f, f < k → spF h c l f) ?_ ?_
  · exact ⟨vv, vv, vv, by ((refine ve ?_; try exact True.intro)); try omega, fun i h => by omega⟩
  rintro k t m hkk ⟨h7, hm0, hm1, hn, hI⟩
  by_cases hlt : k < h.low.length
  · have c1 : ((k + 1 : Nat) : Int) ≤ (h.low.length : Int) := by omega
    have w1 : IntKind.i64.wrap (((k + 1 : Nat) : Int) + 1) = ((k + 1 + 1 : Nat) : Int) := w_add1 (by omega)
    have I1 := I0 ((k + 1 : Nat) : Int)
    have efs : gI (fun x => ((k + 1 : Nat) : Int) == x) l = fsF l k := rfl
    rw [gIx, efs] at I1
    clear I0 efs
    by_cases hfs : fsF l k < l.length
    · rw [if_pos hfs] at I1
      have d1 : ¬ ((fsF l k : Nat) : Int) < 0 := by omega
      repeat' (with_reducible first | refine x_ops ?_ | refine wk ?_ | (with_reducible refine xc (I1) ?_) | ((first | refine gd1 ?_ ?_ | refine gd2 ?_ ?_ | refine gd3 ?_ ?_) <;> (first | exact @False.elim _ | intro hc)))
      refine x_loopF w_hand_spans_p5 (by kernel_rfl) l.length (fun q t => t 30 = vint (q : Int) ∧ t 9 = vint ((lastU l ((k + 1 : Nat) : Int) (fsF l k) q : Nat) : Int)) ?_ ?_
      · exact ⟨vv, vv⟩
      rintro q t' hq ⟨h30, h9⟩
      by_cases hql : q < l.length
      · have g1 := ints_at hql
        have c2 : (q : Int) < (l.length : Int) := by omega
        have w2 := w_add1 (k := q) (by omega)
        have lu : lastU l ((k + 1 : Nat) : Int) (fsF l k) (q + 1) = if l.getD q 0 = ((k + 1 : Nat) : Int) then q else lastU l ((k + 1 : Nat) : Int) (fsF l k) q := by rw [lastU]
        replace lu := Hid.mk lu
        repeat' (with_reducible first | refine x_ops ?_ | refine wk ?_ | ((first | refine gd1 ?_ ?_ | refine gd2 ?_ ?_ | refine gd3 ?_ ?_) <;> (first | exact @False.elim _ | intro hc)))
        · refine nf (by omega) ⟨vv, ?_⟩ rfl
          rw [lu.out, if_pos (eq_of_beq hc)]
          exact vv
        · refine nf (by omega) ⟨vv, ?_⟩ rfl
          rw [lu.out, if_neg (by simpa using hc)]
          exact vw
      have hq2 : q = l.length := by omega
      subst hq2
      have c2 : ¬ (l.length : Int) < (l.length : Int) := by omega
      obtain ⟨o1, o2, o3⟩ := lsF_ok hfs
      have els : lastU l ((k + 1 : Nat) : Int) (fsF l k) l.length = lsF l k := rfl
      rw [els] at h9
      clear els hql hq o3
      have hsp : Hid (∀ P : Prop, (spF h c l k → P) → (¬ spF h c l k → P) → P) := ⟨fun P h1 h2 => by by_cases hx : spF h c l k; exact h1 hx; exact h2 hx⟩
      have done : Hid (spF h c l k → ∀ f, f < k + 1 → spF h c l f) := ⟨fun hs f hf => by
        by_cases e : f = k
        · subst e; exact hs
        · exact hI f (by omega)⟩
      by_cases hab : fsF l k = lsF l k
      · have e1 : ((fsF l k : Int) == (lsF l k : Int)) = true := by rw [hab]; simp
        have hs : spF h c l k := fun _ hne => absurd hab hne
        replace hs := Hid.mk hs
        clear hab
        repeat' (with_reducible first | refine x_ops ?_ | refine wk ?_ | ((first | refine gd1 ?_ ?_ | refine gd2 ?_ ?_ | refine gd3 ?_ ?_) <;> (first | exact @False.elim _ | intro hc)))
        exact nx (by omega) ⟨vv, hm0, hm1, hn, done.out hs.out⟩
      have e1 : ((fsF l k : Int) == (lsF l k : Int)) = false := by simp; omega
      have hbar : k < h.barre.length := by rw [hk.nb]; exact hlt
      have gb := bools_at hbar
      have cb : (k : Int) < (h.barre.length : Int) := by omega
      have a1 : fsF l k < c.down.length := by rw [← hl.out]; exact hfs
      have b1 : lsF l k < c.down.length := by rw [← hl.out]; exact o2
      have ga0 := pls_at0 a1
      have ga1 := pls_at1 a1
      have gb0 := pls_at0 b1
      have gb1 := pls_at1 b1
      have g2 := pls_len c.down
      have ca : ((fsF l k : Nat) : Int) < (c.down.length : Int) := by omega
      have cb2 : ((lsF l k : Nat) : Int) < (c.down.length : Int) := by omega
      have w3 : IntKind.i64.wrap (((k + 1 : Nat) : Int) - 1) = (k : Int) := by rw [w_in (by omega)]; omega
      have hspF : Hid (spF h c l k ↔ (h.barre.getD k false = true ∧ (c.down.getD (fsF l k) (0, 0)).2 = (c.down.getD (lsF l k) (0, 0)).2 ∧
          (∀ i, i < c.opn.length → ¬ ((c.down.getD (fsF l k) (0, 0)).1 < c.opn.getD i 0 ∧ c.opn.getD i 0 < (c.down.getD (lsF l k) (0, 0)).1)) ∧
          ∀ j, fsF l k ≤ j → j < lsF l k → ¬ (c.down.getD j (0, 0)).2 < (c.down.getD (fsF l k) (0, 0)).2)) := ⟨⟨fun hs => hs hfs hab, fun hs _ _ => hs⟩⟩
      have C1 := containsI_fn c.opn (fun x => decide ((c.down.getD (fsF l k) (0, 0)).1 < x) && decide (x < (c.down.getD (lsF l k) (0, 0)).1)) call_spans1 (cs := [.ept [vint (c.down.getD (fsF l k) (0, 0)).1] 0, .ept [vint (c.down.getD (lsF l k) (0, 0)).1] 0]) rfl rfl (spans1_fn _ _) hf.big.2.2
      have C2 := containsP_fn ((c.down.drop (fsF l k)).take (lsF l k - fsF l k)) (fun x => decide (x.2 < (c.down.getD (fsF l k) (0, 0)).2)) call_spans2 (cs := [.ept [vint (c.down.getD (fsF l k) (0, 0)).2] 0]) rfl rfl (spans2_fn _) (by rw [List.length_take, List.length_drop]; omega)
      have et : tPs ((c.down.drop (fsF l k)).take (lsF l k - fsF l k)) = .sl (lsF l k - fsF l k) (((c.down.flatMap plE).drop (fsF l k * 2)).take ((lsF l k - fsF l k) * 2)) .no := by
        rw [tPs, flat_drop_n plE_len, flat_take_n plE_len]
        congr 1
        rw [List.length_take, List.length_drop]; omega
      have elen : ((c.down.drop (fsF l k)).take (lsF l k - fsF l k)).length = lsF l k - fsF l k := by rw [List.length_take, List.length_drop]; omega
      rw [et, elen] at C2
      have cl1 : ((fsF l k : Nat) : Int) ≤ ((lsF l k : Nat) : Int) := by omega
      have cl2 : ((lsF l k : Nat) : Int) ≤ (c.down.length : Int) := by omega
      replace et := Hid.mk et
      replace elen := Hid.mk elen
      generalize hp1 : (fun x : Int => decide ((c.down.getD (fsF l k) (0, 0)).1 < x) && decide (x < (c.down.getD (lsF l k) (0, 0)).1)) = p1 at C1
      generalize hp2 : (fun x : Int × Int => decide (x.2 < (c.down.getD (fsF l k) (0, 0)).2)) = p2 at C2
      replace hp1 := Hid.mk hp1
      replace hp2 := Hid.mk hp2
      generalize hr1 : decide (gI p1 c.opn < c.opn.length) = r1 at C1
      generalize hr2 : decide (gI p2 ((c.down.drop (fsF l k)).take (lsF l k - fsF l k)) < lsF l k - fsF l k) = r2 at C2
      replace hr1 := Hid.mk hr1
      replace hr2 := Hid.mk hr2
      clear hab hfs
      have bad : Hid (¬ spF h c l k → Value.bool false = Value.bool (spnB h c l)) := ⟨fun hs => spn_bad fun hS => hs (hS k hlt)⟩
      repeat' (with_reducible first | refine x_ops ?_ | refine wk ?_ | ((first | refine gd1 ?_ ?_ | refine gd2 ?_ ?_ | refine gd3 ?_ ?_) <;> (first | exact @False.elim _ | intro hc)))
      · refine finV_lit vv (bad.out fun hs => ?_)
        have h1 := (hspF.out.1 hs).2.1
        rw [h1] at hc
        simp at hc
      · refine x_lend allS C1 rfl ?_ ?_
        · (simp only [go_sem, Nat.reduceAdd, Nat.reduceEqDiff, Nat.reduceLT, Nat.reduceLeDiff, Nat.reduceMul, Nat.reduceSub, Nat.reducePow, Nat.reduceDiv, Nat.reduceMod, Nat.reduceBEq, Int.reduceBEq, Int.reduceLT, reduceIte, V.norms, V.norm, tIs, tBs, tPs, *])
          exact .cons (.sl _ _ _) (.cons (.fn (.cons (.ptr rfl vw (.cons (.lit _) .nil) rfl) (.cons (.ptr rfl vw (.cons (.lit _) .nil) rfl) .nil))) .nil)
        cases r1
        · repeat' (with_reducible first | refine x_ops ?_ | simp only [go_sem, Nat.reduceAdd, Nat.reduceEqDiff, Nat.reduceLT, Nat.reduceLeDiff, Nat.reduceMul, Nat.reduceSub, Nat.reducePow, Nat.reduceDiv, Nat.reduceMod, Nat.reduceBEq, Int.reduceBEq, Int.reduceLT, reduceIte, tIs, tBs, tPs, vslc, bnds, *] | ((first | refine gd1 ?_ ?_ | refine gd2 ?_ ?_ | refine gd3 ?_ ?_) <;> (first | exact @False.elim _ | intro hc)))
          refine x_lend allS C2 rfl ?_ ?_
          · (simp only [go_sem, Nat.reduceAdd, Nat.reduceEqDiff, Nat.reduceLT, Nat.reduceLeDiff, Nat.reduceMul, Nat.reduceSub, Nat.reducePow, Nat.reduceDiv, Nat.reduceMod, Nat.reduceBEq, Int.reduceBEq, Int.reduceLT, reduceIte, V.norms, V.norm, tIs, tBs, tPs, *])
            exact .cons (.sl _ _ _) (.cons (.fn (.cons (.ptr rfl vw (.cons (.lit _) .nil) rfl) .nil)) .nil)
          cases r2
          · repeat' (with_reducible first | refine x_ops ?_ | refine wk ?_ | ((first | refine gd1 ?_ ?_ | refine gd2 ?_ ?_ | refine gd3 ?_ ?_) <;> (first | exact @False.elim _ | intro hc)))
            have hs : spF h c l k := hspF.out.2 (by
              refine ⟨by assumption, by rename_i hc; first | exact eq_of_beq hc | (have := eq_of_beq (by assumption : ((c.down.getD (fsF l k) (0, 0)).2 == (c.down.getD (lsF l k) (0, 0)).2) = true); exact this), fun i hi hcc => ?_, fun j h1 h2 hcc => ?_⟩
              · have h3 := of_decide_eq_false hr1.out
                exact h3 ((gI_lt 0).2 ⟨i, hi, by rw [← hp1.out]; show (decide _ && decide _) = true; rw [decide_eq_true hcc.1, decide_eq_true hcc.2]; rfl⟩)
              · have h3 := of_decide_eq_false hr2.out
                have h4 := (gI_lt (p := p2) (0, 0) (l := (c.down.drop (fsF l k)).take (lsF l k - fsF l k))).2 ⟨j - fsF l k, by rw [elen.out]; omega, by
                  rw [← hp2.out, decide_eq_true_eq, List.getD_eq_getElem?_getD, List.getElem?_take, if_pos (by omega), List.getElem?_drop, show fsF l k + (j - fsF l k) = j by omega, ← List.getD_eq_getElem?_getD]
                  exact hcc⟩
                rw [elen.out] at h4
                exact h3 h4)
            replace hs := Hid.mk hs
            have n1 : ¬ 0 = m.next + 24 := by omega
            exact nx (by omega) ⟨vv, by exact vw, by exact vw, by ((refine ve ?_; try exact True.intro)); omega, done.out hs.out⟩
          · repeat' (with_reducible first | refine x_ops ?_ | refine wk ?_ | ((first | refine gd1 ?_ ?_ | refine gd2 ?_ ?_ | refine gd3 ?_ ?_) <;> (first | exact @False.elim _ | intro hc)))
            refine finV_lit vv (bad.out fun hs => ?_)
            have h1 : gI p2 ((c.down.drop (fsF l k)).take (lsF l k - fsF l k)) < ((c.down.drop (fsF l k)).take (lsF l k - fsF l k)).length := by rw [elen.out]; exact of_decide_eq_true hr2.out
            obtain ⟨i, h2, h3⟩ := (gI_lt (0, 0)).1 h1
            rw [elen.out] at h2
            rw [← hp2.out, decide_eq_true_eq, List.getD_eq_getElem?_getD, List.getElem?_take, if_pos h2, List.getElem?_drop, ← List.getD_eq_getElem?_getD] at h3
            exact (hspF.out.1 hs).2.2.2 _ (Nat.le_add_right _ _) (by omega) h3
        · repeat' (with_reducible first | refine x_ops ?_ | refine wk ?_ | ((first | refine gd1 ?_ ?_ | refine gd2 ?_ ?_ | refine gd3 ?_ ?_) <;> (first | exact @False.elim _ | intro hc)))
          refine finV_lit vv (bad.out fun hs => ?_)
          have h1 := of_decide_eq_true hr1.out
          obtain ⟨i, h2, h3⟩ := (gI_lt 0).1 h1
          rw [← hp1.out, Bool.and_eq_true, decide_eq_true_eq, decide_eq_true_eq] at h3
          exact (hspF.out.1 hs).2.2.1 i h2 h3
      · exact finV_lit vv (bad.out fun hs => by rw [(hspF.out.1 hs).1] at hc; cases hc)
    · rw [if_neg hfs] at I1
      have d1 : (-1 : Int) < 0 := by omega
      have hs : spF h c l k := fun hx _ => absurd hx hfs
      replace hs := Hid.mk hs
      clear hfs
      repeat' (with_reducible first | refine x_ops ?_ | refine wk ?_ | (with_reducible refine xc (I1) ?_) | ((first | refine gd1 ?_ ?_ | refine gd2 ?_ ?_ | refine gd3 ?_ ?_) <;> (first | exact @False.elim _ | intro hc)))
      refine nx (by omega) ⟨vv, hm0, hm1, hn, fun f hf => ?_⟩
      by_cases e : f = k
      · subst e; exact hs.out
      · exact hI f (by omega)
  · have c1 : ¬ ((k + 1 : Nat) : Int) ≤ (h.low.length : Int) := by omega
    repeat' (with_reducible first | refine x_ops ?_ | refine wk ?_ | ((first | refine gd1 ?_ ?_ | refine gd2 ?_ ?_ | refine gd3 ?_ ?_) <;> (first | exact @False.elim _ | intro hc)))
    exact finV_lit vv (spn_good fun f hf => hI f (by omega))
end Go.Proofs.Ytojjdkoglhecbaa
