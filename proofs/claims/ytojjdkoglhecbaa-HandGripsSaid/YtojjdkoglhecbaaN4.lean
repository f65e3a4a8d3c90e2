/- What grips and Grips of the program answer, on values. -/
import Derived.Test.YtojjdkoglhecbaaN3
namespace Go.Proofs.Ytojjdkoglhecbaa
open Go.RowKit
set_option linter.unusedSimpArgs false
set_option linter.unusedVariables false

theorem chord_len {c : Chord} (hc : ChordOk c) : c.down.length ≤ 14 := by
  have key : ∀ i, i < c.down.length → (i : Int) + 1 ≤ (c.down.getD i (0, 0)).1 := by
    intro i
    induction i with
    | zero => intro h0; have := (hc.each 0 h0).1; omega
    | succ i ih => intro h1; have := ih (by omega); have := hc.rise i h1; omega
  rcases Nat.eq_zero_or_pos c.down.length with h0 | h0
  · omega
  · have h1 := key (c.down.length - 1) (by omega)
    have h2 := (hc.each (c.down.length - 1) (by omega)).1
    omega
set_option maxHeartbeats 2000000 in
theorem grips_fn (h : Hand) (hk : HandOk h) (c : Chord) (hf : FitC c) (hc : ChordOk c) : Fn Try.prog Gd 71 [h.val, c.val] (tGs ((grpA h c).take 201)) := by
  refine Fn.of_vx0 k_hand_grips (by simp) (by rw [V.pures, pure_hand, V.pures, pure_chord]; rfl) ?_
  have htop := hk.top
  have h14 := chord_len hc
  unfold c_hand_grips Hand.val Chord.val Chord.cells tGs
  repeat' (first | with_reducible refine x_ops ?_ | refine wk ?_ | ((first | refine gd1 ?_ ?_ | refine gd2 ?_ ?_ | refine gd3 ?_ ?_) <;> (first | with_reducible exact @False.elim _ | intro hc)))
  refine x_loopW w_hand_grips_p3 (by kernel_rfl) h.top.toNat (fun p t m => t 7 = vint ((p + 1 : Nat) : Int) ∧ ∃ v j, PlSt h c m ((fitP h c p).take 201) v ∧ FgR m v [] j ∧ (0 = c.down.length → j = [])) ?_ ?_
  · exact ⟨vv, .sl 0 [] .exact, [], ⟨vv, vv, ⟨.exact, vv, .inl rfl⟩, vv, vv, by ((refine ve ?_; try exact True.intro)); first | done | omega⟩, .inl ⟨rfl, rfl, rfl⟩, fun _ => rfl⟩
  rintro p t m hp ⟨h7, v, j, hs, hv, hj⟩
  have o2 := hs.o2
  obtain ⟨tok, o2, hap⟩ := o2
  have o4 := hs.o4
  have o0 := hs.o0
  have nxm := hs.nx
  have n0 : 0 < m.next := by omega
  have n2 : 2 < m.next := by omega
  have n4 : 4 < m.next := by omega
  have hs0 := Hid.mk hs
  have hv0 := Hid.mk hv
  have hj0 := Hid.mk hj
  clear hs hv hj hap
  by_cases hpt : p < h.top.toNat
  case neg =>
    have hpe : p = h.top.toNat := by omega
    subst hpe
    have c1 : ¬ ((h.top.toNat + 1 : Nat) : Int) ≤ h.top := by omega
    unfold grpA
    generalize (fitP h c h.top.toNat).take 201 = L at *
    repeat' (first | with_reducible refine x_ops ?_ | refine wk ?_ | ((first | refine gd1 ?_ ?_ | refine gd2 ?_ ?_ | refine gd3 ?_ ?_) <;> (first | with_reducible exact @False.elim _ | intro hc)))
    exact finV_ret vv (.sl _ _ _)
  have c1 : ((p + 1 : Nat) : Int) ≤ h.top := by omega
  have w1 := w_add1 (k := p + 1) (by omega)
  have hL : (fitP h c (p + 1)).take 201 = ((fitP h c p).take 201 ++ fitT h c ((p + 1 : Nat) : Int) c.down.length []).take 201 := by
    rw [fitP_succ]
    by_cases hg : ((fitP h c p).take 201).length ≤ 200
    · exact (tk_more hg).symm
    · rw [← tk_full hg, List.take_append_of_le_length (by omega), List.take_of_length_le (tk_len _)]
  replace hL := Hid.mk hL
  clear o2
  have PS := place_sfn h hk c hf h14 ((p + 1 : Nat) : Int) (by omega) c.down.length [] ((fitP h c p).take 201) m v j (by simp) (fun i hi => by simp at hi) (tk_len _)
    (fun e => ⟨by have := fitP0_len (h := h) e p; rw [List.length_take]; omega, hj0.out e.symm⟩) hs0.out hv0.out
  repeat' (first | with_reducible refine x_ops ?_ | refine wk ?_ | ((first | refine gd1 ?_ ?_ | refine gd2 ?_ ?_ | refine gd3 ?_ ?_) <;> (first | with_reducible exact @False.elim _ | intro hc)))
  refine x_callv (f := 104) (cs := [.ptr 3 0, .ptr 1 0, .ptr 0 0, .ptr 2 0, .ptr 4 0]) (Post := PlPost h c m.next [] (((fitP h c p).take 201 ++ fitT h c ((p + 1 : Nat) : Int) c.down.length []).take 201)) vw kr ?_ ?_ ?_
  · (simp only [go_sem, Nat.reduceAdd, Nat.reduceEqDiff, Nat.reduceLT, Nat.reduceLeDiff, Nat.reduceMul, Nat.reduceSub, Nat.reducePow, Nat.reduceDiv, Nat.reduceMod, Nat.reduceBEq, Int.reduceBEq, Int.reduceLT, reduceIte, V.norms, V.norm, tIs, tBs, tPs, *]); exact PS
  · obtain ⟨m', h1, h2, h3⟩ := hs0.out.other (((fitP h c p).take 201 ++ fitT h c ((p + 1 : Nat) : Int) c.down.length []).take 201) hv0.out
    exact ⟨_, m', rfl, h3, _, _, h1, h2, fun e => hj0.out e⟩
  rintro r m4 ⟨rfl, hnx4, v4, j4, hs4, hv4, hj4⟩
  have hs5 := Hid.mk hs4
  have hv5 := Hid.mk hv4
  have hj5 := Hid.mk hj4
  clear hs4 hv4 hj4 PS
  repeat' (first | with_reducible refine x_ops ?_ | refine wk ?_ | ((first | refine gd1 ?_ ?_ | refine gd2 ?_ ?_ | refine gd3 ?_ ?_) <;> (first | with_reducible exact @False.elim _ | intro hc)))
  exact nx hpt ⟨vv, v4, j4, by rw [hL.out]; exact hs5.out, hv5.out, hj5.out⟩
/-- What Grips answers. -/
noncomputable def grR (h : Hand) (c : Chord) : List Grip × Int :=
  if chkE h = 0 then (if rgtB c = true then (if (grpA h c).length ≤ 200 then (grpA h c, 0) else ([], 2)) else ([], 1)) else ([], 60)
theorem rgt_ok {c : Chord} (h : rgtB c = true) : ChordOk c := by unfold rgtB at h; simpa using h
set_option maxHeartbeats 1000000 in
theorem Grips_fn (h : Hand) (c : Chord) (hf : FitC c) : Fn Try.prog Gd 32 [h.val, c.val] (.tup [tGs (grR h c).1, vint (grR h c).2]) := by
  refine Fn.of_vx0 k_hand_Grips (by simp) (by rw [V.pures, pure_hand, V.pures, pure_chord]; rfl) ?_
  have C1 := check_fn h
  have C2 := right_fn c hf.big
  unfold grR
  unfold c_hand_Grips Hand.val Chord.val Chord.cells tGs
  by_cases he : chkE h = 0
  case neg =>
    rw [if_neg he]
    rw [chk_bad he] at C1
    clear he
    unfold Hand.val at C1
    repeat' (first | with_reducible refine x_ops ?_ | refine wk ?_ | (with_reducible refine xc (C1) ?_) | ((first | refine gd1 ?_ ?_ | refine gd2 ?_ ?_ | refine gd3 ?_ ?_) <;> (first | with_reducible exact @False.elim _ | intro hc)))
    exact finV_ret vv (.tup (.cons (.sl _ _ _) (.cons (.lit _) .nil)))
  have hk := chk_ok he
  rw [if_pos he]
  rw [he] at C1
  clear he
  cases hr : rgtB c
  · rw [hr] at C2
    rw [if_neg (by simp)]
    clear hr hk
    unfold Hand.val at C1
    unfold Chord.val Chord.cells at C2
    repeat' (first | with_reducible refine x_ops ?_ | refine wk ?_ | (with_reducible refine xc (C1) ?_) | (with_reducible refine xc (C2) ?_) | ((first | refine gd1 ?_ ?_ | refine gd2 ?_ ?_ | refine gd3 ?_ ?_) <;> (first | with_reducible exact @False.elim _ | intro hc)))
    exact finV_ret vv (.tup (.cons (.sl _ _ _) (.cons (.lit _) .nil)))
  rw [hr] at C2
  rw [if_pos rfl]
  have C3 := grips_fn h hk c hf (rgt_ok hr)
  clear hr hk
  unfold Hand.val at C1 C3
  unfold Chord.val Chord.cells at C2 C3
  unfold tGs at C3
  by_cases hl : (grpA h c).length ≤ 200
  · rw [if_pos hl]
    rw [List.take_of_length_le (by omega)] at C3
    have c1 : ¬ (200 : Int) < ((grpA h c).length : Int) := by omega
    clear hl
    generalize grpA h c = L at *
    repeat' (first | with_reducible refine x_ops ?_ | refine wk ?_ | (with_reducible refine xc (C1) ?_) | (with_reducible refine xc (C2) ?_) | (with_reducible refine xc (C3) ?_) | ((first | refine gd1 ?_ ?_ | refine gd2 ?_ ?_ | refine gd3 ?_ ?_) <;> (first | with_reducible exact @False.elim _ | intro hc)))
    exact finV_ret vv (.tup (.cons (.sl _ _ _) (.cons (.lit _) .nil)))
  · rw [if_neg hl]
    have c1 : (200 : Int) < (((grpA h c).take 201).length : Int) := by rw [List.length_take]; omega
    clear hl
    generalize (grpA h c).take 201 = L at *
    repeat' (first | with_reducible refine x_ops ?_ | refine wk ?_ | (with_reducible refine xc (C1) ?_) | (with_reducible refine xc (C2) ?_) | (with_reducible refine xc (C3) ?_) | ((first | refine gd1 ?_ ?_ | refine gd2 ?_ ?_ | refine gd3 ?_ ?_) <;> (first | with_reducible exact @False.elim _ | intro hc)))
    exact finV_ret vv (.tup (.cons (.sl _ _ _) (.cons (.lit _) .nil)))
end Go.Proofs.Ytojjdkoglhecbaa
