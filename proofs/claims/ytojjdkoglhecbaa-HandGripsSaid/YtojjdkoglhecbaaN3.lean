/- The grips that the program lists, on values. -/
import Derived.Test.YtojjdkoglhecbaaN2
import Derived.Test.YtojjdkoglhecbaaH5
namespace Go.Proofs.Ytojjdkoglhecbaa
open Go.RowKit
set_option linter.unusedSimpArgs false
set_option linter.unusedVariables false

theorem vw_hand {m : Mm} {S : Nat → Bool} {h : Hand} : Vw m S (.agg [.sl h.low.length (h.low.map vint) .no, .sl h.high.length (h.high.map vint) .no, .sl h.barre.length (h.barre.map vbool) .no, vint h.top, vint h.jump, vint h.shift, vint h.lift, vint h.bar, vint h.stretch, vint h.slide]) h.val :=
  .agg (.cons (.sl _ _ _) (.cons (.sl _ _ _) (.cons (.sl _ _ _) (.cons (.lit _) (.cons (.lit _) (.cons (.lit _) (.cons (.lit _) (.cons (.lit _) (.cons (.lit _) (.cons (.lit _) .nil))))))))))
theorem vw_chord {m : Mm} {S : Nat → Bool} {c : Chord} : Vw m S (.agg [.sl c.down.length (c.down.flatMap plE) .no, .sl c.held.length (c.held.map vint) .no, .sl c.opn.length (c.opn.map vint) .no]) c.val :=
  .agg (.cons (.sl _ _ _) (.cons (.sl _ _ _) (.cons (.sl _ _ _) .nil)))
/-- How the closure leaves memory. -/
def PlPost (h : Hand) (c : Chord) (n0 : Nat) (F : List Int) (L : List Grip) (r : V) (m : Mm) : Prop := r = .tup [] ∧ n0 ≤ m.next ∧ ∃ v j, PlSt h c m L v ∧ FgR m v F j ∧ (F.length = c.down.length → j = [])
theorem Apb.put {m : Mm} {k : Tok} {n : Nat} {e : TypeId} {size i : Nat} {cs : List V} {t : TypeId} {o : AObj} (h : Apb m k n e size) (hi : m.obj i = some (.box cs t)) : Apb (m.put i o) k n e size := by
  rcases h with h1 | ⟨t, h1, h2, h3⟩
  · exact .inl h1
  · exact .inr ⟨t, h1, h2, by rw [put_obj, if_neg (fun e => by subst e; rw [hi] at h3; cases h3)]; exact h3⟩
theorem PlSt.put3 {h : Hand} {c : Chord} {m : Mm} {L : List Grip} {v : V} (hs : PlSt h c m L v) (w : V) : PlSt h c (m.put 3 (.box [w] 22)) L w := by
  obtain ⟨tok, h1, h2⟩ := hs.o2
  exact ⟨hs.o0, hs.o1, ⟨tok, h1, h2.put hs.o3⟩, rfl, hs.o4, hs.nx⟩
theorem PlSt.frame {h : Hand} {c : Chord} {m m' : Mm} {L : List Grip} {v : V} (hs : PlSt h c m L v) (hn : m.next ≤ m'.next) (h5 : ∀ j, j < 5 → m'.obj j = m.obj j) (hr : ∀ j n e z, j < m.next → m.obj j = some (.row n e z) → m'.obj j = some (.row n e z)) : PlSt h c m' L v := by
  obtain ⟨tok, h1, h2⟩ := hs.o2
  refine ⟨(h5 0 (by omega)).trans hs.o0, (h5 1 (by omega)).trans hs.o1, ⟨tok, (h5 2 (by omega)).trans h1, ?_⟩, (h5 3 (by omega)).trans hs.o3, (h5 4 (by omega)).trans hs.o4, Nat.le_trans hs.nx hn⟩
  rcases h2 with h3 | ⟨t, h3, h4, h5⟩
  · exact .inl h3
  · exact .inr ⟨t, h3, Nat.lt_of_lt_of_le h4 hn, hr t _ _ _ h4 h5⟩
theorem FgR.grow {m : Mm} {v : V} {F : List Int} {r : List V} (h : FgR m v F r) (k : Nat) : FgR ⟨m.obj, m.next + k⟩ v F r := by
  rcases h with h | ⟨q, h1, h2, h3, h4⟩
  · exact .inl h
  · exact .inr ⟨q, h1, h2, Nat.lt_of_lt_of_le h3 (Nat.le_add_right _ _), h4⟩
set_option maxHeartbeats 4000000 in
theorem place_sfn (h : Hand) (hk : HandOk h) (c : Chord) (hf : FitC c) (h14 : c.down.length ≤ 14) (pos : Int) (hp : 1 ≤ pos ∧ pos ≤ h.top) : ∀ (k : Nat) (F : List Int) (L : List Grip) (m : Mm) (v : V) (j : List V), F.length + k = c.down.length → PreF h c pos F →
    L.length ≤ 201 → (k = 0 → L.length ≤ 200 ∧ j = []) → PlSt h c m L v → FgR m v F j →
    SFn Try.prog Gd 104 [vint pos, .ptr 3 0, .ptr 1 0, .ptr 0 0, .ptr 2 0, .ptr 4 0] m (PlPost h c m.next F ((L ++ fitT h c pos k F).take 201))
  | 0, F, L, m, v, j, hl, hF, hL, h0, hs, hv => by
    obtain ⟨hL2, rfl⟩ := h0 rfl
    have htop := hk.top
    have hfit := hF.leaf hp (by omega)
    have SP := spans_fn h hk c hf F (by omega)
    refine SFn.of_vxS k_hand_grips_1_b (by simp) ?_
    have hlen := fg_len hv
    simp only [pureSem, vint] at hlen
    have o0 := hs.o0
    have o1 := hs.o1
    obtain ⟨tok, o2, hap⟩ := hs.o2
    have o3 := hs.o3
    have o4 := hs.o4
    have nxm := hs.nx
    have n0 : 0 < m.next := by omega
    have n1 : 1 < m.next := by omega
    have n2 : 2 < m.next := by omega
    have n3 : 3 < m.next := by omega
    have n4 : 4 < m.next := by omega
    have e1 : ((F.length : Int) == (c.down.length : Int)) = true := by simp; omega
    have hs0 := Hid.mk hs
    have hv0 := Hid.mk hv
    have hl0 := Hid.mk hl
    clear hs hv hl hp htop nxm
    unfold c_hand_grips_1_b
    unfold Hand.val Chord.val Chord.cells at SP
    rw [fitT, hfit]
    have hfl : F.length ≤ 14 := by have := hl0.out; omega
    replace hfl := Hid.mk hfl
    -- the row of numbers as a call sees it
    have SV : ∀ m' : Mm, (∀ q, q < m.next → m'.obj q = m.obj q) → Vw m' allS v (tIs F) := by
      intro m' hm'
      rcases hv0.out with ⟨rfl, rfl, _⟩ | ⟨q, rfl, hq5, hqn, ho⟩
      · exact .sl _ _ _
      · rw [List.append_nil] at ho
        exact .gsl rfl (by rw [hm' q hqn]; exact ho) (Vws.of_dry (vint_dry F)) (vint_one F)
    have CL : ∀ m' : Mm, (∀ q, q < m.next → m'.obj q = m.obj q) → SFn Try.prog Gd 106 [v] m' fun r' m'' => r' = tIs F ∧ m'' = m' := by
      intro m' hm'
      have hfl := hfl.out
      rcases hv0.out with ⟨rfl, rfl, _⟩ | ⟨q, rfl, hq5, hqn, ho⟩
      · have := clone_fn [] (by simp)
        exact fun E w ca hG hm hv => this m' E w ca hG hm hv.norm
      · rw [List.append_nil] at ho
        by_cases hF0 : F = []
        · subst hF0
          exact clone_m0 (by rw [hm' q hqn]; exact ho)
        · exact clone_m (by omega) hF0 (by rw [hm' q hqn]; exact ho)
    repeat' (first | with_reducible refine x_ops ?_ | refine wk ?_ | ((first | refine gd1 ?_ ?_ | refine gd2 ?_ ?_ | refine gd3 ?_ ?_) <;> (first | with_reducible exact @False.elim _ | intro hc)))
    refine x_lend allS SP rfl ?_ ?_
    · (simp only [go_sem, Nat.reduceAdd, Nat.reduceEqDiff, Nat.reduceLT, Nat.reduceLeDiff, Nat.reduceMul, Nat.reduceSub, Nat.reducePow, Nat.reduceDiv, Nat.reduceMod, Nat.reduceBEq, Int.reduceBEq, Int.reduceLT, reduceIte, V.norms, V.norm, tIs, tBs, tPs, *])
      exact .cons vw_hand (.cons vw_chord (.cons (SV _ fun _ _ => rfl) .nil))
    cases hsp : spnB h c F
    · rw [if_neg (by simp), List.append_nil, List.take_of_length_le (by omega)]
      repeat' (first | with_reducible refine x_ops ?_ | refine wk ?_ | ((first | refine gd1 ?_ ?_ | refine gd2 ?_ ?_ | refine gd3 ?_ ?_) <;> (first | with_reducible exact @False.elim _ | intro hc)))
      exact finS_ret vv ⟨rfl, Nat.le_refl _, v, [], hs0.out, hv0.out, fun _ => rfl⟩
    · rw [if_pos rfl, List.take_of_length_le (by simp; omega)]
      repeat' (first | with_reducible refine x_ops ?_ | refine wk ?_ | ((first | refine gd1 ?_ ?_ | refine gd2 ?_ ?_ | refine gd3 ?_ ?_) <;> (first | with_reducible exact @False.elim _ | intro hc)))
      refine x_callM [v] vw (fun m' hm' => CL m' fun q hq => hm' q hq) ?_
      repeat' (first | with_reducible refine x_ops ?_ | refine wk ?_ | ((first | refine gd1 ?_ ?_ | refine gd2 ?_ ?_ | refine gd3 ?_ ?_) <;> (first | with_reducible exact @False.elim _ | intro hc)))
      refine x_appb (xs := L.flatMap Grip.cells) (ys := Grip.cells ⟨pos, F⟩) vw vw (hap.mono (fun _ _ _ => rfl) (Nat.le_add_right _ _)) (gs_len L) rfl (by omega) (by unfold Go.maxLen; omega) (by show m.next + 6 < m.next + 8; omega) ?_
      intro tok' m' hap' hn' hbox hobj
      replace hn' : m'.next = m.next + 8 := hn'
      have q0 := hbox 0 _ _ o0 (by show ¬ 0 = m.next + 6; omega)
      have q1 := hbox 1 _ _ o1 (by show ¬ 1 = m.next + 6; omega)
      have q2 := hbox 2 _ _ o2 (by show ¬ 2 = m.next + 6; omega)
      have q3 := hbox 3 _ _ o3 (by show ¬ 3 = m.next + 6; omega)
      have q4 := hbox 4 _ _ o4 (by show ¬ 4 = m.next + 6; omega)
      have hv1 : FgR (m'.put 2 (.box [.sl (L.length + 1) (L.flatMap Grip.cells ++ Grip.cells ⟨pos, F⟩) tok'] 38)) v F [] := by
        rcases hv0.out with h1 | ⟨q, h1, h2, h3, h4⟩
        · exact .inl h1
        · exact .inr ⟨q, h1, h2, by rw [put_next]; omega, by rw [put_obj, if_neg (by omega)]; exact hbox q _ _ h4 (by show ¬ q = m.next + 6; omega)⟩
      replace hv1 := Hid.mk hv1
      clear hbox hobj hap o0 o1 o2 o3 o4
      repeat' (first | with_reducible refine x_ops ?_ | refine wk ?_ | ((first | refine gd1 ?_ ?_ | refine gd2 ?_ ?_ | refine gd3 ?_ ?_) <;> (first | with_reducible exact @False.elim _ | intro hc)))
      refine finS_ret vv ⟨rfl, ?_, v, [], ⟨?_, ?_, ⟨tok', ?_, ?_⟩, ?_, ?_, ?_⟩, hv1.out, fun _ => rfl⟩
      · rw [put_next]; omega
      · ((refine ve ?_; try exact True.intro)); exact q0
      · ((refine ve ?_; try exact True.intro)); exact q1
      · ((refine ve ?_; try exact True.intro)); simp
      · rw [List.length_append]
        rcases hap' with h1 | ⟨t, h1, h2, h3⟩
        · exact .inl h1
        · exact .inr ⟨t, h1, h2, by rw [put_obj, if_neg (fun e => by subst e; rw [q2] at h3; cases h3)]; exact h3⟩
      · ((refine ve ?_; try exact True.intro)); exact q3
      · ((refine ve ?_; try exact True.intro)); exact q4
      · rw [put_next]; omega
  | k + 1, F, L, m, v, j, hl, hF, hL, h0, hs, hv => by
    have IH := place_sfn h hk c hf h14 pos hp k
    have htop := hk.top
    have hn4 := hk.n4
    have nxt0 := hs.nx
    clear h0
    refine SFn.of_vxS k_hand_grips_1_b (by simp) ?_
    have hlen := fg_len hv
    simp only [pureSem, vint] at hlen
    have o0 := hs.o0
    have o1 := hs.o1
    obtain ⟨tok, o2, hap⟩ := hs.o2
    have o3 := hs.o3
    have o4 := hs.o4
    have n3 : 3 < m.next := by omega
    have e1 : ((F.length : Int) == (c.down.length : Int)) = false := by simp; omega
    have hlt : F.length < c.down.length := by omega
    have cF : (F.length : Int) < (c.down.length : Int) := by omega
    have gF := pls_at1 hlt
    have gL := pls_len c.down
    have gT := pls_take hlt
    have gT2 : F.length * 2 + 2 ≤ c.down.length * 2 := by omega
    have RF := fun f hf => reach_fn h hk pos f (c.down.getD F.length (0, 0)).2 (by omega) hf
    have cb2 : Hid (∀ {A B : Prop}, A → B → A) := ⟨fun a _ => a⟩
    have hs0 := Hid.mk hs
    have hv0 := Hid.mk hv
    have hl0 := Hid.mk hl
    have hlt0 := Hid.mk hlt
    have hfl : Hid (F.length ≤ 14) := ⟨by omega⟩
    clear hs hl hlt nxt0 hap o2
    rw [fitT_succ]
    unfold c_hand_grips_1_b
    unfold Hand.val at RF
    repeat' (first | with_reducible refine x_ops ?_ | refine wk ?_ | ((first | refine gd1 ?_ ?_ | refine gd2 ?_ ?_ | refine gd3 ?_ ?_) <;> (first | with_reducible exact @False.elim _ | intro hc)))
    clear hlen o3 o0 o1 o4 e1 n3
    refine x_loopW w_hand_grips_1_b_p14 (by kernel_rfl) h.low.length (fun f t m' => t 8 = vint ((f + 1 : Nat) : Int) ∧ m.next ≤ m'.next ∧ ∃ v j, PlSt h c m' ((L ++ fitS h c pos k F f).take 201) v ∧ FgR m' v F j) ?_ ?_
    · refine ⟨vv, Nat.le_refl _, v, j, ?_, hv0.out⟩
      rw [show fitS h c pos k F 0 = [] from rfl, List.append_nil, List.take_of_length_le hL]
      exact hs0.out
    clear hs0 hv0 hv
    rintro f t m1 hfk ⟨h8, hnx1, v1, j1, hs, hv⟩
    have o0 := hs.o0
    have o1 := hs.o1
    obtain ⟨tok, o2, hap⟩ := hs.o2
    have o3 := hs.o3
    have o4 := hs.o4
    have nxm := hs.nx
    have n0 : 0 < m1.next := by omega
    have n1 : 1 < m1.next := by omega
    have n2 : 2 < m1.next := by omega
    have n3 : 3 < m1.next := by omega
    have hlen := fg_len hv
    simp only [pureSem, vint] at hlen
    have hs0 := Hid.mk hs
    have hv0 := Hid.mk hv
    have hLf := tk_len (L ++ fitS h c pos k F f)
    clear hs hv
    by_cases hfn : f < h.low.length
    case neg =>
      have hfe : f = h.low.length := by omega
      subst hfe
      have c1 : ¬ ((h.low.length + 1 : Nat) : Int) ≤ (h.low.length : Int) := by omega
      clear hfk hfn
      repeat' (first | with_reducible refine x_ops ?_ | refine wk ?_ | ((first | refine gd1 ?_ ?_ | refine gd2 ?_ ?_ | refine gd3 ?_ ?_) <;> (first | with_reducible exact @False.elim _ | intro hc)))
      exact ⟨.inl rfl, .tup [], vv, rfl, hnx1, v1, j1, hs0.out, hv0.out, fun e => absurd e (Nat.ne_of_lt hlt0.out)⟩
    have c1 : ((f + 1 : Nat) : Int) ≤ (h.low.length : Int) := by omega
    obtain ⟨Lf, hLe⟩ : ∃ Lf, Lf = (L ++ fitS h c pos k F f).take 201 := ⟨_, rfl⟩
    rw [← hLe] at hs0 hLf o2 hap
    by_cases hg : Lf.length ≤ 200
    case neg =>
      have c2 : ¬ (Lf.length : Int) ≤ 200 := by omega
      have hfull : Lf = (L ++ fitS h c pos k F h.low.length).take 201 := by
        obtain ⟨B, hB⟩ := fitS_le h c pos k F (Nat.le_of_lt hfn)
        rw [hLe] at hg ⊢
        rw [hB, ← List.append_assoc]
        exact tk_full hg
      rw [← hfull]
      replace hLe := Hid.mk hLe
      replace hfull := Hid.mk hfull
      clear hg
      repeat' (first | with_reducible refine x_ops ?_ | refine wk ?_ | ((first | refine gd1 ?_ ?_ | refine gd2 ?_ ?_ | refine gd3 ?_ ?_) <;> (first | with_reducible exact @False.elim _ | intro hc)))
      exact ⟨.inl rfl, .tup [], vv, rfl, hnx1, v1, j1, hs0.out, hv0.out, fun e => absurd e (Nat.ne_of_lt hlt0.out)⟩
    have c2 : (Lf.length : Int) ≤ 200 := by omega
    have R2 := RF f hfn
    have w2 := w_add1 (k := f + 1) (by omega)
    have hLs : (L ++ fitS h c pos k F (f + 1)).take 201 = (Lf ++ fitT h c pos k (F ++ [((f + 1 : Nat) : Int)])).take 201 := by
      rw [fitS_succ, ← List.append_assoc, hLe]
      rw [hLe] at hg
      exact (tk_more hg).symm
    have skip : fitT h c pos k (F ++ [((f + 1 : Nat) : Int)]) = [] → (L ++ fitS h c pos k F (f + 1)).take 201 = Lf := fun e => by rw [hLs, e, List.append_nil, List.take_of_length_le hLf]
    replace hLs := Hid.mk hLs
    replace skip := Hid.mk skip
    replace hLe := Hid.mk hLe
    replace hg := Hid.mk hg
    replace hLf := Hid.mk hLf
    replace hfn := Hid.mk hfn
    clear RF hfk
    cases hr : rchB h pos f (c.down.getD F.length (0, 0)).2
    · rw [hr] at R2
      have e9 := Hid.mk (skip.out (fitT_reach hlt0.out hr))
      clear hr
      repeat' (first | with_reducible refine x_ops ?_ | refine wk ?_ | (with_reducible refine xc (R2) ?_) | ((first | refine gd1 ?_ ?_ | refine gd2 ?_ ?_ | refine gd3 ?_ ?_) <;> (first | with_reducible exact @False.elim _ | intro hc)))
      exact nx hfn.out ⟨vv, hnx1, v1, j1, by rw [e9.out]; exact hs0.out, hv0.out⟩
    rw [hr] at R2
    replace hr := Hid.mk hr
    repeat' (first | with_reducible refine x_ops ?_ | refine wk ?_ | (with_reducible refine xc (R2) ?_) | ((first | refine gd1 ?_ ?_ | refine gd2 ?_ ?_ | refine gd3 ?_ ?_) <;> (first | with_reducible exact @False.elim _ | intro hc)))
    refine x_loopF w_hand_grips_1_b_p6 (by kernel_rfl) F.length (fun q t => t 54 = vint (q : Int) ∧ ∀ i, i < q → agrB (c.down.getD i (0, 0)) (c.down.getD F.length (0, 0)) (F.getD i 0) ((f + 1 : Nat) : Int) = true) ?_ ?_
    · exact ⟨vv, fun i h => by omega⟩
    rintro q t2 hq ⟨h54, hJ⟩
    replace hJ := Hid.mk hJ
    by_cases hqF : q < F.length
    · obtain ⟨qq, rfl, hq5, hqn, hoq⟩ : ∃ qq, v1 = .gsl qq F.length 1 ∧ 5 ≤ qq ∧ qq < m1.next ∧ m1.obj qq = some (.box (F.map vint ++ j1) 3) := by
        rcases hv0.out with ⟨_, h1, _⟩ | h1
        · subst h1; simp at hqF
        · exact h1
      have g1 : (F.map vint ++ j1)[q]? = some (V.lit (.int .i64 (F.getD q 0))) := by rw [List.getElem?_append_left (by simpa using hqF)]; exact ints_at hqF
      have g2 := pls_take (l := c.down) (k := q) (by omega)
      have g3 : q * 2 + 2 ≤ c.down.length * 2 := by omega
      have c3 : (q : Int) < (F.length : Int) := by omega
      have c4 : (q : Int) < (c.down.length : Int) := by omega
      have w3 := w_add1 (k := q) (by omega)
      have AG := agree_fn (c.down.getD q (0, 0)) (c.down.getD F.length (0, 0)) (F.getD q 0) ((f + 1 : Nat) : Int)
      unfold plE at AG
      clear hq5
      cases ha : agrB (c.down.getD q (0, 0)) (c.down.getD F.length (0, 0)) (F.getD q 0) ((f + 1 : Nat) : Int)
      · rw [ha] at AG
        have e9 := Hid.mk (skip.out (fitT_agree (k := k) hlt0.out hqF ha))
        clear ha
        repeat' (first | with_reducible refine x_ops ?_ | refine wk ?_ | (with_reducible refine xc (AG) ?_) | ((first | refine gd1 ?_ ?_ | refine gd2 ?_ ?_ | refine gd3 ?_ ?_) <;> (first | with_reducible exact @False.elim _ | intro hc)))
        exact nx hfn.out ⟨vv, hnx1, _, j1, by rw [e9.out]; exact hs0.out, hv0.out⟩
      · rw [ha] at AG
        replace ha := Hid.mk ha
        repeat' (first | with_reducible refine x_ops ?_ | refine wk ?_ | (with_reducible refine xc (AG) ?_) | ((first | refine gd1 ?_ ?_ | refine gd2 ?_ ?_ | refine gd3 ?_ ?_) <;> (first | with_reducible exact @False.elim _ | intro hc)))
        refine nf hqF ⟨vv, fun i h => ?_⟩ rfl
        by_cases hi : i = q
        · subst hi; exact ha.out
        · exact hJ.out i (by omega)
    · have hqe : q = F.length := by omega
      subst hqe
      have c3 : ¬ (F.length : Int) < (F.length : Int) := by omega
      have hP := Hid.mk (hF.snoc hfn.out hr.out hJ.out)
      clear hqF hq hJ
      repeat' (first | with_reducible refine x_ops ?_ | refine wk ?_ | ((first | refine gd1 ?_ ?_ | refine gd2 ?_ ?_ | refine gd3 ?_ ?_) <;> (first | with_reducible exact @False.elim _ | intro hc)))
      refine x_appF (v := v1) (F := F) (r := j1) (a := ((f + 1 : Nat) : Int)) vw (hv0.out.grow 5) vw (by have := hfl.out; omega) (by show 5 ≤ m1.next + 3; omega) (by show m1.next + 3 < m1.next + 5; omega) ?_
      intro m2 hF2 hn2 ho2 hr2
      replace hn2 : m2.next = m1.next + 5 := hn2
      have hs2 : PlSt h c m2 Lf v1 := hs0.out.frame (by omega) ho2 (fun j n e z hj hjr => hr2 j n e z (by show j ≠ m1.next + 3; omega) hjr)
      have q3 := hs2.o3
      have q4 := hs2.o4
      have q34 : 4 < m2.next := by omega
      replace hn2 := Hid.mk hn2
      have hs3 := Hid.mk (hs2.put3 (.gsl (m1.next + 3) (F.length + 1) 1))
      have hF3 : FgR (m2.put 3 (.box [.gsl (m1.next + 3) (F.length + 1) 1] 22)) (.gsl (m1.next + 3) (F.length + 1) 1) (F ++ [((f + 1 : Nat) : Int)]) [] := by
        rcases hF2 with ⟨h1, _⟩ | ⟨q, h1, h2, h3, h4⟩
        · cases h1
        · exact .inr ⟨q, h1, h2, h3, by rw [put_obj, if_neg (by omega)]; exact h4⟩
      replace hF3 := Hid.mk hF3
      clear hs2 ho2 hr2 hF2 hlen o0 o1 o2 o3 o4 hap n0 n1 n2 n3
      repeat' (first | with_reducible refine x_ops ?_ | refine wk ?_ | ((first | refine gd1 ?_ ?_ | refine gd2 ?_ ?_ | refine gd3 ?_ ?_) <;> (first | with_reducible exact @False.elim _ | intro hc)))
      have hkl : F.length + 1 + k = c.down.length := by have := hl0.out; omega
      refine x_callv (f := 104) (cs := [.ptr 3 0, .ptr 1 0, .ptr 0 0, .ptr 2 0, .ptr 4 0]) (Post := PlPost h c m2.next (F ++ [((f + 1 : Nat) : Int)]) ((Lf ++ fitT h c pos k (F ++ [((f + 1 : Nat) : Int)])).take 201)) vw kr ?_ ?_ ?_
      · (simp only [go_sem, Nat.reduceAdd, Nat.reduceEqDiff, Nat.reduceLT, Nat.reduceLeDiff, Nat.reduceMul, Nat.reduceSub, Nat.reducePow, Nat.reduceDiv, Nat.reduceMod, Nat.reduceBEq, Int.reduceBEq, Int.reduceLT, reduceIte, V.norms, V.norm, tIs, tBs, tPs, *])
        exact IH (F ++ [((f + 1 : Nat) : Int)]) Lf (m2.put 3 (.box [.gsl (m1.next + 3) (F.length + 1) 1] 22)) (.gsl (m1.next + 3) (F.length + 1) 1) [] (by simp; omega) hP.out hLf.out (fun _ => ⟨hg.out, rfl⟩) hs3.out hF3.out
      · obtain ⟨m', h1, h2, h3⟩ := hs3.out.other ((Lf ++ fitT h c pos k (F ++ [((f + 1 : Nat) : Int)])).take 201) hF3.out
        exact ⟨_, m', rfl, h3, _, _, h1, h2, fun _ => rfl⟩
      rintro r m4 ⟨rfl, hnx4, v4, j4, hs4, hv4, _⟩
      obtain ⟨qq, rfl, hq5, hqn, hoq⟩ : ∃ qq, v4 = .gsl qq (F.length + 1) 1 ∧ 5 ≤ qq ∧ qq < m4.next ∧ m4.obj qq = some (.box (F.map vint ++ (vint ((f + 1 : Nat) : Int) :: j4)) 3) := by
        rcases hv4 with ⟨_, h1, _⟩ | ⟨q, h1, h2, h3, h4⟩
        · simp at h1
        · exact ⟨q, by rw [h1]; simp, h2, h3, by rw [h4]; simp⟩
      have p3 := hs4.o3
      have n3 : 3 < m4.next := by omega
      have hsl : vslc 1 false true (.gsl qq (F.length + 1) 1) [.lit (.int .i64 (F.length : Int))] = some (.gsl qq F.length 1) := by
        simp only [vslc, bnds, Bool.false_eq_true, if_false, if_true]
        rw [if_pos ⟨Int.le_refl _, Int.natCast_nonneg _, by omega⟩]
        rfl
      have hs5 := Hid.mk (hs4.put3 (.gsl qq F.length 1))
      have hF5 : FgR (m4.put 3 (.box [.gsl qq F.length 1] 22)) (.gsl qq F.length 1) F (vint ((f + 1 : Nat) : Int) :: j4) := .inr ⟨qq, rfl, hq5, hqn, by rw [put_obj, if_neg (by omega)]; exact hoq⟩
      replace hF5 := Hid.mk hF5
      have hnx5 : m.next ≤ m4.next := by have := hn2.out; omega
      clear hs4 hv4 q3 q4 hq5 hoq
      repeat' (first | with_reducible refine x_ops ?_ | refine wk ?_ | ((first | refine gd1 ?_ ?_ | refine gd2 ?_ ?_ | refine gd3 ?_ ?_) <;> (first | with_reducible exact @False.elim _ | intro hc)))
      exact nx hfn.out ⟨vv, hnx5, _, _, by rw [hLs.out]; exact hs5.out, hF5.out⟩
end Go.Proofs.Ytojjdkoglhecbaa
