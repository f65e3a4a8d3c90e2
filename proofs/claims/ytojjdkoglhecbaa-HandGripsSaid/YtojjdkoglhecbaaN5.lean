/- The grips that the reference lists: extend, on values. -/
import Derived.Test.YtojjdkoglhecbaaN4
namespace Go.Proofs.Ytojjdkoglhecbaa
open Go.RowKit
set_option linter.unusedSimpArgs false
set_option linter.unusedVariables false

section
variable {P : Program} {G : Ground}
/-- A call with memory, its arguments as they are. -/
theorem x_scallR {base i : Nat} {d : Option Nat} {f : FuncId} {xs : List Opd} {l : List VI} {s : St} {K : St → Prop} {Post : V → Mm → Prop} (vs : List V) (hv : xs.map s.ev = vs) (hf : SFn P G f vs s.m Post) (hne : ∃ r m', Post r m')
    (h : ∀ r m', Post r m' → goR P G base (some ⟨putT s.t d r, m'⟩) l (i + 1) K) : vrun P G base i (⟨d, none, .call f, xs, none⟩ :: l) s K := by
  subst hv
  rw [vrun]
  unfold vstep VI.on
  simp only [if_true, sem, callSem]
  exact ⟨_, Post, .inl rfl, hf, hne, fun r m' hP => goR_vrun l (i + 1) _ (h r m' hP)⟩
/-- An append to a row of this call's own, in any order. -/
theorem x_appO {base i : Nat} {d : Option Nat} {e : TypeId} {size bytes : Nat} {x y : Opd} {l : List VI} {s : St} {K : St → Prop} {n j t : Nat} {xs ys : List V} {k2 : Tok} {md : Option (List Nat)} (hx : s.ev x = .sl n xs (.own t)) (hy : s.ev y = .sl j ys k2) (hok : ownOk md base t = true) (ho : s.m.obj t = some (.row n e size))
    (h1 : xs.length = n * size) (h2 : ys.length = j * size) (h3 : (n + j) * bytes ≤ 140737488355328) (h4 : n + j ≤ maxLen)
    (h : goR P G base (some ⟨putT s.t d (.sl (n + j) (xs ++ ys) (.own t)), s.m.put t (.row (n + j) e size)⟩) l (i + 1) K) : vrun P G base i (⟨d, none, .app e size bytes, [x, y], md⟩ :: l) s K := by
  rw [vrun]
  unfold vstep VI.on
  simp only [if_true, List.map_cons, List.map_nil, hx, hy, sem, ho]
  refine ⟨h1, h2, h3, h4, hok, ?_, ?_, ?_, goR_vrun l (i + 1) _ h⟩ <;> first | rfl | trivial
/-- An append to a slice that may grow: what is left as it was. -/
theorem x_appc {base i : Nat} {d : Option Nat} {e : TypeId} {size bytes : Nat} {x y : Opd} {l : List VI} {s : St} {K : St → Prop} {n j : Nat} {xs ys : List V} {k k2 : Tok} (hx : s.ev x = .sl n xs k) (hy : s.ev y = .sl j ys k2) (hap : Apb s.m k n e size)
    (h1 : xs.length = n * size) (h2 : ys.length = j * size) (h3 : (n + j) * bytes ≤ 140737488355328) (h4 : n + j ≤ maxLen) (h0 : base + i < s.m.next)
    (h : ∀ k' m', Apb m' k' (n + j) e size → m'.next = s.m.next → (∀ q, q ≠ base + i → k ≠ .own q → m'.obj q = s.m.obj q) → (∀ q, k' = .own q → q = base + i ∨ k = .own q) → goR P G base (some ⟨putT s.t d (.sl (n + j) (xs ++ ys) k'), m'⟩) l (i + 1) K) :
    vrun P G base i (⟨d, none, .app e size bytes, [x, y], none⟩ :: l) s K := by
  rw [vrun]
  unfold vstep VI.on
  simp only [if_true, List.map_cons, List.map_nil, hx, hy, sem]
  refine ⟨h1, h2, h3, h4, ?_⟩
  rcases hap with rfl | ⟨t, rfl, ht, ho⟩
  · exact goR_vrun l (i + 1) _ (h _ _ (.inr ⟨base + i, rfl, h0, if_pos rfl⟩) rfl (fun q hne _ => if_neg hne) (fun q hq => .inl (by injection hq with hq; exact hq.symm)))
  · simp only [ho]
    exact ⟨rfl, trivial, trivial, trivial, goR_vrun l (i + 1) _ (h _ _ (.inr ⟨t, rfl, ht, if_pos rfl⟩) rfl (fun q _ hne => if_neg fun e => hne (by rw [e])) (fun q hq => .inr hq))⟩
end

/-- A list of grips that may grow goes through a call. -/
def ExPost (m : Mm) (tok : Tok) (L : List Grip) (r : V) (m' : Mm) : Prop :=
  ∃ tok', r = .sl L.length (L.flatMap Grip.cells) tok' ∧ Apb m' tok' L.length 53 2 ∧ m.next ≤ m'.next ∧ (∀ q, q < m.next → tok ≠ .own q → m'.obj q = m.obj q) ∧ ∀ q, q < m.next → tok' = .own q → tok = .own q
theorem ExPost.some (m : Mm) (tok : Tok) (L : List Grip) : ∃ r m', ExPost m tok L r m' :=
  ⟨_, m, .exact, rfl, .inl rfl, Nat.le_refl _, fun _ _ _ => rfl, fun q _ h => by cases h⟩
theorem ExPost.back {m m1 m' : Mm} {tok : Tok} {L : List Grip} {r : V} (h : ExPost m tok L r m') (hn : m1.next ≤ m.next) (ho : ∀ q, q < m1.next → m.obj q = m1.obj q) : ExPost m1 tok L r m' := by
  obtain ⟨tok', h1, h2, h3, h4, h5⟩ := h
  exact ⟨tok', h1, h2, Nat.le_trans hn h3, fun q hq hne => (h4 q (by omega) hne).trans (ho q hq), fun q hq => h5 q (by omega)⟩
theorem allB_succ (n : Nat) (p : Nat → Bool) : allB (n + 1) p = (allB n p && p n) := by simp [allB, List.range_succ]

set_option maxHeartbeats 4000000 in
theorem rext_sfn (h : Hand) (hk : HandOk h) (c : Chord) (hf : FitC c) (hc : ChordOk c) (pos : Int) (hp : 1 ≤ pos ∧ pos ≤ h.top) : ∀ (k : Nat) (F : List Int) (L : List Grip) (m : Mm) (tk tok : Tok), F.length + k = c.down.length → PreR h c pos F →
    L.length ≤ 201 → (k = 0 → L.length ≤ 200) → Apb m tok L.length 53 2 →
    SFn Try.prog Gd 109 [h.val, c.val, vint pos, .sl F.length (F.map vint) tk, .sl L.length (L.flatMap Grip.cells) tok] m (ExPost m tok ((L ++ fitT h c pos k F).take 201))
  | 0, F, L, m, tk, tok, hl, hF, hL, h0, hap => by
    have hL2 := h0 rfl
    have h14 := chord_len hc
    have hfit := hF.leaf hk hc hp (by omega)
    refine SFn.of_vxS k_theorboref06_extend (by simp) ?_
    rw [fitT, if_pos hfit, List.take_of_length_le (by simp; omega)]
    have e1 : ((F.length : Int) == (c.down.length : Int)) = true := by simp; omega
    have n0 : m.next < m.next + 3 := by omega
    have n1 : m.next + 1 < m.next + 3 := by omega
    have hFl : F.length ≤ 14 := by omega
    have hap0 := Hid.mk hap
    clear hl hap
    unfold c_theorboref06_extend Hand.val Chord.val Chord.cells
    repeat' (first | with_reducible refine x_ops ?_ | refine wk ?_ | ((first | refine gd1 ?_ ?_ | refine gd2 ?_ ?_ | refine gd3 ?_ ?_) <;> (first | with_reducible exact @False.elim _ | intro hc)))
    refine x_appE (xs := []) (n := 0) (j := F.length) (ys := F.map vint) vw vw rfl (by simp) (by omega) (by unfold Go.maxLen; omega) ?_
    repeat' (first | with_reducible refine x_ops ?_ | refine wk ?_ | ((first | refine gd1 ?_ ?_ | refine gd2 ?_ ?_ | refine gd3 ?_ ?_) <;> (first | with_reducible exact @False.elim _ | intro hc)))
    refine x_appc (n := L.length) (j := 1) (xs := L.flatMap Grip.cells) (ys := Grip.cells ⟨pos, F⟩) (k := tok) vw vw (hap0.out.mono (fun q hq _ => by (simp only [put_obj]; repeat rw [if_neg (by omega)])) (by simp only [put_next]; omega)) (gs_len L) rfl (by omega) (by unfold Go.maxLen; omega) (by simp only [put_next]; omega) ?_
    intro k' m' hap' hn' hkeep hown
    replace hn' : m'.next = m.next + 11 := hn'
    repeat' (first | with_reducible refine x_ops ?_ | refine wk ?_ | ((first | refine gd1 ?_ ?_ | refine gd2 ?_ ?_ | refine gd3 ?_ ?_) <;> (first | with_reducible exact @False.elim _ | intro hc)))
    refine finS_ret vv ⟨k', ?_, ?_, ?_, ?_, ?_⟩
    · rw [List.length_append, List.flatMap_append]; simp
    · rw [List.length_append]; exact hap'
    · ((refine ve ?_; try exact True.intro)); omega
    · intro q hq hne
      exact (hkeep q (by omega) hne).trans (by (simp only [put_obj]; repeat rw [if_neg (by omega)]))
    · intro q hq hk'
      rcases hown q hk' with h1 | h1
      · omega
      · exact h1
  | k + 1, F, L, m, tk, tok, hl, hF, hL, h0, hap => by
    have IH := rext_sfn h hk c hf hc pos hp k
    have htop := hk.top
    have hn4 := hk.n4
    have h14 := chord_len hc
    clear h0
    refine SFn.of_vxS k_theorboref06_extend (by simp) ?_
    have e1 : ((F.length : Int) == (c.down.length : Int)) = false := by simp; omega
    have hlt : F.length < c.down.length := by omega
    have cF : (F.length : Int) < (c.down.length : Int) := by omega
    have gF := pls_at1 hlt
    have gL := pls_len c.down
    have n0 : m.next < m.next + 3 := by omega
    have n1 : m.next + 1 < m.next + 3 := by omega
    have hfr := hc.each F.length hlt
    have RF := fun v => rreach_fn h hk pos v (c.down.getD F.length (0, 0)).2 (by omega) (by omega)
    have RA := fun (q : Nat) (hq : q < F.length) (v : Int) => rapart_fn h hk c hf q F.length hq hlt (F.getD q 0) v (by
      have := (hF q hq).1
      rw [rrchB, Bool.and_eq_true, Bool.and_eq_true, decide_eq_true_eq, decide_eq_true_eq] at this
      exact this.1)
    have hFl : Hid (F.length ≤ 14) := ⟨by omega⟩
    have hlt0 := Hid.mk hlt
    have hl0 := Hid.mk hl
    have hap0 := Hid.mk hap
    clear hl hap hlt hfr
    rw [fitT_succ]
    unfold c_theorboref06_extend Hand.val Chord.val Chord.cells
    unfold Hand.val at RF RA
    unfold Chord.val Chord.cells at RA
    repeat' (first | with_reducible refine x_ops ?_ | refine wk ?_ | ((first | refine gd1 ?_ ?_ | refine gd2 ?_ ?_ | refine gd3 ?_ ?_) <;> (first | with_reducible exact @False.elim _ | intro hc)))
    clear n0 n1 e1
    refine x_loopW w_theorboref06_extend_p11 (by kernel_rfl) h.low.length (fun f t m' => t 12 = vint ((f + 1 : Nat) : Int) ∧ ExPost m tok ((L ++ fitS h c pos k F f).take 201) (t 4) m' ∧ m.next + 3 ≤ m'.next ∧
      m'.obj m.next = some (.box [tIs h.low, tIs h.high, tBs h.barre, vint h.top, vint h.jump, vint h.shift, vint h.lift, vint h.bar, vint h.stretch, vint h.slide] 25) ∧ m'.obj (m.next + 1) = some (.box [tPs c.down, tIs c.held, tIs c.opn] 47)) ?_ ?_
    · refine ⟨vv, ⟨tok, ?_, ?_, ?_, ?_, fun q _ h => h⟩, ?_, ?_, ?_⟩
      · rw [show fitS h c pos k F 0 = [] from rfl, List.append_nil, List.take_of_length_le hL]; exact vv
      · rw [show fitS h c pos k F 0 = [] from rfl, List.append_nil, List.take_of_length_le hL]
        exact hap0.out.mono (fun q hq _ => by (simp only [put_obj]; repeat rw [if_neg (by omega)])) (by simp only [put_next]; omega)
      · simp only [put_next]; omega
      · intro q hq hne; (simp only [put_obj]; repeat rw [if_neg (by omega)])
      · simp only [put_next]; omega
      · exact vv
      · exact vv
    rintro f t m1 hfk ⟨h12, ⟨tk1, h4, hap, hnx, hkeep, hown⟩, hnm, o0, o1⟩
    have n0 : m.next < m1.next := by omega
    have n1 : m.next + 1 < m1.next := by omega
    have hLf := tk_len (L ++ fitS h c pos k F f)
    have hap1 := Hid.mk hap
    have hkeep1 := Hid.mk hkeep
    have hown1 := Hid.mk hown
    clear hap hkeep hown
    by_cases hfn : f < h.low.length
    case neg =>
      have hfe : f = h.low.length := by omega
      subst hfe
      have c1 : ¬ ((h.low.length + 1 : Nat) : Int) ≤ (h.low.length : Int) := by omega
      clear hfk hfn
      generalize (L ++ fitS h c pos k F h.low.length).take 201 = L1 at *
      repeat' (first | with_reducible refine x_ops ?_ | refine wk ?_ | ((first | refine gd1 ?_ ?_ | refine gd2 ?_ ?_ | refine gd3 ?_ ?_) <;> (first | with_reducible exact @False.elim _ | intro hc)))
      exact finS_ret vv ⟨tk1, rfl, hap1.out, hnx, hkeep1.out, hown1.out⟩
    have c1 : ((f + 1 : Nat) : Int) ≤ (h.low.length : Int) := by omega
    have w2 := w_add1 (k := f + 1) (by omega)
    obtain ⟨Lf, hLe⟩ : ∃ Lf, Lf = (L ++ fitS h c pos k F f).take 201 := ⟨_, rfl⟩
    rw [← hLe] at h4 hap1 hLf
    have R1 := RF ((f + 1 : Nat) : Int)
    have A1 := fun q hq => RA q hq ((f + 1 : Nat) : Int)
    have hS : (L ++ fitS h c pos k F (f + 1)) = (L ++ fitS h c pos k F f) ++ fitT h c pos k (F ++ [((f + 1 : Nat) : Int)]) := by rw [fitS_succ, List.append_assoc]
    have full : ¬ Lf.length ≤ 200 → (L ++ fitS h c pos k F (f + 1)).take 201 = Lf := fun hg => by rw [hS, hLe]; rw [hLe] at hg; exact (tk_full hg).symm
    have more : Lf.length ≤ 200 → (L ++ fitS h c pos k F (f + 1)).take 201 = (Lf ++ fitT h c pos k (F ++ [((f + 1 : Nat) : Int)])).take 201 := fun hg => by rw [hS, hLe]; rw [hLe] at hg; exact (tk_more hg).symm
    have none' : fitT h c pos k (F ++ [((f + 1 : Nat) : Int)]) = [] → (L ++ fitS h c pos k F (f + 1)).take 201 = Lf := fun e => by rw [hS, e, List.append_nil, hLe]
    replace full := Hid.mk full
    replace more := Hid.mk more
    replace none' := Hid.mk none'
    replace hLe := Hid.mk hLe
    replace hfn := Hid.mk hfn
    clear RF RA hfk hS
    obtain ⟨b0, hb0⟩ : ∃ b, b = rrchB h pos ((f + 1 : Nat) : Int) (c.down.getD F.length (0, 0)).2 := ⟨_, rfl⟩
    rw [← hb0] at R1
    replace hb0 := Hid.mk hb0
    repeat' (first | with_reducible refine x_ops ?_ | refine wk ?_ | (with_reducible refine xc (R1) ?_) | ((first | refine gd1 ?_ ?_ | refine gd2 ?_ ?_ | refine gd3 ?_ ?_) <;> (first | with_reducible exact @False.elim _ | intro hc)))
    refine x_loopF w_theorboref06_extend_p4 (by kernel_rfl) F.length (fun q t => t 14 = vint (q : Int) ∧ t 13 = vbool (b0 && allB q fun i => aptB h c i F.length (F.getD i 0) ((f + 1 : Nat) : Int))) ?_ ?_
    · exact ⟨vv, by rw [show allB 0 (fun i => aptB h c i F.length (F.getD i 0) ((f + 1 : Nat) : Int)) = true from rfl, Bool.and_true]; exact vv⟩
    rintro q t2 hq ⟨h14', h13⟩
    by_cases hqF : q < F.length
    · have g1 := ints_at hqF
      have c3 : (q : Int) < (F.length : Int) := by omega
      have w3 := w_add1 (k := q) (by omega)
      have A2 := A1 q hqF
      have hsu := Hid.mk (allB_succ q fun i => aptB h c i F.length (F.getD i 0) ((f + 1 : Nat) : Int))
      cases hb : (b0 && allB q fun i => aptB h c i F.length (F.getD i 0) ((f + 1 : Nat) : Int))
      · rw [hb] at h13
        replace hb := Hid.mk hb
        clear A1 A2
        repeat' (first | with_reducible refine x_ops ?_ | refine wk ?_ | ((first | refine gd1 ?_ ?_ | refine gd2 ?_ ?_ | refine gd3 ?_ ?_) <;> (first | with_reducible exact @False.elim _ | intro hc)))
        refine nf hqF ⟨vv, ?_⟩ rfl
        rw [hsu.out, ← Bool.and_assoc, hb.out]; exact vv
      · rw [hb] at h13
        replace hb := Hid.mk hb
        generalize hap' : aptB h c q F.length (F.getD q 0) ((f + 1 : Nat) : Int) = b1 at *
        clear A1
        repeat' (first | with_reducible refine x_ops ?_ | refine wk ?_ | (with_reducible refine xc (A2) ?_) | ((first | refine gd1 ?_ ?_ | refine gd2 ?_ ?_ | refine gd3 ?_ ?_) <;> (first | with_reducible exact @False.elim _ | intro hc)))
        refine nf hqF ⟨vv, ?_⟩ rfl
        rw [hsu.out, ← Bool.and_assoc, hb.out]; exact vv
    have hqe : q = F.length := by omega
    subst hqe
    have c3 : ¬ (F.length : Int) < (F.length : Int) := by omega
    clear hqF hq A1
    obtain ⟨b, hb⟩ : ∃ b, b = (b0 && allB F.length fun i => aptB h c i F.length (F.getD i 0) ((f + 1 : Nat) : Int)) := ⟨_, rfl⟩
    rw [← hb] at h13
    have hbt : b = true ↔ (rrchB h pos ((f + 1 : Nat) : Int) (c.down.getD F.length (0, 0)).2 = true ∧ ∀ k, k < F.length → AptP h c k F.length (F.getD k 0) ((f + 1 : Nat) : Int)) := by
      rw [hb, hb0.out, Bool.and_eq_true, allB_iff]
      exact ⟨fun hh => ⟨hh.1, fun k hk => apt_true.1 (hh.2 k hk)⟩, fun hh => ⟨hh.1, fun k hk => apt_true.2 (hh.2 k hk)⟩⟩
    replace hbt := Hid.mk hbt
    clear hb
    cases b
    · have e9 := Hid.mk (none'.out (fitT_bad (k := k) hk hc hlt0.out fun hh => by have := hbt.out.2 hh; cases this))
      repeat' (first | with_reducible refine x_ops ?_ | refine wk ?_ | ((first | refine gd1 ?_ ?_ | refine gd2 ?_ ?_ | refine gd3 ?_ ?_) <;> (first | with_reducible exact @False.elim _ | intro hc)))
      exact nx hfn.out ⟨vv, ⟨tk1, by rw [e9.out]; exact vw, by rw [e9.out]; exact hap1.out, hnx, hkeep1.out, hown1.out⟩, hnm, o0, o1⟩
    by_cases hg : Lf.length ≤ 200
    case neg =>
      have c2 : ¬ (Lf.length : Int) ≤ 200 := by omega
      have e9 := Hid.mk (full.out hg)
      clear hg
      repeat' (first | with_reducible refine x_ops ?_ | refine wk ?_ | ((first | refine gd1 ?_ ?_ | refine gd2 ?_ ?_ | refine gd3 ?_ ?_) <;> (first | with_reducible exact @False.elim _ | intro hc)))
      exact nx hfn.out ⟨vv, ⟨tk1, by rw [e9.out]; exact vw, by rw [e9.out]; exact hap1.out, hnx, hkeep1.out, hown1.out⟩, hnm, o0, o1⟩
    have c2 : (Lf.length : Int) ≤ 200 := by omega
    have e9 := Hid.mk (more.out hg)
    have hP := Hid.mk (hF.snoc (hbt.out.1 rfl).1 (hbt.out.1 rfl).2)
    replace hg := Hid.mk hg
    have hk0 : Hid (tk1 ≠ .own m.next ∧ tk1 ≠ .own (m.next + 1)) := ⟨by
      rcases hap1.out with h1 | ⟨t, h1, _, h3⟩
      · rw [h1]; exact ⟨(fun e => by cases e), (fun e => by cases e)⟩
      · rw [h1]; exact ⟨(fun e => by injection e with e; subst e; rw [o0] at h3; cases h3), (fun e => by injection e with e; subst e; rw [o1] at h3; cases h3)⟩⟩
    repeat' (first | with_reducible refine x_ops ?_ | refine wk ?_ | ((first | refine gd1 ?_ ?_ | refine gd2 ?_ ?_ | refine gd3 ?_ ?_) <;> (first | with_reducible exact @False.elim _ | intro hc)))
    refine x_appE (xs := []) (n := 0) (j := F.length) (ys := F.map vint) vw vw rfl (by simp) (by have := hFl.out; omega) (by have := hFl.out; unfold Go.maxLen; omega) ?_
    repeat' (first | with_reducible refine x_ops ?_ | refine wk ?_ | ((first | refine gd1 ?_ ?_ | refine gd2 ?_ ?_ | refine gd3 ?_ ?_) <;> (first | with_reducible exact @False.elim _ | intro hc)))
    refine x_appO (t := m1.next + 4) (n := F.length) (j := 1) (xs := F.map vint) (ys := [vint ((f + 1 : Nat) : Int)]) vw vw (by simp [ownOk]) vw (by simp) rfl (by have := hFl.out; omega) (by have := hFl.out; unfold Go.maxLen; omega) ?_
    repeat' (first | with_reducible refine x_ops ?_ | refine wk ?_ | ((first | refine gd1 ?_ ?_ | refine gd2 ?_ ?_ | refine gd3 ?_ ?_) <;> (first | with_reducible exact @False.elim _ | intro hc)))
    refine x_scallR (Post := ExPost m1 tk1 ((Lf ++ fitT h c pos k (F ++ [((f + 1 : Nat) : Int)])).take 201)) [h.val, c.val, vint pos, .sl (F.length + 1) (F.map vint ++ [vint ((f + 1 : Nat) : Int)]) (.own (m1.next + 4)), .sl Lf.length (Lf.flatMap Grip.cells) tk1] ?_ ?_ (ExPost.some _ _ _) ?_
    · simp only [Hand.val, Chord.val, Chord.cells]; exact vw
    · have IH2 := fun mm => IH (F ++ [((f + 1 : Nat) : Int)]) Lf mm (.own (m1.next + 4)) tk1 (by simp; have := hl0.out; omega) hP.out hLf (fun _ => hg.out)
      rw [List.length_append, List.map_append] at IH2
      refine SFn.mono (IH2 _ (hap1.out.mono (fun q hq _ => by (simp only [put_obj]; repeat rw [if_neg (by omega)])) (by simp only [put_next]; omega))) fun r m' hPo => hPo.back (by simp only [put_next]; omega) (fun q hq => by (simp only [put_obj]; repeat rw [if_neg (by omega)]))
    rintro r m4 ⟨tk2, rfl, hap4, hn4', hkeep4, hown4⟩
    have p0 := (hkeep4 _ n0 hk0.out.1).trans o0
    have p1 := (hkeep4 _ n1 hk0.out.2).trans o1
    have hkeep5 : ∀ q, q < m.next → tok ≠ .own q → m4.obj q = m.obj q := fun q hq hne => (hkeep4 q (by omega) fun e => hne (hown1.out q hq e)).trans (hkeep1.out q hq hne)
    have hown5 : ∀ q, q < m.next → tk2 = .own q → tok = .own q := fun q hq e => hown1.out q hq (hown4 q (by omega) e)
    replace hkeep5 := Hid.mk hkeep5
    replace hown5 := Hid.mk hown5
    replace hap4 := Hid.mk hap4
    have hn5 : m.next ≤ m4.next := by omega
    have hn6 : m.next + 3 ≤ m4.next := by omega
    clear hkeep4 hown4 o0 o1 hk0
    repeat' (first | with_reducible refine x_ops ?_ | refine wk ?_ | ((first | refine gd1 ?_ ?_ | refine gd2 ?_ ?_ | refine gd3 ?_ ?_) <;> (first | with_reducible exact @False.elim _ | intro hc)))
    exact nx hfn.out ⟨vv, ⟨tk2, by rw [e9.out]; exact vv, by rw [e9.out]; exact hap4.out, hn5, hkeep5.out, hown5.out⟩, hn6, p0, p1⟩
end Go.Proofs.Ytojjdkoglhecbaa
