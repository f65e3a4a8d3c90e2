/- The grips that the program lists: what the closure goes on, on values. -/
import Derived.Test.YtojjdkoglhecbaaN1
import Derived.Test.YtojjdkoglhecbaaL1
import Derived.Test.YtojjdkoglhecbaaP6
namespace Go.Proofs.Ytojjdkoglhecbaa
open Go.RowKit
set_option linter.unusedSimpArgs false
set_option linter.unusedVariables false

/-- The numbers that are tried, with what stands behind them. -/
def FgR (m : Mm) (v : V) (F : List Int) (r : List V) : Prop :=
  (v = .sl 0 [] .exact ∧ F = [] ∧ r = []) ∨ ∃ q, v = .gsl q F.length 1 ∧ 5 ≤ q ∧ q < m.next ∧ m.obj q = some (.box (F.map vint ++ r) 3)
/-- Memory while grips are listed. -/
structure PlSt (h : Hand) (c : Chord) (m : Mm) (L : List Grip) (v : V) : Prop where
  o0 : m.obj 0 = some (.box [tIs h.low, tIs h.high, tBs h.barre, vint h.top, vint h.jump, vint h.shift, vint h.lift, vint h.bar, vint h.stretch, vint h.slide] 25)
  o1 : m.obj 1 = some (.box [tPs c.down, tIs c.held, tIs c.opn] 47)
  o2 : ∃ tok, m.obj 2 = some (.box [.sl L.length (L.flatMap Grip.cells) tok] 38) ∧ Apb m tok L.length 53 2
  o3 : m.obj 3 = some (.box [v] 22)
  o4 : m.obj 4 = some (.box [.fn 104 [.ptr 3 0, .ptr 1 0, .ptr 0 0, .ptr 2 0, .ptr 4 0]] 144)
  nx : 5 ≤ m.next
theorem fg_len {m : Mm} {v : V} {F : List Int} {r : List V} (h : FgR m v F r) : pureSem .len [v] = some (vint F.length) := by
  rcases h with ⟨rfl, rfl, _⟩ | ⟨q, rfl, _⟩ <;> rfl
/-- Some memory is like that. -/
theorem PlSt.other {h : Hand} {c : Chord} {m : Mm} {L : List Grip} {v : V} (hs : PlSt h c m L v) (L' : List Grip) {F : List Int} {r : List V} (hf : FgR m v F r) :
    ∃ m', PlSt h c m' L' v ∧ FgR m' v F r ∧ m.next ≤ m'.next := by
  refine ⟨m.put 2 (.box [.sl L'.length (L'.flatMap Grip.cells) .exact] 38), ⟨hs.o0, hs.o1, ⟨.exact, rfl, .inl rfl⟩, hs.o3, hs.o4, hs.nx⟩, ?_, Nat.le_refl _⟩
  rcases hf with h1 | ⟨q, h1, h2, h3, h4⟩
  · exact .inl h1
  · exact .inr ⟨q, h1, h2, h3, by rw [put_obj, if_neg (by omega)]; exact h4⟩
/-- A copy of numbers. -/
theorem clone_fn (l : List Int) (hl : l.length ≤ 1099511627776) : Fn Try.prog Gd 106 [tIs l] (tIs l) := by
  refine Fn.of_vx0 k_slices_Clone_int_int (by simp) (by rw [V.pures, pure_tIs]; rfl) ?_
  unfold c_slices_Clone_int_int tIs
  repeat' (first | with_reducible refine x_ops ?_ | refine wk ?_ | ((first | refine gd1 ?_ ?_ | refine gd2 ?_ ?_ | refine gd3 ?_ ?_) <;> (first | with_reducible exact @False.elim _ | intro hc)))
  refine x_eqN (by exact vw) ?_
  intro b hb
  cases b
  · repeat' (first | with_reducible refine x_ops ?_ | refine wk ?_ | ((first | refine gd1 ?_ ?_ | refine gd2 ?_ ?_ | refine gd3 ?_ ?_) <;> (first | with_reducible exact @False.elim _ | intro hc)))
    refine x_appE (xs := []) (n := 0) vw vw rfl (by simp) (by omega) (by unfold Go.maxLen; omega) ?_
    repeat' (first | with_reducible refine x_ops ?_ | refine wk ?_ | ((first | refine gd1 ?_ ?_ | refine gd2 ?_ ?_ | refine gd3 ?_ ?_) <;> (first | with_reducible exact @False.elim _ | intro hc)))
    exact finV_ret vv (.sl _ _ _)
  · have hl0 : l = [] := by cases l with
      | nil => rfl
      | cons a l => exact absurd (hb (by simp)) (by simp)
    subst hl0
    repeat' (first | with_reducible refine x_ops ?_ | refine wk ?_ | ((first | refine gd1 ?_ ?_ | refine gd2 ?_ ?_ | refine gd3 ?_ ?_) <;> (first | with_reducible exact @False.elim _ | intro hc)))
    exact finV_ret vv (.sl _ _ _)
theorem vint_one (l : List Int) : (l.map vint).all V.one = true := by rw [List.all_eq_true]; intro v hv; obtain ⟨n, _, rfl⟩ := List.mem_map.1 hv; rfl
theorem vint_dry (l : List Int) : V.drys (l.map vint) = true := by
  induction l with
  | nil => rfl
  | cons a l ih => rw [List.map_cons, V.drys, ih]; rfl
theorem vint_clean (l : List Int) : V.clean (l.map vint) = true := by
  rw [clean_iff]
  refine ⟨?_, fun v hv => by obtain ⟨n, _, rfl⟩ := List.mem_map.1 hv; rfl⟩
  rw [pures_iff]
  intro v hv
  obtain ⟨n, _, rfl⟩ := List.mem_map.1 hv
  rfl
theorem clone_m {l : List Int} (hl : l.length ≤ 1099511627776) (h0 : l ≠ []) {m : Mm} {q : Nat} (ho : m.obj q = some (.box (l.map vint) 3)) :
    SFn Try.prog Gd 106 [.gsl q l.length 1] m fun r m' => r = tIs l ∧ m' = m := by
  have hlen : 0 < l.length := List.length_pos_iff.2 h0
  have h1 : SFn Try.prog Gd 106 [tIs l] M0 fun r' m' => ∃ i, r' = .gsl i l.length 1 ∧ m'.obj i = some (.box (l.map vint) 3) := by
    refine SFn.of_vxS k_slices_Clone_int_int_b (by simp) ?_
    unfold c_slices_Clone_int_int_b tIs
    repeat' (first | with_reducible refine x_ops ?_ | refine wk ?_ | ((first | refine gd1 ?_ ?_ | refine gd2 ?_ ?_ | refine gd3 ?_ ?_) <;> (first | with_reducible exact @False.elim _ | intro hc)))
    refine x_eqN (by exact vw) ?_
    intro b hb
    have : b = false := hb (fun e => h0 (by simpa using e))
    subst this
    repeat' (first | with_reducible refine x_ops ?_ | refine wk ?_ | ((first | refine gd1 ?_ ?_ | refine gd2 ?_ ?_ | refine gd3 ?_ ?_) <;> (first | with_reducible exact @False.elim _ | intro hc)))
    refine x_appM0 (xs := []) (n := 0) (j := l.length) (ys := l.map vint) vw (by ((refine ve ?_; try exact True.intro)); rw [rdS, if_pos (by simp)]) (by simp) (by omega) (by unfold Go.maxLen; omega) ?_
    rw [if_neg (by omega)]
    repeat' (first | with_reducible refine x_ops ?_ | refine wk ?_ | ((first | refine gd1 ?_ ?_ | refine gd2 ?_ ?_ | refine gd3 ?_ ?_) <;> (first | with_reducible exact @False.elim _ | intro hc)))
    exact finS_ret vv ⟨_, rfl, vv⟩
  refine SFn.mono (SFn.dropM (Q := fun r => r = tIs l) (SFn.mono (Fn.lendB h1 (by omega) (vint_dry l) (vint_one l) (fun i => i == q) (.cons (.gsl (by simp) ho (Vws.of_dry (vint_dry l)) (vint_one l)) .nil)) ?_)) fun r m' h => h
  rintro r m' ⟨h2, ⟨h3, _⟩ | ⟨_, _, i, hi, rfl, hoi⟩⟩
  · omega
  · refine ⟨tIs l, ?_, rfl, h2⟩
    rw [V.pubM, hoi]
    simp only [hi, vint_clean, and_self, if_true, List.drop_zero]
    rfl
theorem clone_m0 {m : Mm} {q : Nat} (ho : m.obj q = some (.box [] 3)) :
    SFn Try.prog Gd 106 [.gsl q 0 1] m fun r m' => r = tIs [] ∧ m' = m := by
  have h1 : SFn Try.prog Gd 106 [tIs []] M0 fun r' m' => r' = .sl 0 [] .exact := by
    refine SFn.of_vxS k_slices_Clone_int_int_b (by simp) ?_
    unfold c_slices_Clone_int_int_b tIs
    repeat' (first | with_reducible refine x_ops ?_ | refine wk ?_ | ((first | refine gd1 ?_ ?_ | refine gd2 ?_ ?_ | refine gd3 ?_ ?_) <;> (first | with_reducible exact @False.elim _ | intro hc)))
    refine x_eqN (by exact vw) ?_
    intro b hb
    cases b
    · repeat' (first | with_reducible refine x_ops ?_ | refine wk ?_ | ((first | refine gd1 ?_ ?_ | refine gd2 ?_ ?_ | refine gd3 ?_ ?_) <;> (first | with_reducible exact @False.elim _ | intro hc)))
      refine x_appM0 (xs := []) (n := 0) (j := 0) (ys := []) vw (by ((refine ve ?_; try exact True.intro)); rfl) (by simp) (by omega) (by unfold Go.maxLen; omega) ?_
      rw [if_pos rfl]
      repeat' (first | with_reducible refine x_ops ?_ | refine wk ?_ | ((first | refine gd1 ?_ ?_ | refine gd2 ?_ ?_ | refine gd3 ?_ ?_) <;> (first | with_reducible exact @False.elim _ | intro hc)))
      exact finS_ret vv rfl
    · repeat' (first | with_reducible refine x_ops ?_ | refine wk ?_ | ((first | refine gd1 ?_ ?_ | refine gd2 ?_ ?_ | refine gd3 ?_ ?_) <;> (first | with_reducible exact @False.elim _ | intro hc)))
      exact finS_ret vv rfl
  refine SFn.mono (SFn.dropM (Q := fun r => r = tIs []) (SFn.mono (Fn.lendB0 (e := 3) h1 (fun i => i == q) (.cons (.gsl (by simp) ho .nil rfl) .nil)) ?_)) ?_
  · rintro r m' ⟨h2, ⟨_, rfl⟩ | ⟨h3, _⟩⟩
    · exact ⟨_, rfl, rfl, h2⟩
    · exact absurd rfl h3
  · exact fun r m' h => h
section
variable {P : Program} {G : Ground}
/-- A call that only computes, in any order, whatever memory it may see. -/
theorem x_callM {base i : Nat} {d : Option Nat} {f : FuncId} {xs : List Opd} {l : List VI} {s : St} {K : St → Prop} {r : V} {md : Option (List Nat)} (vs : List V) (hv : xs.map s.ev = vs) (hf : ∀ m', (∀ j, j < base → m'.obj j = s.m.obj j) → SFn P G f vs m' fun r' m'' => r' = r ∧ m'' = m')
    (h : goR P G base (some ⟨putT s.t d r, s.m⟩) l (i + 1) K) : vrun P G base i (⟨d, none, .call f, xs, md⟩ :: l) s K := by
  subst hv
  rw [vrun]
  unfold vstep VI.on
  simp only [if_true, sem, callSem]
  have hk := goR_vrun l (i + 1) _ h
  cases md with
  | none => exact ⟨_, _, .inl rfl, hf s.m (fun _ _ => rfl), ⟨r, s.m, rfl, rfl⟩, by rintro r' m' ⟨rfl, rfl⟩; exact hk⟩
  | some anc => exact ⟨_, r, .inl rfl, fun m' ha _ => hf m' (fun j hj => ha j (.inl hj)), hk⟩
/-- One number more is tried. -/
theorem x_appF {base i : Nat} {d : Option Nat} {x y : Opd} {l : List VI} {s : St} {K : St → Prop} {v : V} {F : List Int} {r : List V} {a : Int} {k2 : Tok} (hx : s.ev x = v) (hF : FgR s.m v F r) (hy : s.ev y = .sl 1 [vint a] k2) (hl : F.length ≤ 1000) (h5 : 5 ≤ base + i) (hb : base + i < s.m.next)
    (h : ∀ m', FgR m' (.gsl (base + i) (F.length + 1) 1) (F ++ [a]) [] → m'.next = s.m.next → (∀ j, j < 5 → m'.obj j = s.m.obj j) → (∀ j n e z, j ≠ base + i → s.m.obj j = some (.row n e z) → m'.obj j = some (.row n e z)) →
      goR P G base (some ⟨putT s.t d (.gsl (base + i) (F.length + 1) 1), m'⟩) l (i + 1) K) :
    vrun P G base i (⟨d, none, .appM 3 1 8, [x, y], none⟩ :: l) s K := by
  have e1 : (F.map vint ++ [vint a]) = (F ++ [a]).map vint := by simp
  rcases hF with ⟨rfl, rfl, rfl⟩ | ⟨q, rfl, hq5, hqn, ho⟩
  · refine x_appM0 hx (by rw [hy]; rfl) rfl (by omega) (by unfold Go.maxLen; omega) ?_
    rw [if_neg (by omega)]
    refine h _ (.inr ⟨base + i, by simp, h5, hb, by rw [put_obj, if_pos rfl]; rfl⟩) rfl (fun j hj => by rw [put_obj, if_neg (by omega)]) (fun j n e z hj hr => by rw [put_obj, if_neg hj]; exact hr)
  · have hm : 1 = 1 := rfl
    refine x_appM (q := q) (n := F.length) (j := 1) (ys := [vint a]) hx (by rw [hy]; rfl) ho (by simp) ?_ (by omega) (by unfold Go.maxLen; omega) ?_
    · rw [Nat.mul_one, List.take_append_of_le_length (by simp), List.take_of_length_le (by simp)]; exact vint_one F
    · rw [Nat.mul_one, List.take_append_of_le_length (by simp), List.take_of_length_le (by simp), e1]
      refine h _ (.inr ⟨base + i, by simp, h5, hb, by rw [put_obj, if_pos rfl, List.append_nil]⟩) rfl (fun j hj => ?_) (fun j n e z hj hr => ?_)
      · rw [put_obj, if_neg (by omega)]
        show (if j = q then none else s.m.obj j) = _
        rw [if_neg (by omega)]
      · rw [put_obj, if_neg hj]
        show (if j = q then none else s.m.obj j) = _
        rw [if_neg (fun e => by subst e; rw [ho] at hr; cases hr)]
        exact hr
end
end Go.Proofs.Ytojjdkoglhecbaa
