/- Values by numbers: regions in any order, code, functions. Nothing is proved of the program here. -/
import Derived.Test.YtdefefeifcdogaaGreatVu
import Derived.Scope
import Derived.OrdersIn
/-! Operations whose order is open: what two of them give does not depend on which comes first. Nothing is proved of the program here. -/
set_option linter.unusedSimpArgs false
set_option linter.unusedVariables false
namespace Go.Proofs.YtdefefeifcdogaaGreat
open Go.RowKit

section
variable {P : Program} {G : Ground} {id base : Nat} {md : Option (List Nat)} {anc : List Nat} {op : VO} {vals : List V} {m m' : Mm} {K K' : V → Mm → Prop}

theorem callSem_mono {f : FuncId} (h : callSem P G base md f vals m K) (hk : ∀ r m', K r m' → K' r m') : callSem P G base md f vals m K' := by
  unfold callSem at h ⊢
  split at h
  · obtain ⟨vs', Post, a, b, c, d⟩ := h; exact ⟨vs', Post, a, b, c, fun r m' x => hk _ _ (d r m' x)⟩
  · obtain ⟨vs', r, a, b, c⟩ := h; exact ⟨vs', r, a, b, hk _ _ c⟩
theorem sem_mono (h : sem P G id base md op vals m K) (hk : ∀ r m', K r m' → K' r m') : sem P G id base md op vals m K' := by
  cases op <;> simp only [sem] at h ⊢
  case alloc => exact hk _ _ h
  case box => split at h <;> first | exact hk _ _ h | exact h
  case mk => split at h <;> first | exact ⟨h.1, h.2.1, h.2.2.1, h.2.2.2.1, h.2.2.2.2.1, hk _ _ h.2.2.2.2.2⟩ | exact h
  case ld1 =>
    split at h
    · split at h <;> first | exact hk _ _ h | exact h
    · refine ⟨h.1, ?_⟩
      have h := h.2
      split at h
      · split at h <;> first | exact hk _ _ h | exact h
      · exact h
    · exact h
  case ldA =>
    split at h
    · exact ⟨h.1, hk _ _ h.2⟩
    · refine ⟨h.1, ?_⟩
      have h := h.2
      split at h
      · exact ⟨h.1, hk _ _ h.2⟩
      · exact h
    · exact h
  case st =>
    split at h
    · refine ⟨h.1, ?_⟩
      have h := h.2
      split at h
      · exact ⟨h.1, h.2.1, h.2.2.1, hk _ _ h.2.2.2⟩
      · exact h
    · exact h
  case app =>
    split at h
    · refine ⟨h.1, h.2.1, h.2.2.1, h.2.2.2.1, ?_⟩
      have h := h.2.2.2.2
      split at h
      · exact hk _ _ h
      · refine ⟨h.1, ?_⟩
        have h := h.2
        split at h
        · exact ⟨h.1, h.2.1, h.2.2.1, hk _ _ h.2.2.2⟩
        · exact h
      · exact h
    · exact h
  case appB =>
    split at h
    · split at h
      · refine ⟨h.1, h.2.1, h.2.2.1, h.2.2.2.1, ?_⟩
        have h := h.2.2.2.2
        split at h
        · rename_i h0; rw [if_pos h0]; exact hk _ _ h
        · rename_i h0; rw [if_neg h0]; exact hk _ _ h
      · exact h
    · exact h
  case appM =>
    split at h
    · split at h
      · split at h
        · refine ⟨h.1, h.2.1, h.2.2.1, h.2.2.2.1, ?_⟩
          have h := h.2.2.2.2
          split at h
          · rename_i h0; rw [if_pos h0]; exact hk _ _ h
          · rename_i h0; rw [if_neg h0]; exact hk _ _ h
        · refine ⟨h.1, h.2.1, h.2.2.1, ?_⟩
          have h := h.2.2.2
          split at h
          · exact ⟨h.1, h.2.1, h.2.2.1, hk _ _ h.2.2.2⟩
          · exact h
        · exact h
      · exact h
    · exact h
  case appL =>
    split at h
    · refine ⟨h.1, ?_⟩
      have h := h.2
      split at h
      · split at h
        · refine ⟨h.1, h.2.1, h.2.2.1, h.2.2.2.1, ?_⟩
          have h := h.2.2.2.2
          split at h
          · rename_i h0; rw [if_pos h0]; exact hk _ _ h
          · rename_i h0; rw [if_neg h0]; exact hk _ _ h
        · refine ⟨h.1, h.2.1, h.2.2.1, ?_⟩
          have h := h.2.2.2
          split at h
          · exact ⟨h.1, h.2.1, h.2.2.1, hk _ _ h.2.2.2⟩
          · exact h
        · exact h
      · exact h
    · exact h
  case mkslB =>
    split at h
    · rename_i h0
      rw [if_pos h0]
      split at h
      · exact hk _ _ h
      · exact h
    · exact h.elim
  case eqN =>
    split at h
    · exact fun b hb => hk _ _ (h b hb)
    · exact hk _ _ h
    · exact hk _ _ h
    · exact h
  case call => exact callSem_mono h hk
  case callL =>
    split at h
    · obtain ⟨vs', Post, a, b, c, d⟩ := h; exact ⟨vs', Post, a, b, c, fun r m' x y => hk _ _ (d r m' x y)⟩
    · exact h
  case callB =>
    obtain ⟨vs', n, xs, e, a, b, h⟩ := h
    refine ⟨vs', n, xs, e, a, b, ?_⟩
    split at h
    · rename_i h0; rw [if_pos h0]; exact hk _ _ h
    · rename_i h0; rw [if_neg h0]; exact hk _ _ h
  case callv =>
    split at h
    · exact ⟨h.1, callSem_mono h.2 hk⟩
    · unfold yldSem at h ⊢
      split at h
      · obtain ⟨vs', Post, a, b, c, d⟩ := h; exact ⟨vs', Post, a, b, c, fun r m' x => hk _ _ (d r m' x)⟩
      · exact h
    · exact h
  case mkmap => split at h <;> first | exact hk _ _ h | exact h
  case mlk =>
    split at h
    · split at h
      · exact ⟨h.1, hk _ _ h.2⟩
      · exact h
    · exact h
  case mput =>
    split at h
    · split at h
      · exact ⟨h.1, hk _ _ h.2⟩
      · exact h
    · exact h
  case cpy =>
    split at h
    · split at h
      · exact ⟨h.1, hk _ _ h.2⟩
      · exact h
    · exact h
  case clr =>
    split at h
    · split at h
      · exact ⟨h.1, hk _ _ h.2⟩
      · exact h
    · exact h
  case ld1W =>
    split at h
    · refine ⟨h.1, h.2.1, ?_⟩
      have h := h.2.2
      split at h
      · split at h <;> first | exact hk _ _ h | exact h
      · exact h
    · exact h
  case stL =>
    split at h
    · refine ⟨h.1, ?_⟩
      have h := h.2
      split at h
      · exact ⟨h.1, hk _ _ h.2⟩
      · exact h
    · exact h
  all_goals (split at h <;> first | exact hk _ _ h | exact h)

theorem callSem_some {f : FuncId} (h : callSem P G base md f vals m fun _ _ => False) : False := by
  unfold callSem at h
  split at h
  · obtain ⟨vs', Post, a, b, ⟨r, m', c⟩, d⟩ := h; exact d r m' c
  · obtain ⟨vs', r, a, b, c⟩ := h; exact c
/-- No operation gives nothing. -/
theorem sem_some (h : sem P G id base md op vals m fun _ _ => False) : False := by
  cases op <;> simp only [sem] at h
  case box => split at h <;> exact h
  case mk => split at h; exact h.2.2.2.2.2; exact h
  case ld1 =>
    split at h
    · split at h <;> exact h
    · have h := h.2
      split at h
      · split at h <;> exact h
      · exact h
    · exact h
  case ldA =>
    split at h
    · exact h.2
    · have h := h.2
      split at h
      · exact h.2
      · exact h
    · exact h
  case st =>
    split at h
    · have h := h.2
      split at h
      · exact h.2.2.2
      · exact h
    · exact h
  case app =>
    split at h
    · have h := h.2.2.2.2
      split at h
      · exact h
      · have h := h.2
        split at h
        · exact h.2.2.2
        · exact h
      · exact h
    · exact h
  case appB =>
    split at h
    · split at h
      · have h := h.2.2.2.2
        split at h <;> exact h
      · exact h
    · exact h
  case appM =>
    split at h
    · split at h
      · split at h
        · have h := h.2.2.2.2
          split at h <;> exact h
        · have h := h.2.2.2
          split at h
          · exact h.2.2.2
          · exact h
        · exact h
      · exact h
    · exact h
  case appL =>
    split at h
    · have h := h.2
      split at h
      · split at h
        · have h := h.2.2.2.2
          split at h <;> exact h
        · have h := h.2.2.2
          split at h
          · exact h.2.2.2
          · exact h
        · exact h
      · exact h
    · exact h
  case mkslB =>
    split at h
    · split at h <;> exact h
    · exact h
  case eqN neg =>
    split at h
    · exact h neg fun _ => rfl
    · exact h
    · exact h
    · exact h
  case call => exact callSem_some h
  case callL =>
    split at h
    · obtain ⟨vs', Post, a, b, ⟨r, m', c1, c2⟩, d⟩ := h; exact d r m' c1 c2
    · exact h
  case callB =>
    obtain ⟨vs', n, xs, e, a, b, h⟩ := h
    split at h <;> exact h
  case callv =>
    split at h
    · exact callSem_some h.2
    · unfold yldSem at h
      split at h
      · obtain ⟨vs', Post, a, b, ⟨r, m', c⟩, d⟩ := h; exact d r m' c
      · exact h
    · exact h
  case mkmap => split at h <;> exact h
  case mlk =>
    split at h
    · split at h
      · exact h.2
      · exact h
    · exact h
  case mput =>
    split at h
    · split at h
      · exact h.2
      · exact h
    · exact h
  case cpy =>
    split at h
    · split at h
      · exact h.2
      · exact h
    · exact h
  case clr =>
    split at h
    · split at h
      · exact h.2
      · exact h
    · exact h
  case ld1W =>
    split at h
    · have h := h.2.2
      split at h
      · split at h <;> exact h
      · exact h
    · exact h
  case stL =>
    split at h
    · have h := h.2
      split at h
      · exact h.2
      · exact h
    · exact h
  all_goals (split at h <;> exact h)

theorem sem_pure (hm : op.isMem = false) : sem P G id base md op vals m K ↔ ∃ r, pureSem op vals = some r ∧ K r m := by
  cases op <;> first
    | (cases hm; done)
    | (simp only [sem]
       constructor
       · intro h
         split at h
         · rename_i r hr; exact ⟨r, hr, h⟩
         · exact h.elim
       · rintro ⟨r, hr, h⟩
         rw [hr]
         exact h)

/-- A box or a row is put. -/
def Mm.putO (m : Mm) : Option (Nat × AObj) → Mm
  | some (k, o) => m.put k o
  | none => m
/-- What an operation gives in any order. -/
def rsem (P : Program) (G : Ground) (id base : Nat) (anc : List Nat) (op : VO) (vals : List V) (m : Mm) (r : V) (ob : Option (Nat × AObj)) : Prop :=
  match op with
  | .alloc t z => r = .ptr id 0 ∧ ob = some (id, .box z t)
  | .box t => ∃ x, vals = [x] ∧ r = .ptr id 0 ∧ ob = some (id, .box x.cells t)
  | .mk e size bytes z => ∃ k l k' c, vals = [.lit (.int k l), .lit (.int k' c)] ∧ (0 ≤ l ∧ l ≤ c ∧ c * bytes ≤ 140737488355328 ∧ c ≤ 140737488355328 ∧ z.length = size) ∧ r = .bsl id 0 l.toNat c.toNat ∧ ob = some (id, .box (List.flatten (List.replicate c.toNat z)) e)
  | .ld1 => ob = none ∧ ((∃ xs o, vals = [.ept xs o] ∧ xs[o]? = some r) ∨ (∃ i o cs t, vals = [.ptr i o] ∧ rdable (some anc) base i = true ∧ m.obj i = some (.box cs t) ∧ cs[o]? = some r))
  | .ld1W => ob = none ∧ ∃ i o o' cs t, vals = [.ptr i o, .ptr i o'] ∧ rdable (some anc) base i = true ∧ m.obj i = some (.box cs t) ∧ cs[o]? = some r
  | .ldA n => ob = none ∧ ((∃ xs o, vals = [.ept xs o] ∧ o + n ≤ xs.length ∧ r = .agg ((xs.drop o).take n)) ∨ (∃ i o cs t, vals = [.ptr i o] ∧ rdable (some anc) base i = true ∧ m.obj i = some (.box cs t) ∧ o + n ≤ cs.length ∧ r = .agg ((cs.drop o).take n)))
  | .st n => ∃ i o v cs t, vals = [.ptr i o, v] ∧ stOk (some anc) base i = true ∧ m.obj i = some (.box cs t) ∧ (v.cells.length = n ∧ v.cells.all V.one = true ∧ o + n ≤ cs.length) ∧ r = vund ∧ ob = some (i, .box (splice cs o v.cells) t)
  | .app e size bytes => ∃ n xs j ys k k2, vals = [.sl n xs k, .sl j ys k2] ∧ (xs.length = n * size ∧ ys.length = j * size ∧ (n + j) * bytes ≤ 140737488355328 ∧ n + j ≤ maxLen) ∧
      ((k = .exact ∧ r = .sl (n + j) (xs ++ ys) (.own id) ∧ ob = some (id, .row (n + j) e size)) ∨
        ∃ t, k = .own t ∧ ownOk (some anc) base t = true ∧ m.obj t = some (.row n e size) ∧ r = .sl (n + j) (xs ++ ys) (.own t) ∧ ob = some (t, .row (n + j) e size))
  | .appB e size bytes => ∃ n xs j ys y, vals = [.sl n xs .exact, y] ∧ rdL size y = some (j, ys) ∧ (xs.length = n * size ∧ (n + j) * bytes ≤ 140737488355328 ∧ n + j ≤ maxLen) ∧
      ((j = 0 ∧ r = .sl n xs .exact ∧ ob = none) ∨ (j ≠ 0 ∧ r = .bsl id 0 (n + j) (n + j) ∧ ob = some (id, .box (xs ++ ys) e)))
  | .mkslB e n size z pl => (pl.length = vals.length ∧ z.length = n * size) ∧ ∃ cs, vfill z (pl.zip vals) = some cs ∧ r = .gsl id n size ∧ ob = some (id, .box cs e)
  | .call f => ob = none ∧ ∃ vs', (vs' = vals ∨ vs' = V.norms vals) ∧ ∀ m', Agree base anc m m' → m'.next = m.next → SFn P G f vs' m' fun r' m'' => r' = r ∧ m'' = m'
  | .callB f => ∃ vs' n xs e, (vs' = vals ∨ vs' = V.norms vals) ∧ (∀ m', Agree base anc m m' → m'.next = m.next → SFn P G f vs' m' (BPost n xs e m')) ∧ ((n = 0 ∧ r = .sl 0 [] .exact ∧ ob = none) ∨ (n ≠ 0 ∧ r = .bsl id 0 n n ∧ ob = some (id, .box xs e)))
  | .callv => ob = none ∧ ∃ f cs vs vs', vals = .fn f cs :: vs ∧ callable P f = true ∧ (vs' = vs ++ cs ∨ vs' = V.norms (vs ++ cs)) ∧ ∀ m', Agree base anc m m' → m'.next = m.next → SFn P G f vs' m' fun r' m'' => r' = r ∧ m'' = m'
  | _ => False

theorem sem_r (hmem : op.isMem = true) (h : sem P G id base (some anc) op vals m K) : ∃ r ob, rsem P G id base anc op vals m r ob ∧ K r (m.putO ob) := by
  cases op <;> first
    | (cases hmem; done)
    | skip
  all_goals simp only [sem] at h
  case alloc => exact ⟨_, _, ⟨rfl, rfl⟩, h⟩
  case box =>
    split at h
    · exact ⟨_, _, ⟨_, rfl, rfl, rfl⟩, h⟩
    · exact h.elim
  case mk =>
    split at h
    · exact ⟨_, _, ⟨_, _, _, _, rfl, ⟨h.1, h.2.1, h.2.2.1, h.2.2.2.1, h.2.2.2.2.1⟩, rfl, rfl⟩, h.2.2.2.2.2⟩
    · exact h.elim
  case ld1 =>
    split at h
    · split at h
      · rename_i hv; exact ⟨_, none, ⟨rfl, .inl ⟨_, _, rfl, hv⟩⟩, h⟩
      · exact h.elim
    · obtain ⟨hrd, h⟩ := h
      split at h
      · rename_i ho
        split at h
        · rename_i hv; exact ⟨_, none, ⟨rfl, .inr ⟨_, _, _, _, rfl, hrd, ho, hv⟩⟩, h⟩
        · exact h.elim
      · exact h.elim
    · exact h.elim
  case ld1W =>
    split at h
    · obtain ⟨rfl, hrd, h⟩ := h
      split at h
      · rename_i ho
        split at h
        · rename_i hv; exact ⟨_, none, ⟨rfl, _, _, _, _, _, rfl, hrd, ho, hv⟩, h⟩
        · exact h.elim
      · exact h.elim
    · exact h.elim
  case ldA =>
    split at h
    · exact ⟨_, none, ⟨rfl, .inl ⟨_, _, rfl, h.1, rfl⟩⟩, h.2⟩
    · obtain ⟨hrd, h⟩ := h
      split at h
      · rename_i ho
        exact ⟨_, none, ⟨rfl, .inr ⟨_, _, _, _, rfl, hrd, ho, h.1, rfl⟩⟩, h.2⟩
      · exact h.elim
    · exact h.elim
  case st =>
    split at h
    · obtain ⟨hok, h⟩ := h
      split at h
      · rename_i ho; exact ⟨_, some (_, _), ⟨_, _, _, _, _, rfl, hok, ho, ⟨h.1, h.2.1, h.2.2.1⟩, rfl, rfl⟩, h.2.2.2⟩
      · exact h.elim
    · exact h.elim
  case app =>
    split at h
    · obtain ⟨h1, h2, h3, h4, h⟩ := h
      split at h
      · exact ⟨_, some (_, _), ⟨_, _, _, _, _, _, rfl, ⟨h1, h2, h3, h4⟩, .inl ⟨rfl, rfl, rfl⟩⟩, h⟩
      · obtain ⟨hok, h⟩ := h
        split at h
        · rename_i ho
          obtain ⟨rfl, rfl, rfl, hK⟩ := h
          exact ⟨_, some (_, _), ⟨_, _, _, _, _, _, rfl, ⟨h1, h2, h3, h4⟩, .inr ⟨_, rfl, hok, ho, rfl, rfl⟩⟩, hK⟩
        · exact h.elim
      · exact h.elim
    · exact h.elim
  case appB =>
    split at h
    · rw [if_neg (by intro h; cases h)] at h
      split at h
      · rename_i hy
        obtain ⟨h1, h3, h4, rfl, h⟩ := h
        split at h
        · rename_i hj; exact ⟨_, none, ⟨_, _, _, _, _, rfl, hy, ⟨h1, h3, h4⟩, .inl ⟨hj, rfl, rfl⟩⟩, h⟩
        · rename_i hj; exact ⟨_, some (_, _), ⟨_, _, _, _, _, rfl, hy, ⟨h1, h3, h4⟩, .inr ⟨hj, rfl, rfl⟩⟩, h⟩
      · exact h.elim
    · exact h.elim
  case mkslB =>
    split at h
    · rename_i h0
      split at h
      · rename_i hcs; exact ⟨_, some (_, _), ⟨h0, _, hcs, rfl, rfl⟩, h⟩
      · exact h.elim
    · exact h.elim
  case call =>
    obtain ⟨vs', r, a, b, c⟩ := h
    exact ⟨r, none, ⟨rfl, vs', a, b⟩, c⟩
  case callB =>
    obtain ⟨vs', n, xs, e, a, b, h⟩ := h
    split at h
    · rename_i h0; exact ⟨_, none, ⟨vs', n, xs, e, a, b, .inl ⟨h0, rfl, rfl⟩⟩, h⟩
    · rename_i h0; exact ⟨_, some (_, _), ⟨vs', n, xs, e, a, b, .inr ⟨h0, rfl, rfl⟩⟩, h⟩
  case callv =>
    split at h
    · obtain ⟨hf, vs', r, a, b, c⟩ := h
      exact ⟨r, none, ⟨rfl, _, _, _, vs', rfl, hf, a, b⟩, c⟩
    · exact h.elim
    · exact h.elim

theorem r_sem {r : V} {ob : Option (Nat × AObj)} (h : rsem P G id base anc op vals m r ob) (hK : K r (m.putO ob)) : sem P G id base (some anc) op vals m K := by
  cases op <;> simp only [rsem] at h
  case alloc => obtain ⟨rfl, rfl⟩ := h; exact hK
  case box => obtain ⟨x, rfl, rfl, rfl⟩ := h; exact hK
  case mk => obtain ⟨k, l, k', c, rfl, h1, rfl, rfl⟩ := h; exact ⟨h1.1, h1.2.1, h1.2.2.1, h1.2.2.2.1, h1.2.2.2.2, hK⟩
  case ld1 =>
    obtain ⟨rfl, ⟨xs, o, rfl, h⟩ | ⟨i, o, cs, t, rfl, h1, h2, h3⟩⟩ := h
    · simp only [sem, h]; exact hK
    · simp only [sem, h1, h2, h3]; exact ⟨trivial, hK⟩
  case ld1W =>
    obtain ⟨rfl, i, o, o', cs, t, rfl, h1, h2, h3⟩ := h
    simp only [sem, h1, h2, h3]; exact ⟨trivial, trivial, hK⟩
  case ldA =>
    obtain ⟨rfl, ⟨xs, o, rfl, h, rfl⟩ | ⟨i, o, cs, t, rfl, h1, h2, h3, rfl⟩⟩ := h
    · exact ⟨h, hK⟩
    · simp only [sem, h1, h2]; exact ⟨trivial, h3, hK⟩
  case st =>
    obtain ⟨i, o, v, cs, t, rfl, h1, h2, h3, rfl, rfl⟩ := h
    simp only [sem, h1, h2]; exact ⟨trivial, h3.1, h3.2.1, h3.2.2, hK⟩
  case app =>
    obtain ⟨n, xs, j, ys, k, k2, rfl, h1, ⟨rfl, rfl, rfl⟩ | ⟨t, rfl, h2, h3, rfl, rfl⟩⟩ := h
    · exact ⟨h1.1, h1.2.1, h1.2.2.1, h1.2.2.2, hK⟩
    · simp only [sem, h2, h3]; exact ⟨h1.1, h1.2.1, h1.2.2.1, h1.2.2.2, trivial, trivial, trivial, trivial, hK⟩
  case appB =>
    obtain ⟨n, xs, j, ys, y, rfl, hy, h1, ⟨hj, rfl, rfl⟩ | ⟨hj, rfl, rfl⟩⟩ := h
    · simp only [sem]
      rw [if_neg (by intro h; cases h), hy]
      refine ⟨h1.1, h1.2.1, h1.2.2, trivial, ?_⟩
      rw [if_pos hj]; exact hK
    · simp only [sem]
      rw [if_neg (by intro h; cases h), hy]
      refine ⟨h1.1, h1.2.1, h1.2.2, trivial, ?_⟩
      rw [if_neg hj]; exact hK
  case mkslB =>
    obtain ⟨h0, cs, hcs, rfl, rfl⟩ := h
    simp only [sem]
    rw [if_pos h0, hcs]; exact hK
  case call => obtain ⟨rfl, vs', a, b⟩ := h; exact ⟨vs', r, a, b, hK⟩
  case callB =>
    obtain ⟨vs', n, xs, e, a, b, ⟨h0, rfl, rfl⟩ | ⟨h0, rfl, rfl⟩⟩ := h
    · exact ⟨vs', n, xs, e, a, b, by rw [if_pos h0]; exact hK⟩
    · exact ⟨vs', n, xs, e, a, b, by rw [if_neg h0]; exact hK⟩
  case callv => obtain ⟨rfl, f, cs, vs, vs', rfl, hf, a, b⟩ := h; exact ⟨hf, vs', r, a, b, hK⟩
  all_goals exact h.elim

theorem Agree.symm (h : Agree base anc m m') : Agree base anc m' m := fun i hi => (h i hi).symm
theorem Agree.trans {m'' : Mm} (h : Agree base anc m m') (h' : Agree base anc m' m'') : Agree base anc m m'' := fun i hi => (h' i hi).trans (h i hi)

/-- For an operation of this kind these memories are alike. -/
def Alike (base : Nat) (anc : List Nat) (op : VO) (m m' : Mm) : Prop :=
  ∀ k, m'.obj k = m.obj k ∨ (base ≤ k ∧ k - base ∉ anc) ∨ (op.tame = true ∧ (∃ n e s, m.obj k = some (.row n e s)) ∧ (∃ n e s, m'.obj k = some (.row n e s)))
theorem Alike.symm (h : Alike base anc op m m') : Alike base anc op m' m := fun k => by
  rcases h k with h | h | ⟨h1, h2, h3⟩
  · exact .inl h.symm
  · exact .inr (.inl h)
  · exact .inr (.inr ⟨h1, h3, h2⟩)
theorem Alike.box (h : Alike base anc op m m') {k : Nat} (hk : k < base ∨ k - base ∈ anc) {cs : List V} {t : TypeId} (ho : m.obj k = some (.box cs t)) : m'.obj k = some (.box cs t) := by
  rcases h k with h | ⟨h1, h2⟩ | ⟨_, ⟨_, _, _, h2⟩, _⟩
  · exact h.trans ho
  · rcases hk with hk | hk
    · omega
    · exact absurd hk h2
  · rw [ho] at h2; cases h2
theorem Alike.wild (h : Alike base anc op m m') (ht : op.tame = false) {k : Nat} (hk : k < base ∨ k - base ∈ anc) : m'.obj k = m.obj k := by
  rcases h k with h | ⟨h1, h2⟩ | ⟨h1, _⟩
  · exact h
  · rcases hk with hk | hk
    · omega
    · exact absurd hk h2
  · rw [ht] at h1; cases h1
theorem rdable_some {i : Nat} (h : rdable (some anc) base i = true) : i < base ∨ i - base ∈ anc := by
  simpa only [rdable, Bool.or_eq_true, decide_eq_true_eq, List.contains_iff_mem] using h
theorem stOk_some {i : Nat} (h : stOk (some anc) base i = true) : base ≤ i ∧ i - base ∈ anc := by
  simpa only [stOk, Bool.and_eq_true, decide_eq_true_eq, List.contains_iff_mem] using h
theorem ownOk_some {i : Nat} (h : ownOk (some anc) base i = true) : anc ≠ [] ∧ (i < base ∨ i - base ∈ anc) := by
  simp only [ownOk, Bool.and_eq_true, Bool.or_eq_true, decide_eq_true_eq, List.contains_iff_mem, Bool.not_eq_true', List.isEmpty_eq_false_iff] at h
  exact h
theorem rsem_alike {r : V} {ob : Option (Nat × AObj)} (ha : Alike base anc op m m') (hn : m'.next = m.next) (h : rsem P G id base anc op vals m r ob) : rsem P G id base anc op vals m' r ob := by
  cases op <;> simp only [rsem] at h ⊢
  case ld1 =>
    obtain ⟨rfl, h | ⟨i, o, cs, t, rfl, h1, h2, h3⟩⟩ := h
    · exact ⟨rfl, .inl h⟩
    · exact ⟨rfl, .inr ⟨i, o, cs, t, rfl, h1, ha.box (rdable_some h1) h2, h3⟩⟩
  case ld1W =>
    obtain ⟨rfl, i, o, o', cs, t, rfl, h1, h2, h3⟩ := h
    exact ⟨rfl, i, o, o', cs, t, rfl, h1, ha.box (rdable_some h1) h2, h3⟩
  case ldA =>
    obtain ⟨rfl, h | ⟨i, o, cs, t, rfl, h1, h2, h3⟩⟩ := h
    · exact ⟨rfl, .inl h⟩
    · exact ⟨rfl, .inr ⟨i, o, cs, t, rfl, h1, ha.box (rdable_some h1) h2, h3⟩⟩
  case st =>
    obtain ⟨i, o, v, cs, t, rfl, h1, h2, h3⟩ := h
    exact ⟨i, o, v, cs, t, rfl, h1, ha.box (.inr (stOk_some h1).2) h2, h3⟩
  case app =>
    obtain ⟨n, xs, j, ys, k, k2, rfl, h1, h | ⟨t, rfl, h2, h3, h4⟩⟩ := h
    · exact ⟨n, xs, j, ys, k, k2, rfl, h1, .inl h⟩
    · exact ⟨n, xs, j, ys, _, k2, rfl, h1, .inr ⟨t, rfl, h2, (ha.wild rfl (ownOk_some h2).2).trans h3, h4⟩⟩
  case call =>
    obtain ⟨rfl, vs', a, b⟩ := h
    exact ⟨rfl, vs', a, fun m'' hm hn' => b m'' (fun k hk => (hm k hk).trans (ha.wild rfl hk)) (hn'.trans hn)⟩
  case callB =>
    obtain ⟨vs', n, xs, e, a, b, h⟩ := h
    exact ⟨vs', n, xs, e, a, fun m'' hm hn' => b m'' (fun k hk => (hm k hk).trans (ha.wild rfl hk)) (hn'.trans hn), h⟩
  case callv =>
    obtain ⟨rfl, f, cs, vs, vs', e, hf, a, b⟩ := h
    exact ⟨rfl, f, cs, vs, vs', e, hf, a, fun m'' hm hn' => b m'' (fun k hk => (hm k hk).trans (ha.wild rfl hk)) (hn'.trans hn)⟩
  all_goals first | exact h | exact h.elim

theorem putO_comm {x y : Option (Nat × AObj)} (h : ∀ k o k' o', x = some (k, o) → y = some (k', o') → k ≠ k') (m : Mm) : (m.putO x).putO y = (m.putO y).putO x := by
  rcases x with _ | ⟨k, o⟩ <;> rcases y with _ | ⟨k', o'⟩ <;> simp only [Mm.putO]
  have hne := h k o k' o' rfl rfl
  unfold Mm.put
  congr 1
  funext q
  by_cases h1 : q = k
  · by_cases h2 : q = k'
    · exact absurd (h1.symm.trans h2) hne
    · simp only [if_neg h2, if_pos h1]
  · by_cases h2 : q = k'
    · simp only [if_pos h2, if_neg h1]
    · simp only [if_neg h2, if_neg h1]
theorem next_putO (ob : Option (Nat × AObj)) : (m.putO ob).next = m.next := by rcases ob with _ | ⟨k, o⟩ <;> rfl
/-- What an operation puts: under its own number, or the box that it may write, or the row that it may make longer. -/
theorem rsem_put {r : V} {k : Nat} {o : AObj} (h : rsem P G id base anc op vals m r (some (k, o))) :
    k = id ∨ ((∃ n, op = .st n) ∧ base ≤ k ∧ k - base ∈ anc ∧ (∃ cs t, m.obj k = some (.box cs t))) ∨
      ((∃ e s b, op = .app e s b) ∧ anc ≠ [] ∧ (k < base ∨ k - base ∈ anc) ∧ (∃ n e s, m.obj k = some (.row n e s)) ∧ ∃ n e s, o = .row n e s) := by
  cases op <;> simp only [rsem] at h
  case alloc => obtain ⟨_, h⟩ := h; cases h; exact .inl rfl
  case box => obtain ⟨_, _, _, h⟩ := h; cases h; exact .inl rfl
  case mk => obtain ⟨_, _, _, _, _, _, _, h⟩ := h; cases h; exact .inl rfl
  case ld1 => obtain ⟨h, _⟩ := h; cases h
  case ld1W => obtain ⟨h, _⟩ := h; cases h
  case ldA => obtain ⟨h, _⟩ := h; cases h
  case st =>
    obtain ⟨i, o, v, cs, t, rfl, h1, h2, h3, _, h⟩ := h
    cases h
    exact .inr (.inl ⟨⟨_, rfl⟩, (stOk_some h1).1, (stOk_some h1).2, cs, t, h2⟩)
  case app =>
    obtain ⟨n, xs, j, ys, k, k2, rfl, h1, ⟨_, _, h⟩ | ⟨t, rfl, h2, h3, _, h⟩⟩ := h
    · cases h; exact .inl rfl
    · cases h
      exact .inr (.inr ⟨⟨_, _, _, rfl⟩, (ownOk_some h2).1, (ownOk_some h2).2, ⟨_, _, _, h3⟩, _, _, _, rfl⟩)
  case appB => obtain ⟨_, _, _, _, _, _, _, _, ⟨_, _, h⟩ | ⟨_, _, h⟩⟩ := h <;> cases h; exact .inl rfl
  case mkslB => obtain ⟨_, _, _, _, h⟩ := h; cases h; exact .inl rfl
  case call => obtain ⟨h, _⟩ := h; cases h
  case callB => obtain ⟨_, _, _, _, _, _, ⟨_, _, h⟩ | ⟨_, _, h⟩⟩ := h <;> cases h; exact .inl rfl
  case callv => obtain ⟨h, _⟩ := h; cases h
  all_goals exact h.elim

/-- What a store or an append may do beside another one. -/
def beside (op : VO) (anc : List Nat) (op' : VO) (anc' : List Nat) : Prop :=
  match op with
  | .st _ => ∀ a ∈ anc, a ∉ anc'
  | .app _ _ _ => anc = [] ∨ op'.tame = true
  | _ => True
/-- Two operations that may stand in either order. -/
def Swaps (i j : Nat) (md md' : Option (List Nat)) (op op' : VO) : Prop :=
  op.isMem = false ∨ op'.isMem = false ∨ (∃ anc anc', md = some anc ∧ md' = some anc' ∧ j ∉ anc ∧ i ∉ anc' ∧ beside op anc op' anc' ∧ beside op' anc' op anc) ∨
    (md = none ∧ (∃ f js, op = .callL f js ∧ j ∈ js) ∧ ∃ t z, op' = .alloc t z)

/-- What one puts is nothing to the other one. -/
theorem alike_put {i : Nat} {anc anc' : List Nat} {op' : VO} {r : V} {ob : Option (Nat × AObj)} (h : rsem P G (base + i) base anc op vals m r ob) (hi : i ∉ anc') (hb : beside op anc op' anc') : Alike base anc' op' m (m.putO ob) := by
  rcases ob with _ | ⟨k, o⟩
  · exact fun k => .inl rfl
  · intro q
    by_cases hq : q = k
    · subst hq
      rcases rsem_put h with rfl | ⟨⟨n, rfl⟩, h1, h2, _⟩ | ⟨⟨e, s, b, rfl⟩, h1, h2, h3, h4⟩
      · exact .inr (.inl ⟨Nat.le_add_right _ _, by rw [Nat.add_sub_cancel_left]; exact hi⟩)
      · exact .inr (.inl ⟨h1, hb _ h2⟩)
      · rcases hb with hb | hb
        · exact absurd hb h1
        · obtain ⟨n, e', s', rfl⟩ := h4
          exact .inr (.inr ⟨hb, h3, n, e', s', if_pos rfl⟩)
    · exact .inl (if_neg hq)

theorem sem_keep {i j : Nat} (hij : i ≠ j) (hs : op.isMem = false ∨ (∃ anc, md = some anc) ∨ (md = none ∧ ∃ f js, op = .callL f js ∧ j ∈ js)) (h0 : m.obj (base + j) = none) (h1 : base + j < m.next) (h : sem P G (base + i) base md op vals m K) :
    sem P G (base + i) base md op vals m fun r m' => K r m' ∧ m'.obj (base + j) = none ∧ base + j < m'.next := by
  by_cases hm : op.isMem = false
  · obtain ⟨r, hr, hK⟩ := (sem_pure hm).1 h
    exact (sem_pure hm).2 ⟨r, hr, hK, h0, h1⟩
  · rcases hs with hs | ⟨anc, rfl⟩ | ⟨rfl, f, js, rfl, hj⟩
    · exact absurd hs hm
    · obtain ⟨r, ob, hr, hK⟩ := sem_r (by simpa using hm) h
      refine r_sem hr ⟨hK, ?_⟩
      rcases ob with _ | ⟨k, o⟩
      · exact ⟨h0, h1⟩
      · refine ⟨?_, h1⟩
        show (if base + j = k then some o else m.obj (base + j)) = none
        rw [if_neg, h0]
        rintro rfl
        rcases rsem_put hr with e | ⟨⟨n, rfl⟩, a1, a2, cs, t, a3⟩ | ⟨⟨e, s, b, rfl⟩, a1, a2, ⟨n, e', s', a3⟩, _⟩
        · omega
        · rw [h0] at a3; cases a3
        · rw [h0] at a3; cases a3
    · simp only [sem] at h ⊢
      obtain ⟨vs', Post, a, b, c, d⟩ := h
      exact ⟨vs', Post, a, b, c, fun r m' x y => ⟨d r m' x y, y.2 j hj h1 h0, Nat.lt_of_lt_of_le h1 y.1⟩⟩
theorem sem_swap {i j : Nat} {md' : Option (List Nat)} {op' : VO} {vals' : List V} (hij : i ≠ j) (hs : Swaps i j md md' op op') (hfr : (∃ t z, op' = .alloc t z) → m.obj (base + j) = none ∧ base + j < m.next) {F : V → V → Mm → Prop}
    (h : sem P G (base + i) base md op vals m fun r m1 => sem P G (base + j) base md' op' vals' m1 fun r' m2 => F r r' m2) :
    sem P G (base + j) base md' op' vals' m fun r' m1 => sem P G (base + i) base md op vals m1 fun r m2 => F r r' m2 := by
  by_cases h1 : op.isMem = false
  · rw [sem_pure h1] at h
    obtain ⟨r, hr, h⟩ := h
    exact sem_mono h fun r' m2 hF => (sem_pure h1).2 ⟨r, hr, hF⟩
  · by_cases h2 : op'.isMem = false
    · cases hp : pureSem op' vals' with
      | none =>
        exact (sem_some (sem_mono h fun r m1 hh => by
          rw [sem_pure h2] at hh
          obtain ⟨r', hr', _⟩ := hh
          rw [hp] at hr'; cases hr')).elim
      | some r0 =>
        refine (sem_pure h2).2 ⟨r0, hp, sem_mono h fun r m1 hh => ?_⟩
        rw [sem_pure h2] at hh
        obtain ⟨r', hr', hF⟩ := hh
        rw [hp] at hr'; cases hr'
        exact hF
    · rcases hs with hs | hs | ⟨anc, anc', rfl, rfl, hj, hi, hb, hb'⟩ | ⟨rfl, ⟨f, js, rfl, hj⟩, t, z, rfl⟩
      · exact absurd hs h1
      · exact absurd hs h2
      rotate_left
      · obtain ⟨g1, g2⟩ := hfr ⟨t, z, rfl⟩
        simp only [sem] at h ⊢
        obtain ⟨vs', Post, a, b, ⟨r0, m0, c1, c2⟩, d⟩ := h
        refine ⟨vs', fun r m2 => ∃ m1, Post r m1 ∧ KeepL base js m m1 ∧ m2 = m1.put (base + j) (.box z t), a, (b.beside g1 g2 z t).mono ?_, ⟨r0, _, ⟨m0, c1, c2, rfl⟩, c2.1, fun q hq hl hn => ?_⟩, ?_⟩
        · rintro r m2 ⟨m1, x1, x2, x3, rfl⟩
          exact ⟨m1, x1, KeepL.of x2 x3, rfl⟩
        · have hne : base + q ≠ base + j := fun e => by rw [e] at hn; rw [show (m.put (base + j) (.box z t)).obj (base + j) = some (.box z t) from if_pos rfl] at hn; cases hn
          rw [show (m.put (base + j) (.box z t)).obj (base + q) = m.obj (base + q) from if_neg hne] at hn
          exact (if_neg hne).trans (c2.2 q hq hl hn)
        · rintro r m2 ⟨m1, x1, x2, rfl⟩ _
          exact d r m1 x1 x2
      · obtain ⟨r, ob, hr, h⟩ := sem_r (by simpa using h1) h
        obtain ⟨r', ob', hr', hF⟩ := sem_r (by simpa using h2) h
        have hA := alike_put (op' := op') hr hi hb
        have hr2 := rsem_alike hA.symm (next_putO ob).symm hr'
        have hA' := alike_put (op' := op) hr2 hj hb'
        have hr3 := rsem_alike hA' (next_putO ob') hr
        refine r_sem hr2 (r_sem hr3 ?_)
        rw [← putO_comm ?_]
        · exact hF
        · rintro k o k' o' rfl rfl hkk
          subst hkk
          rcases rsem_put hr with rfl | ⟨⟨n, rfl⟩, a1, a2, cs, t, a3⟩ | ⟨⟨e, s, b, rfl⟩, a1, a2, ⟨n, e', s', a3⟩, _⟩
          · rcases rsem_put hr2 with h | ⟨⟨n, rfl⟩, b1, b2, _⟩ | ⟨⟨e, s, b, rfl⟩, b1, b2, _⟩
            · omega
            · rw [Nat.add_sub_cancel_left] at b2; exact hi b2
            · rw [Nat.add_sub_cancel_left] at b2
              rcases b2 with b2 | b2
              · omega
              · exact hi b2
          · rcases rsem_put hr2 with rfl | ⟨⟨n, rfl⟩, b1, b2, _⟩ | ⟨⟨e, s, b, rfl⟩, b1, b2, ⟨_, _, _, b3⟩, _⟩
            · rw [Nat.add_sub_cancel_left] at a2; exact hj a2
            · exact hb _ a2 b2
            · rw [a3] at b3; cases b3
          · rcases rsem_put hr2 with rfl | ⟨⟨n, rfl⟩, b1, b2, cs, t, b3⟩ | ⟨⟨e, s, b, rfl⟩, b1, b2, _⟩
            · rw [Nat.add_sub_cancel_left] at a2
              rcases a2 with a2 | a2
              · omega
              · exact hj a2
            · rw [a3] at b3; cases b3
            · rcases hb with hb | hb
              · exact a1 hb
              · cases hb
end
end Go.Proofs.YtdefefeifcdogaaGreat
/-! Regions: in the text's order, and in any order. Nothing is proved of the program here. -/
namespace Go.Proofs.YtdefefeifcdogaaGreat
open Go.RowKit

/-- The frame's slots. -/
structure TmR (E : Env) (nt : Nat) (t : Nat → V) (a : Act) : Prop where
  size : a.tmps.size = nt
  slot : ∀ i, i < nt → VR E (t i) (a.tmps.getD i undef)

section
variable {P : Program} {bx : Nat → Bool} {G : Ground} {E E' : Env} {nt : Nat} {t : Nat → V} {s : St} {a : Act} {m : Mm} {w : World} {B : Nat} {ro : Option Nat}

theorem opd_ok (hT : TmR E nt s.t a) (hG : G.ok E.M w) {x : Operand} {y : Opd} (h : cvOpd G.tab nt x = some y) : VR E (s.ev y) (a.eval x) := by
  cases x <;> simp only [cvOpd] at h
  case tmp i =>
    split at h
    · rename_i hi; cases h; exact hT.slot i hi
    · cases h
  case const v =>
    rw [Option.map_eq_some_iff] at h
    obtain ⟨u, hu, rfl⟩ := h
    exact ofVal_ok hu
  case global g =>
    split at h
    · cases h
    · cases h
      show VR E (.ept (G.tab g) 0) (.pointer (some ⟨g, 0, none⟩))
      rw [VR]
      exact ⟨g, 0, rfl, G.tab_clean g, G.tab_ok E w hG g⟩
  case func f =>
    cases h
    show VR E (.fn f []) (.func (.func f) #[] #[])
    rw [VR]
    exact ⟨#[], rfl, by rw [VRs]⟩
theorem opds_ok (hT : TmR E nt s.t a) (hG : G.ok E.M w) : ∀ {xs : List Operand} {ys : List Opd}, xs.mapM (cvOpd G.tab nt) = some ys → VRs E (ys.map s.ev) (xs.map a.eval)
  | [], ys, h => by simp at h; subst h; simp only [List.map_nil]; rw [VRs]
  | x :: xs, ys, h => by
    rw [List.mapM_cons] at h
    simp only [Option.bind_eq_bind, Option.bind_eq_some_iff] at h
    obtain ⟨y, hy, l, hl, e⟩ := h
    cases e
    rw [List.map_cons, List.map_cons, VRs]
    exact ⟨_, _, rfl, opd_ok hT hG hy, opds_ok hT hG hl⟩

theorem put_ok (hT : TmR E nt t a) (hle : E.Le E') {d : Option Nat} (hd : ∀ n, d = some n → n < nt) {r : V} {v : Value} (hr : VR E' r v) : TmR E' nt (putT t d r) (a.put d v) := by
  cases d with
  | none => exact ⟨hT.size, fun i hi => (hT.slot i hi).mono hle⟩
  | some n =>
    refine ⟨by simp [Act.put, hT.size], fun i hi => ?_⟩
    by_cases hin : i = n
    · subst hin
      have h1 : putT t (some i) r i = r := if_pos rfl
      have h2 : (a.put (some i) v).tmps.getD i undef = v := by
        have : i < a.tmps.size := by rw [hT.size]; exact hi
        simp [Act.put, Array.getD_eq_getD_getElem?, Array.getElem?_setIfInBounds, this]
      rw [h1, h2]; exact hr
    · have h1 : putT t (some n) r i = t i := if_neg hin
      have h2 : (a.put (some n) v).tmps.getD i undef = a.tmps.getD i undef := by
        simp [Act.put, Array.getD_eq_getD_getElem?, Array.getElem?_setIfInBounds_ne (Ne.symm hin)]
      rw [h1, h2]; exact (hT.slot i hi).mono hle

def boolOf : Value → Option Bool
  | .bool b => some b
  | _ => none
theorem onB_ok {v : V} {c : Value} (h : VR E v c) (b : Bool) : onB v b = (boolOf c == some b) := by
  cases v with
  | lit u =>
    rw [VR] at h
    obtain ⟨rfl, _⟩ := h
    cases c <;> rfl
  | agg _ => rw [VR] at h; obtain ⟨_, rfl, _⟩ := h; rfl
  | tup _ => rw [VR] at h; obtain ⟨_, rfl, _⟩ := h; rfl
  | sl _ _ _ => rw [VR] at h; obtain ⟨_, _, rfl, _⟩ := h; rfl
  | ptr _ _ => rw [VR] at h; obtain ⟨_, _, rfl⟩ := h; rfl
  | bsl _ _ _ _ => rw [VR] at h; obtain ⟨_, _, _, rfl, _⟩ := h; rfl
  | gsl _ _ _ => rw [VR] at h; obtain ⟨_, _, _, rfl, _⟩ := h; rfl
  | ept _ _ => rw [VR] at h; obtain ⟨_, _, rfl, _⟩ := h; rfl
  | fn _ _ => rw [VR] at h; obtain ⟨_, rfl, _⟩ := h; rfl
  | mp _ => rw [VR] at h; obtain ⟨_, _, rfl⟩ := h; rfl
  | yld _ => rw [VR] at h; obtain ⟨_, _, rfl⟩ := h; rfl
theorem on_ok (hT : TmR E nt s.t a) {ops : Array Oper} {o : Oper} {g : Option (Nat × Bool)} (hg : cvGuard nt ops o = some g) {vi : VI} (hv : vi.guard = g) : vi.on s = Region.wanted o (yielded ops a.tmps) := by
  unfold cvGuard at hg
  unfold VI.on Region.wanted
  rw [hv]
  split at hg
  · rename_i e; cases hg; rw [e]
  · rename_i j wn e
    rw [e]
    split at hg
    · rename_i d hd
      split at hg
      · rename_i hlt
        cases hg
        have h1 := onB_ok (hT.slot d hlt) wn
        simp only
        rw [h1]
        unfold yielded
        rw [hd]
        have : d < a.tmps.size := by rw [hT.size]; exact hlt
        simp only [Option.bind_some, Array.getD_eq_getD_getElem?, Array.getElem?_eq_getElem this, Option.getD_some]
        show (boolOf a.tmps[d] == some wn) = _
        cases a.tmps[d] <;> rfl
      · cases hg
    · cases hg

/-- A number that is set aside and not in use yet. -/
def Pend (E : Env) (m : Mm) (i : Nat) : Prop := i < m.next ∧ E.φ i = none ∧ m.obj i = none ∧ ∀ k, E.loc i k = none
theorem Pend.step {i j : Nat} {m' : Mm} {w' : World} (h : Pend E m i) (hs : Step (· = j) E m w E' m' w') (hij : i ≠ j) : Pend E' m' i := by
  obtain ⟨h1, h2, h3, h4⟩ := h
  have h5 := hs.oldloc i h1 hij h3
  exact ⟨Nat.lt_of_lt_of_le h1 hs.next, (hs.oldφ i h1 hij).trans h2, h5.2, fun k => (h5.1 k).trans (h4 k)⟩

/-- The mark of a loop over a function among the deferred calls. -/
def markOf (r : Nat) : Deferred := { target := .collected r, args := #[] }
/-- The deferred calls: marks alone, of blocks from B on that hold no calls. -/
structure Dfr (B : Nat) (E : Env) (m : Mm) (w : World) (a : Act) : Prop where
  ex : ∃ ds : List Nat, a.defers = ds.map markOf ∧ ds.Nodup ∧ ∀ r ∈ ds, B ≤ r ∧ w.heap[r]? = some (.deferred (some [])) ∧ ∀ i, ¬ BlkOf E m i r
theorem Dfr.step {B : Nat} {X : Nat → Prop} {E E' : Env} {m m' : Mm} {w w' : World} {a a' : Act} (h : Dfr B E m w a) (hs : Step X E m w E' m' w') (ha : a'.defers = a.defers) : Dfr B E' m' w' a' := by
  obtain ⟨ds, h1, h2, h3⟩ := h.ex
  refine ⟨ds, ha.trans h1, h2, fun r hr => ?_⟩
  obtain ⟨h4, h5, h6⟩ := h3 r hr
  have hlt := heap_lt h5
  exact ⟨h4, (hs.kept r hlt h6).trans h5, fun i hi => by obtain ⟨j, hj⟩ := hs.blk i r hi hlt; exact h6 j hj⟩
theorem put_defers (a : Act) (d : Option Nat) (v : Value) : (a.put d v).defers = a.defers := by cases d <;> rfl
/-- What stands between the machine and the values. -/
structure Holds (B : Nat) (G : Ground) (E : Env) (nt : Nat) (s : St) (a : Act) (w : World) : Prop where
  T : TmR E nt s.t a
  M : MemR E s.m w
  G : G.ok E.M w
  D : Dfr B E s.m w a

theorem vstep_sound {ops : Array Oper} {Q : Exit → Act → World → Prop} {idx base : Nat} {o : Oper} (ho : ops[idx]? = some o) {vi vi' : VI} (hc : cvOne P bx G.tab nt ops o = some vi) (h1 : vi'.dst = vi.dst) (h2 : vi'.guard = vi.guard) (h3 : vi'.op = vi.op) (h4 : vi'.args = vi.args)
    (hH : Holds B G E nt s a w) (hp : vi.op.makes = true → Pend E s.m (base + idx)) {K : St → Prop} (h : vstep P G base idx vi' s K) {next : Act → World → Prop}
    (hn : ∀ s' a' w' E', K s' → Holds B G E' nt s' a' w' → Step (· = base + idx) E s.m w E' s'.m w' → next a' w') : wpOpIn (fen ro) 0 P ops Q idx next a w := by
  unfold cvOne at hc
  split at hc
  · rename_i vo args g hvo hg
    split at hc
    · rename_i l hl
      split at hc
      · rename_i hd
        cases hc
        have hon := on_ok (s := s) hH.T hg (vi := vi') h2
        have hdst : ∀ n, o.dst = some n → n < nt := fun n hn => by rw [hn] at hd; simpa [dstOk] using hd
        unfold wpOpIn
        rw [ho]
        simp only
        unfold vstep at h
        rw [hon] at h
        split
        · rename_i hw
          rw [if_pos hw, h3, h4] at h
          refine (op_sound hH.G hH.M (id := base + idx) hp hvo (opds_ok hH.T hH.G hl) h).wpIn ro ?_
          rintro v w' ⟨r, m', E', hK, hs, hm', hr⟩
          rw [h1] at hK
          exact hn _ _ _ E' hK ⟨put_ok hH.T hs.le hdst hr, hm', G.mono _ _ _ _ _ _ _ hH.M hs hH.G, hH.D.step hs (put_defers _ _ _)⟩ hs
        · rename_i hw
          rw [if_neg hw, h1] at h
          exact ⟨fun _ _ => trivial, hn _ _ _ E h ⟨put_ok hH.T (.refl E) hdst (VR_mk rfl), hH.M, hH.G, hH.D.step (Step.refl NoX _ _ _) (put_defers _ _ _)⟩ (Step.refl _ _ _ _)⟩
      · cases hc
    · cases hc
  · cases hc

/-! ### In the text's order -/
theorem vrun_sound {ops : Array Oper} {Q : Exit → Act → World → Prop} {base : Nat} {L : List VI} (hL : ops.toList.mapM (cvOne P bx G.tab nt ops) = some L) {K : St → Prop} :
    ∀ (n : Nat) (i : Nat), i + n = ops.size → ∀ (s : St) (E : Env) (a : Act) (w : World), Holds B G E nt s a w → (∀ j, i ≤ j → (∃ vi, L[j]? = some vi ∧ vi.op.makes = true) → Pend E s.m (base + j)) → vrun P G base i (L.drop i) s K →
      (∀ s' a' w' E', K s' → Holds B G E' nt s' a' w' → Step (fun x => base ≤ x) E s.m w E' s'.m w' → Q .normal a' w') → wpOpsIn (fen ro) 0 P ops Q (List.range' i n) a w
  | 0, i, hi, s, E, a, w, hH, _, h, hn => by
    have hl : L.length = ops.size := by have := congrArg List.length (mapM_some hL); simpa using this.symm
    rw [List.drop_of_length_le (by omega), vrun] at h
    exact hn s a w E h hH (Step.refl _ _ _ _)
  | n + 1, i, hi, s, E, a, w, hH, hp, h, hn => by
    have hl : L.length = ops.size := by have := congrArg List.length (mapM_some hL); simpa using this.symm
    have hlt : i < L.length := by omega
    have hlt' : i < ops.size := by omega
    rw [List.drop_eq_getElem_cons hlt, vrun] at h
    have hci : cvOne P bx G.tab nt ops ops[i] = some L[i] := by
      have h5 : (ops.toList.map (cvOne P bx G.tab nt ops))[i]? = (L.map some)[i]? := by rw [mapM_some hL]
      rw [List.getElem?_map, List.getElem?_map, List.getElem?_eq_getElem hlt, List.getElem?_eq_getElem (by simpa using hlt')] at h5
      simpa using h5
    rw [List.range'_succ, wpOpsIn_cons]
    refine vstep_sound (base := base) (Array.getElem?_eq_getElem hlt') hci rfl rfl rfl rfl hH (fun hmk => hp i (Nat.le_refl _) ⟨L[i], List.getElem?_eq_getElem hlt, hmk⟩) h ?_
    intro s' a' w' E' hK hH' hs
    refine vrun_sound hL n (i + 1) (by omega) s' E' a' w' hH' ?_ hK ?_
    · intro j hj hmk
      exact (hp j (by omega) hmk).step hs (by omega)
    · intro s2 a2 w2 E2 hK2 hH2 hs2
      exact hn s2 a2 w2 E2 hK2 hH2 ((hs.weaken (fun x _ hx => by subst hx; omega)).trans hs2)
end
end Go.Proofs.YtdefefeifcdogaaGreat
/-! Regions that draw their order. Nothing is proved of the program here. -/
namespace Go.Proofs.YtdefefeifcdogaaGreat
open Go.RowKit

/-! ### Which operation stands before which -/
def ancF (acc : Array Nat) (o : Oper) : Array Nat := acc.push (o.after.toList.foldl (fun s e => if Region.binds .any e then s ||| 2 ^ e.on ||| acc.getD e.on 0 else s) 0)
def ancA (ops : Array Oper) (n : Nat) : Array Nat := (ops.toList.take n).foldl ancF #[]
theorem ancA_succ (ops : Array Oper) (n : Nat) (h : n < ops.size) : ancA ops (n + 1) = ancF (ancA ops n) ops[n] := by
  unfold ancA
  rw [List.take_succ_eq_append_getElem (by simpa using h), List.foldl_append]
  simp
theorem ancA_size (ops : Array Oper) : ∀ n, n ≤ ops.size → (ancA ops n).size = n
  | 0, _ => by simp [ancA]
  | n + 1, h => by rw [ancA_succ ops n (by omega), ancF, Array.size_push, ancA_size ops n (by omega)]
theorem ancA_get (ops : Array Oper) {j : Nat} : ∀ n, j < n → n ≤ ops.size → (ancA ops n).getD j 0 = (ancA ops (j + 1)).getD j 0
  | 0, h, _ => by omega
  | n + 1, h, hn => by
    by_cases hj : j = n
    · subst hj; rfl
    · rw [ancA_succ ops n (by omega), ancF]
      have : j < (ancA ops n).size := by rw [ancA_size ops n (by omega)]; omega
      rw [← ancA_get ops n (by omega) (by omega)]
      simp [Array.getElem?_push, show j ≠ (ancA ops n).size by omega]
theorem ancs_eq (ops : Array Oper) : ancs ops = (ancA ops ops.size).toList := by
  unfold ancs ancA
  rw [List.take_of_length_le (by simp)]
  rfl
theorem fold_bit (B : Nat → Nat) (x : Nat) : ∀ (l : List Edge) (s : Nat), (l.foldl (fun s e => if Region.binds .any e then s ||| 2 ^ e.on ||| B e.on else s) s).testBit x = true →
    s.testBit x = true ∨ ∃ e ∈ l, Region.binds .any e = true ∧ (e.on = x ∨ (B e.on).testBit x = true)
  | [], s, h => .inl h
  | e :: l, s, h => by
    rw [List.foldl_cons] at h
    rcases fold_bit B x l _ h with h1 | ⟨e', he', h1⟩
    · split at h1
      · rename_i hb
        rw [Nat.testBit_or, Nat.testBit_or, Bool.or_eq_true, Bool.or_eq_true] at h1
        rcases h1 with (h1 | h1) | h1
        · exact .inl h1
        · rw [Nat.testBit_two_pow] at h1
          exact .inr ⟨e, List.mem_cons_self .., hb, .inl (by simpa using h1)⟩
        · exact .inr ⟨e, List.mem_cons_self .., hb, .inr h1⟩
      · exact .inl h1
    · exact .inr ⟨e', List.mem_cons_of_mem _ he', h1⟩
theorem ancs_spec {ops : Array Oper} {x i : Nat} (hi : i < ops.size) (h : ordered (ancs ops) x i = true) : ∃ e ∈ ops[i].after.toList, Region.binds .any e = true ∧ (e.on = x ∨ ordered (ancs ops) x e.on = true) := by
  have hget : ∀ j, j < ops.size → (ancs ops).getD j 0 = (ancA ops (j + 1)).getD j 0 := fun j hj => by
    rw [ancs_eq, ← ancA_get ops ops.size hj (Nat.le_refl _)]
    simp [List.getD_eq_getElem?_getD]
  unfold ordered at h
  rw [hget i hi, ancA_succ ops i hi, ancF] at h
  have hs := ancA_size ops i (by omega)
  have e1 : ∀ v, ((ancA ops i).push v).getD i 0 = v := fun v => by
    rw [Array.getD_eq_getD_getElem?, Array.getElem?_push, if_pos hs.symm]; rfl
  rw [e1] at h
  rcases fold_bit (fun k => (ancA ops i).getD k 0) x _ 0 h with h1 | ⟨e, he, hb, h1⟩
  · simp at h1
  · refine ⟨e, he, hb, ?_⟩
    rcases h1 with h1 | h1
    · exact .inl h1
    · right
      by_cases hk : e.on < i
      · unfold ordered
        rw [hget e.on (by omega), ← ancA_get ops i hk (by omega)]
        exact h1
      · have : (ancA ops i).getD e.on 0 = 0 := by simp [Array.getElem?_eq_none (show (ancA ops i).size ≤ e.on by omega)]
        rw [this] at h1; simp at h1

section
variable {P : Program} {G : Ground} {base : Nat} {K K' : St → Prop} {s : St}

theorem vstep_mono {i : Nat} {vi : VI} (h : vstep P G base i vi s K) (hk : ∀ s', K s' → K' s') : vstep P G base i vi s K' := by
  unfold vstep at h ⊢
  split at h
  · rename_i ho
    rw [if_pos ho]
    exact sem_mono h fun r m' hh => hk _ hh
  · rename_i ho
    rw [if_neg ho]
    exact hk _ h

theorem looks_arg {vi : VI} {n : Nat} (h : Opd.t n ∈ vi.args) : n ∈ vi.looks := by
  unfold VI.looks
  exact List.mem_append_left _ (List.mem_filterMap.2 ⟨_, h, rfl⟩)
theorem ev_put {vi : VI} {t : Nat → V} {m m' : Mm} {d : Option Nat} {v : V} (h : ∀ n, d = some n → n ∉ vi.looks) : vi.args.map (St.ev ⟨putT t d v, m⟩) = vi.args.map (St.ev ⟨t, m'⟩) := by
  refine List.map_congr_left fun x hx => ?_
  cases x with
  | c u => rfl
  | t n =>
    cases d with
    | none => rfl
    | some k =>
      show (if n = k then v else t n) = t n
      rw [if_neg]
      rintro rfl
      exact h n rfl (looks_arg hx)
theorem on_put {vi : VI} {t : Nat → V} {m m' : Mm} {d : Option Nat} {v : V} (h : ∀ n, d = some n → n ∉ vi.looks) : vi.on ⟨putT t d v, m⟩ = vi.on ⟨t, m'⟩ := by
  unfold VI.on
  cases hg : vi.guard with
  | none => rfl
  | some p =>
    obtain ⟨g, w⟩ := p
    cases d with
    | none => rfl
    | some k =>
      show onB (if g = k then v else t g) w = onB (t g) w
      rw [if_neg]
      rintro rfl
      exact h g rfl (by unfold VI.looks; rw [hg]; simp)
theorem putT_comm (t : Nat → V) {d d' : Option Nat} (v u : V) (h : ∀ n, d = some n → d' ≠ some n) : putT (putT t d v) d' u = putT (putT t d' u) d v := by
  cases d with
  | none => rfl
  | some n =>
    cases d' with
    | none => rfl
    | some k =>
      have hne : n ≠ k := fun e => h n rfl (by rw [e])
      funext i
      show (if i = k then u else if i = n then v else t i) = (if i = n then v else if i = k then u else t i)
      by_cases h1 : i = k
      · rw [if_pos h1, if_neg (by omega), if_pos h1]
      · rw [if_neg h1, if_neg h1]
theorem apart_spec {x y : VI} (h : x.apart y = true) : (∀ n, x.dst = some n → n ∉ y.looks) ∧ (∀ n, x.dst = some n → y.dst ≠ some n) ∧ (∀ n, y.dst = some n → n ∉ x.looks) := by
  refine ⟨fun d hd => ?_, fun d hd => ?_, fun d hd => ?_⟩ <;> simp [VI.apart, hd] at h
  · exact h.1.1
  · exact h.1.2
  · exact h.2

theorem vstep_swap {i j : Nat} {x y : VI} (hij : i ≠ j) (hap : x.apart y = true) (hs : Swaps i j x.mode y.mode x.op y.op) (hfr : (∃ t z, y.op = .alloc t z) → s.m.obj (base + j) = none ∧ base + j < s.m.next) (h : vstep P G base i x s fun s1 => vstep P G base j y s1 K) : vstep P G base j y s fun s1 => vstep P G base i x s1 K := by
  obtain ⟨a1, a2, a3⟩ := apart_spec hap
  obtain ⟨t, m⟩ := s
  unfold vstep at h ⊢
  dsimp only at h ⊢
  by_cases hx : x.on ⟨t, m⟩ = true <;> by_cases hy : y.on ⟨t, m⟩ = true
  · rw [if_pos hx] at h
    rw [if_pos hy]
    have h1 := sem_mono h (K' := fun r m1 => sem P G (base + j) base y.mode y.op (y.args.map (St.ev ⟨t, m⟩)) m1 fun r' m2 => K ⟨putT (putT t x.dst r) y.dst r', m2⟩) (fun r m1 hh => by
      rw [on_put (m' := m) a1, if_pos hy, ev_put (m' := m) a1] at hh; exact hh)
    have h2 := sem_swap hij hs hfr h1
    refine sem_mono h2 fun r' m1 hh => ?_
    rw [on_put (m' := m) a3, if_pos hx, ev_put (m' := m) a3]
    refine sem_mono hh fun r m2 hK => ?_
    rw [← putT_comm t r r' a2]
    exact hK
  · rw [if_pos hx] at h
    rw [if_neg hy, on_put (m' := m) a3, if_pos hx, ev_put (m' := m) a3]
    refine sem_mono h fun r m1 hh => ?_
    rw [on_put (m' := m) a1, if_neg hy] at hh
    rw [← putT_comm t r vund a2]
    exact hh
  · rw [if_neg hx, on_put (m' := m) a1, if_pos hy, ev_put (m' := m) a1] at h
    rw [if_pos hy]
    refine sem_mono h fun r' m1 hh => ?_
    rw [on_put (m' := m) a3, if_neg hx]
    rw [← putT_comm t vund r' a2]
    exact hh
  · rw [if_neg hx, on_put (m' := m) a1, if_neg hy] at h
    rw [if_neg hy, on_put (m' := m) a3, if_neg hx, ← putT_comm t vund vund a2]
    exact h

/-- A load that may stand before or behind an append. -/
def SwapL (x y : VI) : Prop := x.guard = none ∧ y.guard = none ∧ y.mode = none ∧ ((∃ e s b, y.op = .appL e s b) ∨ ∃ n, y.op = .stL n) ∧ ∃ p, ((x.op = .ld1 ∧ x.args = [.t p]) ∨ (x.op = .ld1W ∧ ∃ r, x.args = [.t r, .t p])) ∧ ∃ q r l, y.args = q :: r :: l ∧ .t p ∈ l
theorem appL_frame {id : Nat} {e : TypeId} {size bytes : Nat} {x y : V} {ps : List V} {m : Mm} {K : V → Mm → Prop} (h : sem P G id base none (.appL e size bytes) (x :: y :: ps) m K) :
    sem P G id base none (.appL e size bytes) (x :: y :: ps) m fun r m' => K r m' ∧ ∀ q, offP id x (.ptr q 0) = true → m'.obj q = m.obj q := by
  simp only [sem] at h ⊢
  refine ⟨h.1, ?_⟩
  have h := h.2
  split at h
  · split at h
    · refine ⟨h.1, h.2.1, h.2.2.1, h.2.2.2.1, ?_⟩
      have h := h.2.2.2.2
      split at h
      · rename_i h0; rw [if_pos h0]; exact ⟨h, fun _ _ => trivial⟩
      · rename_i h0; rw [if_neg h0]
        refine ⟨h, fun q hq => if_neg ?_⟩
        unfold offP at hq
        simp at hq
        exact hq
    · refine ⟨h.1, h.2.1, h.2.2.1, ?_⟩
      have h := h.2.2.2
      split at h
      · refine ⟨h.1, h.2.1, h.2.2.1, h.2.2.2, fun q hq => ?_⟩
        unfold offP at hq
        simp at hq
        exact (if_neg hq.1).trans (if_neg hq.2)
      · exact h
    · exact h
  · exact h
theorem late_frame {id : Nat} {op : VO} {x y : V} {ps : List V} {m : Mm} {K : V → Mm → Prop} (ho : (∃ e s b, op = .appL e s b) ∨ ∃ n, op = .stL n) (h : sem P G id base none op (x :: y :: ps) m K) :
    ∃ off : V → Bool, ps.all off = true ∧ sem P G id base none op (x :: y :: ps) m fun r m' => K r m' ∧ ∀ o c, off (.ptr o c) = true → m'.obj o = m.obj o := by
  rcases ho with ⟨e, s, b, rfl⟩ | ⟨n, rfl⟩
  · refine ⟨offP id x, ?_, sem_mono (appL_frame h) fun r m' ⟨hK, hf⟩ => ⟨hK, fun o c hq => hf o hq⟩⟩
    simp only [sem] at h
    exact h.1
  · simp only [sem] at h ⊢
    split at h
    · rename_i i o v ps' heq
      cases heq
      refine ⟨offS _, h.1, h.1, ?_⟩
      have h := h.2
      split at h
      · refine ⟨h.1, h.2, fun o c hq => if_neg ?_⟩
        unfold offS at hq
        simpa using hq
      · exact h
    · exact h.elim
theorem vstep_swapL {i j : Nat} {x y : VI} (hap : x.apart y = true) (hs : SwapL x y) (h : vstep P G base i x s fun s1 => vstep P G base j y s1 K) : vstep P G base j y s fun s1 => vstep P G base i x s1 K := by
  obtain ⟨a1, a2, a3⟩ := apart_spec hap
  obtain ⟨hxg, hyg, hym, hyo, p, hx, q, r0, l, hya, hpl⟩ := hs
  obtain ⟨t, m⟩ := s
  have hxon : ∀ s : St, x.on s = true := fun s => by unfold VI.on; simp only [hxg]
  have hyon : ∀ s : St, y.on s = true := fun s => by unfold VI.on; simp only [hyg]
  unfold vstep at h ⊢
  rw [if_pos (hxon _)] at h
  rw [if_pos (hyon _)]
  have hsame : ∀ v m1, (y.args.map (St.ev ⟨putT t x.dst v, m1⟩)) = y.args.map (St.ev ⟨t, m⟩) := fun v m1 => ev_put (m' := m) a1
  have hget : ∀ (r : V) (m1 : Mm), x.args.map (St.ev ⟨putT t y.dst r, m1⟩) = x.args.map (St.ev ⟨t, m⟩) := fun r m1 => ev_put (m' := m) a3
  have hld : ∃ v, (∀ (m' : Mm) (K' : V → Mm → Prop), (∀ o c, t p = .ptr o c → m'.obj o = m.obj o) → K' v m' → sem P G (base + i) base x.mode x.op (x.args.map (St.ev ⟨t, m⟩)) m' K') ∧ vstep P G base j y ⟨putT t x.dst v, m⟩ K := by
    rcases hx with ⟨hxo, hxa⟩ | ⟨hxo, r1, hxa⟩
    · rw [hxo, hxa, List.map_cons, List.map_nil, show St.ev ⟨t, m⟩ (.t p) = t p from rfl] at h ⊢
      simp only [sem] at h
      split at h
      · rename_i xs o hv
        rw [List.cons.injEq] at hv
        split at h
        · rename_i v hxv
          refine ⟨v, fun m' K' _ hK' => ?_, h⟩
          simp only [hv.1, sem, hxv]; exact hK'
        · exact h.elim
      · rename_i bi o hv
        rw [List.cons.injEq] at hv
        obtain ⟨hrd, h⟩ := h
        split at h
        · rename_i cs ty ho
          split at h
          · rename_i v hcv
            refine ⟨v, fun m' K' hm' hK' => ?_, h⟩
            have := hm' bi o hv.1
            simp only [hv.1, sem, this, ho, hcv]
            exact ⟨hrd, hK'⟩
          · exact h.elim
        · exact h.elim
      · exact h.elim
    · rw [hxo, hxa, List.map_cons, List.map_cons, List.map_nil, show St.ev ⟨t, m⟩ (.t p) = t p from rfl, show St.ev ⟨t, m⟩ (.t r1) = t r1 from rfl] at h ⊢
      simp only [sem] at h
      split at h
      · rename_i bi o bj o' hv
        rw [List.cons.injEq, List.cons.injEq] at hv
        obtain ⟨rfl, hrd, h⟩ := h
        split at h
        · rename_i cs ty ho
          split at h
          · rename_i v hcv
            refine ⟨v, fun m' K' hm' hK' => ?_, h⟩
            have := hm' _ o' hv.2.1
            simp only [hv.1, hv.2.1, sem, this, ho, hcv]
            exact ⟨trivial, hrd, hK'⟩
          · exact h.elim
        · exact h.elim
      · exact h.elim
  obtain ⟨v, hld, hy⟩ := hld
  unfold vstep at hy
  rw [if_pos (hyon _)] at hy
  dsimp only at hy ⊢
  rw [hsame] at hy
  rw [hym, hya, List.map_cons, List.map_cons] at hy ⊢
  obtain ⟨off, hall, hy⟩ := late_frame hyo hy
  have hoff : off (t p) = true := by
    rw [List.all_eq_true] at hall
    exact hall _ (List.mem_map.2 ⟨_, hpl, rfl⟩)
  refine sem_mono hy fun r m1 ⟨hK, hfr⟩ => ?_
  rw [if_pos (hxon _), hget]
  refine hld m1 _ (fun o c hpc => ?_) ?_
  · refine hfr o c ?_
    rw [hpc] at hoff
    exact hoff
  · rw [← putT_comm t v r a2]
    exact hK

/-- Operations by their numbers, in a given order. -/
def vrunL (P : Program) (G : Ground) (base : Nat) (L : List VI) (K : St → Prop) : List Nat → St → Prop
  | [], s => K s
  | i :: r, s => match L[i]? with
    | some vi => vstep P G base i vi s (vrunL P G base L K r)
    | none => vrunL P G base L K r s
theorem vrunL_range {L : List VI} : ∀ (n i : Nat) (s : St), i + n = L.length → vrun P G base i (L.drop i) s K → vrunL P G base L K (List.range' i n) s
  | 0, i, s, hi, h => by rw [List.drop_of_length_le (by omega), vrun] at h; exact h
  | n + 1, i, s, hi, h => by
    have hlt : i < L.length := by omega
    rw [List.drop_eq_getElem_cons hlt, vrun] at h
    rw [List.range'_succ, vrunL, List.getElem?_eq_getElem hlt]
    exact vstep_mono h fun s' hh => vrunL_range n (i + 1) s' (by omega) hh
theorem vstep_keep {i j : Nat} {x : VI} (hij : i ≠ j) (hs : x.op.isMem = false ∨ (∃ anc, x.mode = some anc) ∨ (x.mode = none ∧ ∃ f js, x.op = .callL f js ∧ j ∈ js)) (h0 : s.m.obj (base + j) = none) (h1 : base + j < s.m.next) (h : vstep P G base i x s K) :
    vstep P G base i x s fun s' => K s' ∧ s'.m.obj (base + j) = none ∧ base + j < s'.m.next := by
  unfold vstep at h ⊢
  split at h
  · rename_i ho; rw [if_pos ho]; exact sem_keep hij hs h0 h1 h
  · rename_i ho; rw [if_neg ho]; exact ⟨h, h0, h1⟩
/-- One that may stand first is brought to the front. -/
theorem vrunL_front {L : List VI} {i : Nat} {vi : VI} (hi : L[i]? = some vi) (l2 : List Nat) : ∀ (l1 : List Nat) (s : St), (∀ x ∈ l1, x ≠ i ∧ ∀ vx, L[x]? = some vx → vx.apart vi = true ∧ (Swaps x i vx.mode vi.mode vx.op vi.op ∨ SwapL vx vi)) →
    ((∃ t z, vi.op = .alloc t z) → s.m.obj (base + i) = none ∧ base + i < s.m.next) → vrunL P G base L K (l1 ++ i :: l2) s → vstep P G base i vi s (vrunL P G base L K (l1 ++ l2))
  | [], s, _, _, h => by
    rw [List.nil_append, vrunL, hi] at h
    exact h
  | x :: l1, s, hx, hfr, h => by
    rw [List.cons_append, vrunL] at h
    have ih := fun s' => vrunL_front hi l2 l1 s' fun y hy => hx y (List.mem_cons_of_mem _ hy)
    cases hL : L[x]? with
    | none =>
      rw [hL] at h
      refine vstep_mono (ih s hfr h) fun s' hh => ?_
      rw [List.cons_append, vrunL, hL]; exact hh
    | some vx =>
      rw [hL] at h
      obtain ⟨hne, hx2⟩ := hx x (List.mem_cons_self ..)
      obtain ⟨hap, hsw⟩ := hx2 vx hL
      rcases hsw with hsw | hsw
      rotate_left
      · have hna : ¬ ∃ t z, vi.op = .alloc t z := by
          obtain ⟨_, _, _, hyo, _⟩ := hsw
          rintro ⟨t, z, e⟩
          rcases hyo with ⟨e1, sz, b, hyo⟩ | ⟨n, hyo⟩ <;> rw [hyo] at e <;> cases e
        refine vstep_mono (vstep_swapL hap hsw (vstep_mono h fun s' hh => ih s' (fun x => absurd x hna) hh)) fun s' hh => ?_
        rw [List.cons_append, vrunL, hL]; exact hh
      have h2 : vstep P G base x vx s fun s' => vrunL P G base L K (l1 ++ i :: l2) s' ∧ ((∃ t z, vi.op = .alloc t z) → s'.m.obj (base + i) = none ∧ base + i < s'.m.next) := by
        by_cases ha : ∃ t z, vi.op = .alloc t z
        · obtain ⟨g1, g2⟩ := hfr ha
          refine vstep_mono (vstep_keep (j := i) hne ?_ g1 g2 h) fun s' ⟨k1, k2⟩ => ⟨k1, fun _ => k2⟩
          obtain ⟨t, z, ha⟩ := ha
          rcases hsw with a | a | ⟨anc, anc', a, _⟩ | ⟨a, b, _⟩
          · exact .inl a
          · rw [ha] at a; cases a
          · exact .inr (.inl ⟨anc, a⟩)
          · exact .inr (.inr ⟨a, b⟩)
        · exact vstep_mono h fun s' k1 => ⟨k1, fun x => absurd x ha⟩
      refine vstep_mono (vstep_swap hne hap hsw hfr (vstep_mono h2 fun s' hh => ih s' hh.2 hh.1)) fun s' hh => ?_
      rw [List.cons_append, vrunL, hL]; exact hh
end
end Go.Proofs.YtdefefeifcdogaaGreat
/-! Regions that draw their order, code, and functions: what is shown of values by numbers holds of the machine. Nothing is proved of the program here. -/
namespace Go.Proofs.YtdefefeifcdogaaGreat
open Go.RowKit

section
variable {P : Program} {bx : Nat → Bool} {G : Ground} {E : Env} {nt : Nat} {s : St} {a : Act} {w : World} {B : Nat} {ro : Option Nat}

/-- What is not listed yet, in the text's order. -/
def todo (n : Nat) (listed : Array Bool) : List Nat := (List.range n).filter fun i => !listed.getD i true

theorem todo_split {n i : Nat} {listed : Array Bool} (hi : i ∈ todo n listed) (hs : listed.size = n) : ∃ l1 l2, todo n listed = l1 ++ i :: l2 ∧ (∀ x ∈ l1, x < i ∧ x ∈ todo n listed) ∧ todo n (listed.setIfInBounds i true) = l1 ++ l2 := by
  have hin : i < n := by unfold todo at hi; rw [List.mem_filter, List.mem_range] at hi; exact hi.1
  have hni : listed.getD i true = false := by unfold todo at hi; rw [List.mem_filter] at hi; simpa using hi.2
  refine ⟨(List.range i).filter fun j => !listed.getD j true, (List.range' (i + 1) (n - i - 1)).filter fun j => !listed.getD j true, ?_, ?_, ?_⟩
  · have e : List.range n = List.range i ++ i :: List.range' (i + 1) (n - i - 1) := by
      rw [List.range_eq_range', List.range_eq_range', ← List.range'_succ, show n - i - 1 + 1 = n - i by omega]
      have := List.range'_append_1 (s := 0) (m := i) (n := n - i)
      rw [Nat.zero_add, show i + (n - i) = n by omega] at this
      exact this.symm
    unfold todo
    rw [e, List.filter_append, List.filter_cons, if_pos (by simp [hni])]
  · intro x hx
    rw [List.mem_filter, List.mem_range] at hx
    unfold todo
    rw [List.mem_filter, List.mem_range]
    exact ⟨hx.1, by omega, hx.2⟩
  · have e : List.range n = List.range i ++ i :: List.range' (i + 1) (n - i - 1) := by
      rw [List.range_eq_range', List.range_eq_range', ← List.range'_succ, show n - i - 1 + 1 = n - i by omega]
      have := List.range'_append_1 (s := 0) (m := i) (n := n - i)
      rw [Nat.zero_add, show i + (n - i) = n by omega] at this
      exact this.symm
    unfold todo
    have hii : (listed.setIfInBounds i true).getD i true = true := by simp [hs, hin]
    rw [e, List.filter_append, List.filter_cons, if_neg (by simp [hii])]
    congr 1
    · refine List.filter_congr fun x hx => ?_
      rw [List.mem_range] at hx
      rw [getD_set_ne true (by omega)]
    · refine List.filter_congr fun x hx => ?_
      rw [List.mem_range'_1] at hx
      rw [getD_set_ne true (by omega)]

theorem stTgt_mem {anc : List Nat} {l : List VI} {i a : Nat} (h : stTgt anc l i = some a) : a < i ∧ ordered anc a i = true := by
  unfold stTgt at h
  split at h
  · split at h
    · split at h
      · have h1 := List.mem_of_find?_eq_some h
        have h2 := List.find?_some h
        rw [List.mem_range] at h1
        rw [Bool.and_eq_true] at h2
        exact ⟨h1, h2.1⟩
      · cases h
    · cases h
  · cases h
theorem modeC_mem {anc : List Nat} {l : List VI} {i a : Nat} {op : VO} (h : a ∈ modeC anc l i op) : a < i ∧ ordered anc a i = true := by
  have gen : a ∈ (List.range i).filter (fun j => ordered anc j i) → a < i ∧ ordered anc a i = true := fun h => by
    rw [List.mem_filter, List.mem_range] at h; exact h
  unfold modeC at h
  split at h
  · rw [Option.mem_toList] at h; exact stTgt_mem h
  · split at h
    · cases h
    · exact gen h
  · exact gen h
theorem modeL_mem {anc : List Nat} {l : List VI} {i a : Nat} {op : VO} (h : a ∈ modeL anc l i op) : a < i ∧ ordered anc a i = true := by
  unfold modeL at h
  rw [List.mem_filter] at h
  exact modeC_mem h.1
theorem beside_modeL {anc : List Nat} {l : List VI} {x i : Nat} {vx vi : VI} (hx : l[x]? = some vx) (hi : l[i]? = some vi) (hxl : x < l.length) (hil : i < l.length) (hux : unord anc l x i = true) (hui : unord anc l i x = true) :
    beside vx.op (modeL anc l x vx.op) vi.op (modeL anc l i vi.op) := by
  unfold beside
  split
  · rename_i n hop
    intro a ha ha'
    unfold modeL at ha ha'
    rw [List.mem_filter] at ha ha'
    have h1 := ha.1
    unfold modeC at h1
    rw [hop] at h1
    simp only [Option.mem_toList] at h1
    have h2 := ha'.2
    rw [Bool.not_eq_true', List.any_eq_false] at h2
    exact h2 x (List.mem_range.2 hxl) (by rw [hui, h1]; simp)
  · rename_i e sz b hop
    cases ht : vi.op.tame with
    | true => exact .inr rfl
    | false =>
      left
      unfold modeL modeC
      rw [hop]
      simp only
      rw [if_pos]
      · rfl
      · rw [List.any_eq_true]
        exact ⟨i, List.mem_range.2 hil, by rw [hux, hi]; simp [ht]⟩
  · trivial

/-- Any order that the edges allow. -/
theorem lateC_spec {anc : List Nat} {l : List VI} {i : Nat} {f : FuncId} (h : lateC anc l i = some f) : (∃ vi, l[i]? = some vi ∧ vi.op = .call f) ∧ True ∧ ∀ j, j < l.length → unord anc l i j = true → i < j ∧ isAlc l j = true := by
  unfold lateC at h
  split at h
  · rename_i vi hv
    split at h
    · rename_i f0 hop
      split at h
      · rename_i hc
        cases h
        rw [Bool.and_eq_true, List.all_eq_true] at hc
        refine ⟨⟨vi, hv, hop⟩, trivial, fun j hj hu => ?_⟩
        have := hc.2 j (List.mem_range.2 hj)
        rw [hu] at this
        simpa using this
      · cases h
    · cases h
  · cases h
theorem loadP_spec {l : List VI} {j : Nat} {o : Opd} (h : loadP l j = some o) : ∃ vj p, l[j]? = some vj ∧ vj.guard = none ∧ ((vj.op = .ld1 ∧ vj.args = [.t p]) ∨ (vj.op = .ld1W ∧ ∃ r, vj.args = [.t r, .t p])) ∧ o = .t p := by
  unfold loadP at h
  split at h
  · rename_i vj hv
    split at h
    · rename_i p h1 h2 h3
      cases h
      exact ⟨vj, p, hv, h2, .inl ⟨h1, h3⟩, rfl⟩
    · rename_i r p h1 h2 h3
      cases h
      exact ⟨vj, p, hv, h2, .inr ⟨h1, r, h3⟩, rfl⟩
    · cases h
  · cases h
/-- What such an operation becomes. -/
def LtOp (op w : VO) : Prop := (∃ e s b, op = .appM e s b ∧ w = .appL e s b) ∨ ∃ n, op = .st n ∧ w = .stL n
theorem lateO_spec {anc : List Nat} {l : List VI} {i : Nat} {op w : VO} (h : lateO anc l i op = some w) : LtOp op w := by
  unfold lateO at h
  split at h
  · cases h; exact .inl ⟨_, _, _, rfl, rfl⟩
  · split at h
    · split at h
      · cases h; exact .inr ⟨_, rfl, rfl⟩
      · cases h
    · cases h
  · cases h
theorem lateM_spec {anc : List Nat} {l : List VI} {i : Nat} {w : VO} (h : lateM anc l i = some w) : (∃ vi x y, l[i]? = some vi ∧ LtOp vi.op w ∧ vi.guard = none ∧ vi.args = [x, y]) ∧ ∀ j, j < l.length → unord anc l i j = true → j < i ∧ ∃ o, loadP l j = some o := by
  unfold lateM at h
  split at h
  · rename_i vi hv
    split at h
    · rename_i o x y h1 h2 h3
      split at h
      · rename_i hc
        cases h
        rw [Bool.and_eq_true, List.all_eq_true] at hc
        refine ⟨⟨vi, x, y, hv, lateO_spec h1, h2, h3⟩, fun j hj hu => ?_⟩
        have := hc.2 j (List.mem_range.2 hj)
        rw [hu] at this
        simp only [Bool.not_true, Bool.false_or, Bool.and_eq_true, decide_eq_true_eq, Option.isSome_iff_exists] at this
        exact this
      · cases h
    · cases h
  · cases h
theorem lateM_lateC {anc : List Nat} {l : List VI} {i : Nat} {w : VO} (h : lateM anc l i = some w) : lateC anc l i = none := by
  obtain ⟨⟨vi, x, y, h1, h2, _⟩, _⟩ := lateM_spec h
  unfold lateC
  rw [h1]
  rcases h2 with ⟨e, s, b, h2, _⟩ | ⟨n, h2, _⟩ <;> simp only [h2]
theorem lateC_lateM {anc : List Nat} {l : List VI} {i : Nat} {f : FuncId} (h : lateC anc l i = some f) : lateM anc l i = none := by
  cases hm : lateM anc l i with
  | none => rfl
  | some w => rw [lateM_lateC hm] at h; cases h
theorem isAlc_op {l : List VI} {j : Nat} {vj : VI} (hj : l[j]? = some vj) (h : isAlc l j = true) : ∃ t z, vj.op = .alloc t z := by
  unfold isAlc at h
  rw [hj] at h
  simp only at h
  split at h
  · rename_i t z e; exact ⟨t, z, e⟩
  · cases h
theorem opL_none {anc : List Nat} {l : List VI} {i : Nat} {op : VO} (h : lateC anc l i = none) (hm : lateM anc l i = none) : opL anc l i op = op := by unfold opL; rw [h, hm]
theorem mdL_none {anc : List Nat} {l : List VI} {i : Nat} (h : lateC anc l i = none) (hm : lateM anc l i = none) : mdL anc l i = modeOf anc l i := by unfold mdL; rw [h, hm]
theorem argL_none {anc : List Nat} {l : List VI} {i : Nat} {args : List Opd} (hm : lateM anc l i = none) : argL anc l i args = args := by unfold argL; rw [hm]
theorem opL_isMem {anc : List Nat} {l : List VI} {i : Nat} {v : VI} (hv : l[i]? = some v) : (opL anc l i v.op).isMem = v.op.isMem := by
  cases h : lateC anc l i with
  | none =>
    cases hm : lateM anc l i with
    | none => rw [opL_none h hm]
    | some w =>
      obtain ⟨⟨vi, x, y, h1, h2, _⟩, _⟩ := lateM_spec hm
      rw [hv] at h1; cases h1
      unfold opL; rw [h, hm]
      rcases h2 with ⟨e, s, b, h2, rfl⟩ | ⟨n, h2, rfl⟩ <;> rw [h2] <;> rfl
  | some f =>
    obtain ⟨⟨vi, h1, h2⟩, _⟩ := lateC_spec h
    rw [hv] at h1; cases h1
    unfold opL; rw [h, h2]; rfl
theorem opL_makes {anc : List Nat} {l : List VI} {i : Nat} {v : VI} (hv : l[i]? = some v) : (opL anc l i v.op).makes = v.op.makes := by
  cases h : lateC anc l i with
  | none =>
    cases hm : lateM anc l i with
    | none => rw [opL_none h hm]
    | some w =>
      obtain ⟨⟨vi, x, y, h1, h2, _⟩, _⟩ := lateM_spec hm
      rw [hv] at h1; cases h1
      unfold opL; rw [h, hm]
      rcases h2 with ⟨e, s, b, h2, rfl⟩ | ⟨n, h2, rfl⟩ <;> rw [h2] <;> rfl
  | some f =>
    obtain ⟨⟨vi, h1, h2⟩, _⟩ := lateC_spec h
    rw [hv] at h1; cases h1
    unfold opL; rw [h, h2]; rfl
theorem vstep_unL {anc : List Nat} {l : List VI} {base i : Nat} {v : VI} (hv : l[i]? = some v) {s : St} {K : St → Prop} (h : vstep P G base i ⟨v.dst, v.guard, opL anc l i v.op, argL anc l i v.args, mdL anc l i⟩ s K) : ∃ md, vstep P G base i ⟨v.dst, v.guard, v.op, v.args, md⟩ s K := by
  cases hl : lateC anc l i with
  | none =>
    cases hm : lateM anc l i with
    | none => rw [opL_none hl hm, argL_none hm] at h; exact ⟨_, h⟩
    | some w =>
      obtain ⟨⟨vi, x, y, h1, h2, h3, h4⟩, _⟩ := lateM_spec hm
      rw [hv] at h1; cases h1
      refine ⟨none, ?_⟩
      have e1 : opL anc l i v.op = w := by unfold opL; rw [hl, hm]
      have e2 : mdL anc l i = none := by unfold mdL; rw [hl, hm]
      have e3 : argL anc l i v.args = x :: y :: loadsP anc l i := by unfold argL; rw [hm, h4]; rfl
      rw [e1, e2, e3] at h
      rcases h2 with ⟨e, sz, b, h2, rfl⟩ | ⟨n, h2, rfl⟩
      · rw [h2, h4]
        unfold vstep at h ⊢
        split at h
        · rename_i ho
          rw [if_pos (show (⟨v.dst, v.guard, .appM e sz b, [x, y], none⟩ : VI).on s = true from ho)]
          simp only [sem, List.map_cons, List.map_nil] at h ⊢
          exact h.2
        · rename_i ho
          rw [if_neg (show ¬ (⟨v.dst, v.guard, .appM e sz b, [x, y], none⟩ : VI).on s = true from ho)]
          exact h
      · rw [h2, h4]
        unfold vstep at h ⊢
        split at h
        · rename_i ho
          rw [if_pos (show (⟨v.dst, v.guard, .st n, [x, y], none⟩ : VI).on s = true from ho)]
          rw [List.map_cons, List.map_cons] at h ⊢
          rw [List.map_nil]
          simp only [sem] at h ⊢
          split at h
          · rename_i bi o vv pp heq
            rw [List.cons.injEq, List.cons.injEq] at heq
            rw [heq.1, heq.2.1]
            have h := h.2
            split at h
            · rename_i cs t ho2
              simp only [ho2]
              exact ⟨rfl, h.1.1, h.1.2.1, h.1.2.2, h.2⟩
            · exact h.elim
          · exact h.elim
        · rename_i ho
          rw [if_neg (show ¬ (⟨v.dst, v.guard, .st n, [x, y], none⟩ : VI).on s = true from ho)]
          exact h
  | some f =>
    obtain ⟨⟨vi, h1, h2⟩, _⟩ := lateC_spec hl
    rw [hv] at h1; cases h1
    refine ⟨none, ?_⟩
    have e1 : opL anc l i v.op = .callL f (lates l i) := by unfold opL; rw [hl]
    have e2 : mdL anc l i = none := by unfold mdL; rw [hl]
    rw [e1, e2, argL_none (lateC_lateM hl)] at h
    rw [h2]
    unfold vstep at h ⊢
    split at h
    · rename_i ho
      rw [if_pos (show (⟨v.dst, v.guard, .call f, v.args, none⟩ : VI).on s = true from ho)]
      simp only [sem] at h ⊢
      obtain ⟨vs', Post, a, b, ⟨r0, m0, c1, c2⟩, d⟩ := h
      exact ⟨vs', fun r m' => Post r m' ∧ KeepL base (lates l i) s.m m', a, b.keeps.mono fun r m' ⟨x1, x2, x3⟩ => ⟨x1, KeepL.of x2 x3⟩, ⟨r0, m0, c1, c2⟩, fun r m' ⟨x1, x2⟩ => d r m' x1 x2⟩
    · rename_i ho
      rw [if_neg (show ¬ (⟨v.dst, v.guard, .call f, v.args, none⟩ : VI).on s = true from ho)]
      exact h
theorem witL_or (anc : List Nat) (l : List VI) (j : Nat) (v : VI) : witL anc l j v = v ∨ ∃ p q, v.op = .ld1 ∧ v.args = [.t p] ∧ witL anc l j v = ⟨v.dst, v.guard, .ld1W, [.t p, .t q], v.mode⟩ := by
  unfold witL
  split
  · split
    · rename_i p q h1 h2 h3
      exact .inr ⟨p, q, h1, h2, rfl⟩
    · exact .inl rfl
  · exact .inl rfl
theorem witsL_length {anc : List Nat} {l : List VI} : (witsL anc l).length = l.length := by simp [witsL]
theorem witsL_get {anc : List Nat} {l : List VI} {j : Nat} {v : VI} (h : l[j]? = some v) : (witsL anc l)[j]? = some (witL anc l j v) := by
  unfold witsL
  rw [List.getElem?_map, List.getElem?_zipIdx, h]
  simp
theorem witL_makes (anc : List Nat) (l : List VI) (j : Nat) (v : VI) : (witL anc l j v).op.makes = v.op.makes := by
  rcases witL_or anc l j v with h | ⟨p, q, h1, _, h⟩
  · rw [h]
  · rw [h, h1]; rfl
theorem vstep_wit {anc : List Nat} {l : List VI} {base i j : Nat} {v : VI} {md : Option (List Nat)} {s : St} {K : St → Prop} (h : vstep P G base i ⟨(witL anc l j v).dst, (witL anc l j v).guard, (witL anc l j v).op, (witL anc l j v).args, md⟩ s K) :
    vstep P G base i ⟨v.dst, v.guard, v.op, v.args, md⟩ s K := by
  rcases witL_or anc l j v with e | ⟨p, q, h1, h2, e⟩
  · rw [e] at h; exact h
  · rw [e] at h
    rw [h1, h2]
    unfold vstep at h ⊢
    split at h
    · rename_i ho
      rw [if_pos (show (⟨v.dst, v.guard, .ld1, [.t p], md⟩ : VI).on s = true from ho)]
      simp only [List.map_cons, List.map_nil, sem] at h ⊢
      split at h
      · rename_i i' o' j' o2 heq
        rw [List.cons.injEq] at heq
        rw [heq.1]
        exact h.2
      · exact h.elim
    · rename_i ho
      rw [if_neg (show ¬ (⟨v.dst, v.guard, .ld1, [.t p], md⟩ : VI).on s = true from ho)]
      exact h
theorem draw_sound {ops : Array Oper} {Q : Exit → Act → World → Prop} {base : Nat} {Lr L0 L : List VI} (hLr : ops.toList.mapM (cvOne P bx G.tab nt ops) = some Lr) (hW : L0 = witsL (ancs ops) Lr) (hap : apartAll L (ancs ops) = true) (hbk : edgesBack ops = true)
    (hLe : L = L0.zipIdx.map fun p => ⟨p.1.dst, p.1.guard, opL (ancs ops) L0 p.2 p.1.op, argL (ancs ops) L0 p.2 p.1.args, mdL (ancs ops) L0 p.2⟩) {K : St → Prop} :
    ∀ (fuel : Nat) (listed : Array Bool), listed.size = ops.size → (todo ops.size listed).length = fuel → (∀ j x, j < ops.size → listed.getD j true = true → ordered (ancs ops) x j = true → listed.getD x true = true) →
      ∀ (s : St) (E : Env) (a : Act) (w : World), Holds B G E nt s a w → (∀ j, j ∈ todo ops.size listed → (∃ vi, L[j]? = some vi ∧ vi.op.makes = true) → Pend E s.m (base + j)) → vrunL P G base L K (todo ops.size listed) s →
      (∀ s' a' w' E', K s' → Holds B G E' nt s' a' w' → Step (fun x => base ≤ x) E s.m w E' s'.m w' → Q .normal a' w') → wpAnyIn (fen ro) 0 P .any ops Q fuel listed a w := by
  have hlr : Lr.length = ops.size := by have := congrArg List.length (mapM_some hLr); simpa using this.symm
  have hl : L0.length = ops.size := by rw [hW, witsL_length, hlr]
  have hLget : ∀ (j : Nat) (vi : VI), L0[j]? = some vi → L[j]? = some (⟨vi.dst, vi.guard, opL (ancs ops) L0 j vi.op, argL (ancs ops) L0 j vi.args, mdL (ancs ops) L0 j⟩ : VI) := by
    intro j vi hj
    rw [hLe, List.getElem?_map, List.getElem?_zipIdx, hj]
    simp
  have hback : ∀ (i : Nat) (hi : i < ops.size), ∀ e ∈ ops[i].after.toList, Region.binds .any e = true → e.on < i := by
    intro i hi e he hb
    unfold edgesBack at hbk
    rw [List.all_eq_true] at hbk
    have := hbk (ops[i], i) (by rw [List.mem_zipIdx_iff_getElem?]; simp [hi])
    simp only [List.all_eq_true] at this
    have h1 := this e he
    rw [hb] at h1
    simpa using h1
  intro fuel
  induction fuel with
  | zero =>
    intro listed hls hlen hcl s E a w hH hp h hn
    have hnil : todo ops.size listed = [] := List.eq_nil_of_length_eq_zero hlen
    rw [hnil, vrunL] at h
    refine ⟨?_, hn s a w E h hH (Step.refl _ _ _ _)⟩
    apply List.eq_nil_iff_forall_not_mem.2
    intro i hi
    rw [mem_ready] at hi
    obtain ⟨h1, o, ho, _⟩ := hi
    have : i ∈ todo ops.size listed := by
      unfold todo
      rw [List.mem_filter, List.mem_range]
      exact ⟨(Array.getElem?_eq_some_iff.1 ho).1, by simp [h1]⟩
    rw [hnil] at this; cases this
  | succ fuel ih =>
    intro listed hls hlen hcl s E a w hH hp h hn
    refine ⟨fun hr => ?_, fun i hi => ?_⟩
    · -- the least of what is left is ready
      exfalso
      cases ht : todo ops.size listed with
      | nil => rw [ht] at hlen; simp at hlen
      | cons i r =>
        have hi : i ∈ todo ops.size listed := by rw [ht]; exact List.mem_cons_self ..
        obtain ⟨l1, l2, h1, h2, _⟩ := todo_split hi hls
        have hl1 : ∀ x, x < i → listed.getD x true = true := by
          intro x hx
          have hin : i < ops.size := by unfold todo at hi; rw [List.mem_filter, List.mem_range] at hi; exact hi.1
          cases hg : listed.getD x true with
          | true => rfl
          | false =>
            have hx' : x ∈ todo ops.size listed := by
              unfold todo
              rw [List.mem_filter, List.mem_range]
              exact ⟨by omega, by simp [hg]⟩
            have hso : (todo ops.size listed).Pairwise (· < ·) := by
              unfold todo
              exact List.Pairwise.filter _ List.pairwise_lt_range
            rw [ht] at hx' hso
            rcases List.mem_cons.1 hx' with rfl | hx'
            · omega
            · have := (List.pairwise_cons.1 hso).1 x hx'; omega
        have hin : i < ops.size := by unfold todo at hi; rw [List.mem_filter, List.mem_range] at hi; exact hi.1
        have hni : listed.getD i true = false := by unfold todo at hi; rw [List.mem_filter] at hi; simpa using hi.2
        have : i ∈ Region.ready .any ops listed := by
          rw [mem_ready]
          refine ⟨hni, ops[i], Array.getElem?_eq_getElem hin, fun e he hb => ?_⟩
          have hlt := hback i hin e (by simpa using he) hb
          have h3 := hl1 e.on hlt
          have : e.on < listed.size := by omega
          simp [this] at h3 ⊢
          exact h3
        rw [hr] at this; cases this
    · rw [mem_ready] at hi
      obtain ⟨hni, o, ho, hed⟩ := hi
      have hin : i < ops.size := (Array.getElem?_eq_some_iff.1 ho).1
      have hit : i ∈ todo ops.size listed := by
        unfold todo
        rw [List.mem_filter, List.mem_range]
        exact ⟨hin, by simp [hni]⟩
      obtain ⟨l1, l2, h1, h2, h3⟩ := todo_split hit hls
      have hoi : ops[i] = o := by have := (Array.getElem?_eq_some_iff.1 ho).2; exact this
      -- what must stand before i is listed
      have hanc : ∀ x, ordered (ancs ops) x i = true → listed.getD x true = true := by
        intro x hx
        obtain ⟨e, he, hb, hx2⟩ := ancs_spec hin hx
        have h4 := hed e (by rw [← hoi]; simpa using he) hb
        have hlt : e.on < listed.size := by
          rcases Nat.lt_or_ge e.on listed.size with h5 | h5
          · exact h5
          · simp [Array.getElem?_eq_none h5] at h4
        have h5 : listed.getD e.on true = true := by simp [hlt] at h4 ⊢; exact h4
        rcases hx2 with rfl | hx2
        · exact h5
        · exact hcl e.on x (by omega) h5 hx2
      have hi0 : i < L0.length := by omega
      have hir : i < Lr.length := by omega
      have hci : cvOne P bx G.tab nt ops o = some Lr[i] := by
        have h5 : (ops.toList.map (cvOne P bx G.tab nt ops))[i]? = (Lr.map some)[i]? := by rw [mapM_some hLr]
        rw [List.getElem?_map, List.getElem?_map, List.getElem?_eq_getElem hir, List.getElem?_eq_getElem (by simpa using hin)] at h5
        rw [← hoi]; simpa using h5
      have hwi : L0[i] = witL (ancs ops) Lr i Lr[i] := by
        have h5 : L0[i]? = some (witL (ancs ops) Lr i Lr[i]) := by rw [hW]; exact witsL_get (List.getElem?_eq_getElem hir)
        rw [List.getElem?_eq_getElem hi0] at h5
        exact Option.some.inj h5
      have hLi := hLget i L0[i] (List.getElem?_eq_getElem hi0)
      have hfront : ∀ x ∈ l1, x ≠ i ∧ ∀ vx, L[x]? = some vx → vx.apart ⟨L0[i].dst, L0[i].guard, opL (ancs ops) L0 i L0[i].op, argL (ancs ops) L0 i L0[i].args, mdL (ancs ops) L0 i⟩ = true ∧
          (Swaps x i vx.mode (mdL (ancs ops) L0 i) vx.op (opL (ancs ops) L0 i L0[i].op) ∨ SwapL vx ⟨L0[i].dst, L0[i].guard, opL (ancs ops) L0 i L0[i].op, argL (ancs ops) L0 i L0[i].args, mdL (ancs ops) L0 i⟩) := by
        intro x hx
        obtain ⟨hxi, hxt⟩ := h2 x hx
        have hxn : listed.getD x true = false := by unfold todo at hxt; rw [List.mem_filter] at hxt; simpa using hxt.2
        have hno : ordered (ancs ops) x i = false := by
          cases hor : ordered (ancs ops) x i with
          | false => rfl
          | true => rw [hanc x hor] at hxn; cases hxn
        refine ⟨by omega, fun vx hvx => ?_⟩
        have hx0 : x < L0.length := by omega
        rw [hLget x L0[x] (List.getElem?_eq_getElem hx0)] at hvx
        cases hvx
        have hapx : (⟨L0[x].dst, L0[x].guard, opL (ancs ops) L0 x L0[x].op, argL (ancs ops) L0 x L0[x].args, mdL (ancs ops) L0 x⟩ : VI).apart ⟨L0[i].dst, L0[i].guard, opL (ancs ops) L0 i L0[i].op, argL (ancs ops) L0 i L0[i].args, mdL (ancs ops) L0 i⟩ = true := by
          have hLl : L.length = L0.length := by rw [hLe]; simp
          unfold apartAll at hap
          rw [List.all_eq_true] at hap
          have h5 := hap i (List.mem_range.2 (by omega))
          rw [List.all_eq_true] at h5
          have h6 := h5 x (List.mem_range.2 hxi)
          rw [hno, hLget x L0[x] (List.getElem?_eq_getElem hx0), hLi] at h6
          simpa using h6
        refine ⟨hapx, ?_⟩
        show Swaps x i (mdL (ancs ops) L0 x) (mdL (ancs ops) L0 i) (opL (ancs ops) L0 x L0[x].op) (opL (ancs ops) L0 i L0[i].op) ∨ SwapL ⟨L0[x].dst, L0[x].guard, opL (ancs ops) L0 x L0[x].op, argL (ancs ops) L0 x L0[x].args, mdL (ancs ops) L0 x⟩ ⟨L0[i].dst, L0[i].guard, opL (ancs ops) L0 i L0[i].op, argL (ancs ops) L0 i L0[i].args, mdL (ancs ops) L0 i⟩
        by_cases hm1 : L0[x].op.isMem = true
        · by_cases hm2 : L0[i].op.isMem = true
          · have hux : unord (ancs ops) L0 x i = true := by
              unfold unord
              rw [List.getElem?_eq_getElem hi0]
              have e1 : (i != x) = true := by simp; omega
              simp only [e1, hm2, Bool.true_and, if_neg (show ¬ i < x by omega), hno, Bool.not_false]
            have hui : unord (ancs ops) L0 i x = true := by
              unfold unord
              rw [List.getElem?_eq_getElem hx0]
              have e1 : (x != i) = true := by simp; omega
              simp only [e1, hm1, Bool.true_and, if_pos hxi, hno, Bool.not_false]
            cases hMx : lateM (ancs ops) L0 x with
            | some w =>
              have := ((lateM_spec hMx).2 i (by omega) hux).1
              omega
            | none =>
            cases hMi : lateM (ancs ops) L0 i with
            | some w =>
              right
              obtain ⟨⟨vi, xa, ya, k1, k2, k3, k4⟩, k5⟩ := lateM_spec hMi
              rw [List.getElem?_eq_getElem hi0] at k1; cases k1
              obtain ⟨_, o, k6⟩ := k5 x (by omega) hui
              obtain ⟨vj, p, n1, n3, n2, rfl⟩ := loadP_spec k6
              rw [List.getElem?_eq_getElem hx0] at n1; cases n1
              have hCx : lateC (ancs ops) L0 x = none := by unfold lateC; rw [List.getElem?_eq_getElem hx0]; rcases n2 with ⟨n2, _⟩ | ⟨n2, _⟩ <;> simp only [n2]
              refine ⟨n3, k3, ?_, ?_, p, ?_, xa, ya, loadsP (ancs ops) L0 i, ?_, ?_⟩
              · show mdL (ancs ops) L0 i = _
                unfold mdL; rw [lateM_lateC hMi, hMi]
              · have ew : opL (ancs ops) L0 i L0[i].op = w := by unfold opL; rw [lateM_lateC hMi, hMi]
                show (∃ e s b, opL (ancs ops) L0 i L0[i].op = .appL e s b) ∨ ∃ n, opL (ancs ops) L0 i L0[i].op = .stL n
                rw [ew]
                rcases k2 with ⟨e, s, b, _, rfl⟩ | ⟨n, _, rfl⟩
                · exact .inl ⟨e, s, b, rfl⟩
                · exact .inr ⟨n, rfl⟩
              · show (opL (ancs ops) L0 x L0[x].op = .ld1 ∧ argL (ancs ops) L0 x L0[x].args = [.t p]) ∨ (opL (ancs ops) L0 x L0[x].op = .ld1W ∧ ∃ r, argL (ancs ops) L0 x L0[x].args = [.t r, .t p])
                rw [opL_none hCx hMx, argL_none hMx]; exact n2
              · show argL (ancs ops) L0 i L0[i].args = _
                unfold argL; rw [hMi, k4]; rfl
              · unfold loadsP
                rw [List.mem_filterMap]
                exact ⟨x, List.mem_range.2 hx0, by rw [if_pos hui]; exact k6⟩
            | none =>
            left; right; right
            have hli : lateC (ancs ops) L0 i = none := by
              cases hli : lateC (ancs ops) L0 i with
              | none => rfl
              | some f =>
                have := (lateC_spec hli).2.2 x (by omega) hui
                omega
            cases hlx : lateC (ancs ops) L0 x with
            | some f =>
              right
              obtain ⟨_, _, h7⟩ := lateC_spec hlx
              have h8 := h7 i (by omega) hux
              have h9 := isAlc_op (List.getElem?_eq_getElem hi0) h8.2
              refine ⟨by unfold mdL; rw [hlx], ⟨f, lates L0 x, by unfold opL; rw [hlx], ?_⟩, ?_⟩
              · unfold lates
                rw [List.mem_filter, List.mem_range, Bool.and_eq_true, decide_eq_true_eq]
                exact ⟨hi0, h8⟩
              · obtain ⟨t, z, h9⟩ := h9
                exact ⟨t, z, by rw [opL_none hli hMi]; exact h9⟩
            | none =>
            left
            rw [opL_none hlx hMx, opL_none hli hMi, mdL_none hlx hMx, mdL_none hli hMi]
            refine ⟨modeL (ancs ops) L0 x L0[x].op, modeL (ancs ops) L0 i L0[i].op, ?_, ?_, ?_, ?_, ?_, ?_⟩
            · show modeOf (ancs ops) L0 x = _
              unfold modeOf
              rw [List.getElem?_eq_getElem hx0]
              simp only
              rw [if_pos]
              rw [hm1, Bool.true_and, List.any_eq_true]
              exact ⟨i, List.mem_range.2 hi0, hux⟩
            · unfold modeOf
              rw [List.getElem?_eq_getElem hi0]
              simp only
              rw [if_pos]
              rw [hm2, Bool.true_and, List.any_eq_true]
              exact ⟨x, List.mem_range.2 hx0, hui⟩
            · intro hc; have := (modeL_mem hc).1; omega
            · intro hc; rw [(modeL_mem hc).2] at hno; cases hno
            · exact beside_modeL (vx := L0[x]) (vi := L0[i]) (List.getElem?_eq_getElem hx0) (List.getElem?_eq_getElem hi0) hx0 hi0 hux hui
            · exact beside_modeL (vx := L0[i]) (vi := L0[x]) (List.getElem?_eq_getElem hi0) (List.getElem?_eq_getElem hx0) hi0 hx0 hui hux
          · left; right; left
            rw [opL_isMem (List.getElem?_eq_getElem hi0)]
            simpa using hm2
        · left; left
          rw [opL_isMem (List.getElem?_eq_getElem hx0)]
          simpa using hm1
      rw [h1] at h
      have hf := vrunL_front hLi l2 l1 s hfront (fun ⟨t, z, e⟩ => by
        have hP := hp i hit ⟨_, hLi, by rw [show (⟨L0[i].dst, L0[i].guard, opL (ancs ops) L0 i L0[i].op, argL (ancs ops) L0 i L0[i].args, mdL (ancs ops) L0 i⟩ : VI).op = .alloc t z from e]; rfl⟩
        exact ⟨hP.2.2.1, hP.1⟩) h
      obtain ⟨md, hf⟩ := vstep_unL (List.getElem?_eq_getElem hi0) hf
      rw [hwi] at hf
      have hf := vstep_wit hf
      refine vstep_sound (base := base) (vi' := ⟨Lr[i].dst, Lr[i].guard, Lr[i].op, Lr[i].args, md⟩) ho hci rfl rfl rfl rfl hH (fun hmk => hp i hit ⟨_, hLi, by
        show (opL (ancs ops) L0 i L0[i].op).makes = true
        rw [opL_makes (List.getElem?_eq_getElem hi0), hwi, witL_makes]; exact hmk⟩) hf ?_
      intro s' a' w' E' hK hH' hs
      have hls' : (listed.setIfInBounds i true).size = ops.size := by rw [Array.size_setIfInBounds]; exact hls
      have hgi : (listed.setIfInBounds i true).getD i true = true := by simp
      refine ih (listed.setIfInBounds i true) hls' ?_ ?_ s' E' a' w' hH' ?_ ?_ ?_
      · rw [h3]
        rw [h1, List.length_append, List.length_cons] at hlen
        rw [List.length_append]
        omega
      · intro j x hj hlj hor
        by_cases hji : j = i
        · subst hji
          by_cases hxj : j = x
          · subst hxj; exact hgi
          · rw [getD_set_ne true hxj]; exact hanc x hor
        · rw [getD_set_ne true (Ne.symm hji)] at hlj
          by_cases hxi : i = x
          · subst hxi; exact hgi
          · rw [getD_set_ne true hxi]; exact hcl j x hj hlj hor
      · intro j hj hmk
        have hji : j ≠ i := by
          rintro rfl
          unfold todo at hj
          rw [List.mem_filter, hgi] at hj
          simp at hj
        have hj' : j ∈ todo ops.size listed := by
          unfold todo at hj ⊢
          rw [List.mem_filter, getD_set_ne true (Ne.symm hji)] at hj
          rw [List.mem_filter]; exact hj
        exact (hp j hj' hmk).step hs (by omega)
      · rw [h3]; exact hK
      · intro s2 a2 w2 E2 hK2 hH2 hs2
        exact hn s2 a2 w2 E2 hK2 hH2 ((hs.weaken (fun x _ hx => by subst hx; omega)).trans hs2)
end
end Go.Proofs.YtdefefeifcdogaaGreat
/-! Code and functions: what is shown of values by numbers holds of the machine. Nothing is proved of the program here. -/
namespace Go.Proofs.YtdefefeifcdogaaGreat
open Go.RowKit

section
variable {P : Program} {bx : Nat → Bool} {G : Ground} {nt : Nat} {B : Nat} {ro : Option Nat}

/-- What is left of a world at an exit. -/
def After (B : Nat) (G : Ground) (nt : Nat) (E0 : Env) (m0 : Mm) (w0 : World) (Q : VX → St → Prop) (e : Exit) (a : Act) (w : World) : Prop :=
  ∃ s E, (match e with | .normal => Q .nrm s | .exit id => Q (.exit id) s | .ret => Q .ret s | _ => False) ∧ Holds B G E nt s a w ∧ Step NoX E0 m0 w0 E s.m w

theorem region_sound {ops : Array Oper} {draw : Bool} {id : Nat} {c : VC} (hc : cvRegion P bx G.tab nt ops draw = some c) {Q : VX → St → Prop} {s : St} {E E0 : Env} {m0 : Mm} {a : Act} {w w0 : World} (hH : Holds B G E nt s a w) (hS : Step NoX E0 m0 w0 E s.m w)
    (h : c.vx P G Q s) : (Code.region id ops draw).wpIn (fen ro) 0 P (After B G nt E0 m0 w0 Q) a w := by
  unfold cvRegion at hc
  split at hc
  · rename_i L0 hL0
    have hl : L0.length = ops.size := by have := congrArg List.length (mapM_some hL0); simpa using this.symm
    -- the numbers that are set aside
    have hskip : ∀ k, Holds B G E nt ⟨s.t, ⟨s.m.obj, s.m.next + k⟩⟩ a w := fun k => ⟨hH.T, hH.M.skip k, hH.G, ⟨hH.D.ex⟩⟩
    have hpend : ∀ j, (∃ vi, L0[j]? = some vi ∧ vi.op.makes = true) → Pend E ⟨s.m.obj, s.m.next + (if (L0.any (·.op.makes)) = true then L0.length else 0)⟩ (s.m.next + j) := by
      rintro j ⟨vi, hj, hmk⟩
      have hany : (L0.any (·.op.makes)) = true := List.any_eq_true.2 ⟨vi, List.mem_of_getElem? hj, hmk⟩
      have hjl : j < L0.length := (List.getElem?_eq_some_iff.1 hj).1
      have hf := hH.M.fresh (s.m.next + j) (by omega)
      refine ⟨?_, hf.1, hf.2.2, hf.2.1⟩
      show s.m.next + j < s.m.next + _
      rw [if_pos hany]; omega
    have hend : ∀ {s' a' w' E'} {k : Nat}, Q .nrm s' → Holds B G E' nt s' a' w' → Step (fun x => s.m.next ≤ x) E ⟨s.m.obj, s.m.next + k⟩ w E' s'.m w' → After B G nt E0 m0 w0 Q .normal a' w' := by
      intro s' a' w' E' k hQ hH' hs
      refine ⟨s', E', hQ, hH', hS.trans ?_⟩
      exact ⟨hs.le, Nat.le_trans (Nat.le_add_right _ _) hs.next, fun i hi _ => hs.oldφ i (Nat.lt_of_lt_of_le hi (Nat.le_add_right _ _)) (Nat.not_le.2 hi), fun i hi _ => hs.oldloc i (Nat.lt_of_lt_of_le hi (Nat.le_add_right _ _)) (Nat.not_le.2 hi), hs.os, hs.tape, hs.output, hs.drawn, hs.size, hs.kept, hs.blk, hs.newM⟩
    dsimp only at hc
    split at hc
    · rename_i hd
      subst hd
      split at hc
      · rename_i hh
        cases hc
        obtain ⟨hap, hbk, hmix⟩ := hh
        rw [VC.vx] at h
        have hLlen : ((witsL (ancs ops) L0).zipIdx.map fun p => (⟨p.1.dst, p.1.guard, opL (ancs ops) (witsL (ancs ops) L0) p.2 p.1.op, argL (ancs ops) (witsL (ancs ops) L0) p.2 p.1.args, mdL (ancs ops) (witsL (ancs ops) L0) p.2⟩ : VI)).length = (witsL (ancs ops) L0).length := by simp
        have h' := vrunL_range (P := P) (G := G) (base := s.m.next) (K := Q .nrm) ops.size 0 ⟨s.t, ⟨s.m.obj, s.m.next + (if (L0.any (·.op.makes)) = true then L0.length else 0)⟩⟩ (by rw [hLlen, witsL_length, hl, Nat.zero_add]) (by rw [List.drop_zero]; exact h)
        rw [← List.range_eq_range'] at h'
        have htodo : todo ops.size (Array.replicate ops.size false) = List.range ops.size := by
          unfold todo
          rw [List.filter_eq_self]
          intro i hi
          rw [List.mem_range] at hi
          simp [hi]
        refine wpIn_region_any hmix (draw_sound (Q := After B G nt E0 m0 w0 Q) (base := s.m.next) (K := Q .nrm) hL0 rfl hap hbk rfl ops.size (Array.replicate ops.size false) (by simp) (by rw [htodo]; simp) ?_ ⟨s.t, ⟨s.m.obj, s.m.next + (if (L0.any (·.op.makes)) = true then L0.length else 0)⟩⟩ E a { w with drawn := w.drawn + 1 } ⟨hH.T, (hH.M.skip _).drew, G.mono _ _ _ _ _ _ _ hH.M ((Step.refl NoX E s.m w).drew) hH.G, ⟨hH.D.ex⟩⟩ ?_ (by rw [htodo]; exact h') ?_)
        · intro j x hj hlj
          simp [hj] at hlj
        · rintro j _ ⟨vi, hj, hmk⟩
          refine hpend j ?_
          rw [List.getElem?_map, List.getElem?_zipIdx] at hj
          cases hv0 : L0[j]? with
          | none =>
            have hv : (witsL (ancs ops) L0)[j]? = none := by rw [List.getElem?_eq_none_iff] at hv0 ⊢; rw [witsL_length]; exact hv0
            rw [hv] at hj; simp at hj
          | some v =>
            have hv := witsL_get (anc := ancs ops) hv0
            rw [hv] at hj
            simp only [Option.map_some, Option.some.injEq] at hj
            subst hj
            have hmk2 : (opL (ancs ops) (witsL (ancs ops) L0) (0 + j) (witL (ancs ops) L0 j v).op).makes = true := hmk
            rw [Nat.zero_add, opL_makes hv, witL_makes] at hmk2
            exact ⟨v, rfl, hmk2⟩
        · intro s' a' w' E' hQ hH' hs
          exact hend hQ hH' { hs with drawn := Nat.le_trans (Nat.le_succ _) hs.drawn }
      · cases hc
    · rename_i hd
      cases hc
      have hd' : draw = false := by simpa using hd
      subst hd'
      rw [VC.vx] at h
      refine wpIn_region ?_
      rw [List.range_eq_range']
      refine vrun_sound hL0 (K := Q .nrm) (base := s.m.next) ops.size 0 (by omega) _ E a w (hskip _) (fun j _ hmk => hpend j hmk) (by rw [List.drop_zero]; exact h) ?_
      intro s' a' w' E' hQ hH' hs
      exact hend hQ hH' hs
  · cases hc

theorem loop_sound {F : Fence} {c : Code} {R : St → Act → World → Prop} {I : St → Prop} {μ : St → Nat} {Q : Exit → Act → World → Prop} {s : St} {a : Act} {w : World} (h0 : I s) (hR : R s a w)
    (round : ∀ s a w, I s → R s a w → c.wpIn F 0 P (fun e a' w' => match e with | .normal => ∃ s', (I s' ∧ μ s' < μ s) ∧ R s' a' w' | e => Q e a' w') a w) : (Code.loop c).wpIn F 0 P Q a w := by
  intro b k cs hro hb hr
  have key : ∀ n s a w, μ s = n → I s → R s a w → ∃ e a' w', Q e a' w' ∧ ArrivesIn (Machine.fenced P F) P (lone (b.atR a (.code c :: .inLoop c :: k)) cs w) b k cs e a' w' := by
    intro n
    induction n using Nat.strongRecOn with
    | _ n ih =>
      intro s a w hn hI hR
      obtain ⟨e, a₁, w₁, hq, harr⟩ := round s a w hI hR b (.inLoop c :: k) cs hro hb hr
      cases e with
      | normal =>
        obtain ⟨s', ⟨hI₁, hlt⟩, hR₁⟩ := hq
        obtain ⟨e₂, a₂, w₂, hq₂, harr₂⟩ := ih (μ s') (hn ▸ hlt) s' a₁ w₁ rfl hI₁ hR₁
        exact ⟨e₂, a₂, w₂, hq₂, .of_steps (StepsIn.trans harr (.one (fenced_calm hb hr rfl) stepR_inLoop)) harr₂⟩
      | exit id => exact ⟨_, a₁, w₁, hq, .pass (x := .inLoop c) rfl (fun _ _ => .inl (by simp)) harr⟩
      | goto l => exact ⟨_, a₁, w₁, hq, .pass (x := .inLoop c) rfl (fun _ _ => .inl (by simp)) harr⟩
      | ret => exact ⟨_, a₁, w₁, hq, .pass (x := .inLoop c) rfl (fun _ _ => .inl (by simp)) harr⟩
      | panic ch => exact ⟨_, a₁, w₁, hq, .pass (x := .inLoop c) rfl (fun _ _ => .inl (by simp)) harr⟩
      | outgrown => exact ⟨_, a₁, w₁, hq, .pass (x := .inLoop c) rfl (fun _ _ => .inl (by simp)) harr⟩
  obtain ⟨e, a', w', hq, harr⟩ := key _ s a w rfl h0 hR
  exact ⟨e, a', w', hq, .of_steps (.one (fenced_calm hb hr rfl) stepR_loop) harr⟩
theorem stepR_scope {b : Frame} {a : Act} {k : List Item} {cs : List Frame} {w : World} {c : Code} : step P (lone (b.atR a (.code (.scope c) :: k)) cs w) = .next (lone (b.atR a (.code c :: .inScope c :: k)) cs w) :=
  step_lone_go (by simp [stepG, stepG.exec, Frame.atR])
theorem stepR_inScope {b : Frame} {a : Act} {k : List Item} {cs : List Frame} {w : World} {c : Code} : step P (lone (b.atR a (.inScope c :: k)) cs w) = .next (lone (b.atR a k) cs w) :=
  step_lone_go (by simp [stepG, stepG.exec, Frame.atR])
theorem wpIn_scope {F : Fence} {c : Code} {Q : Exit → Act → World → Prop} {a : Act} {w : World} (h : c.wpIn F 0 P (Exit.noGoto Q) a w) : (Code.scope c).wpIn F 0 P Q a w := by
  intro b k cs hro hb hr
  obtain ⟨e, a₁, w₁, hq, harr⟩ := h b (.inScope c :: k) cs hro hb hr
  have st : StepsIn (Machine.fenced P F) P (lone (b.atR a (.code (.scope c) :: k)) cs w) (lone (b.atR a (.code c :: .inScope c :: k)) cs w) := .one (fenced_calm hb hr rfl) stepR_scope
  cases e with
  | normal => exact ⟨.normal, a₁, w₁, hq, StepsIn.trans st (StepsIn.trans harr (.one (fenced_calm hb hr rfl) stepR_inScope))⟩
  | goto l => exact hq.elim
  | exit id => exact ⟨_, a₁, w₁, hq, .of_steps st ⟨fun k' hk => harr.1 k' (by simp [exitTo, hk]), fun hr hk => harr.2 hr (by simp [exitTo, hk])⟩⟩
  | ret => exact ⟨_, a₁, w₁, hq, .of_steps (e := .ret) st harr⟩
  | panic ch => exact ⟨_, a₁, w₁, hq, .of_steps (e := .panic ch) st harr⟩
  | outgrown => exact ⟨_, a₁, w₁, hq, .of_steps (e := .outgrown) st harr⟩

/-! ### A loop over a function -/
theorem slots_ok {E : Env} {t : Nat → V} {a : Act} (hT : TmR E nt t a) : VRs E (slots nt t) a.tmps.toList := by
  refine VRs.of_get (by simp [slots, hT.size]) fun i v c hv hc => ?_
  unfold slots at hv
  rw [List.getElem?_map] at hv
  obtain ⟨j, hj, rfl⟩ := Option.map_eq_some_iff.1 hv
  have hi : i < nt := by have := (List.getElem?_eq_some_iff.1 hj).1; simpa using this
  rw [List.getElem?_range hi] at hj
  cases hj
  have h1 := hT.slot i hi
  rw [Array.getElem?_toList] at hc
  rwa [Array.getD_eq_getD_getElem?, hc] at h1
theorem Step.room {X : Nat → Prop} {E : Env} {m : Mm} {w : World} : Step X E m w E ⟨m.obj, m.next + 1⟩ w :=
  ⟨.refl E, Nat.le_add_right _ _, fun _ _ _ => rfl, fun _ _ _ h => ⟨fun _ => rfl, h⟩, rfl, rfl, rfl, Nat.le_refl _, Nat.le_refl _, fun _ _ _ => rfl, fun i _ h _ => ⟨i, h⟩, fun _ _ _ h => .inl h⟩
theorem Step.alloc {X : Nat → Prop} {E : Env} {m : Mm} {w : World} (o : Obj) : Step X E m w E m (w.alloc o) :=
  ⟨.refl E, Nat.le_refl _, fun _ _ _ => rfl, fun _ _ _ h => ⟨fun _ => rfl, h⟩, rfl, rfl, rfl, Nat.le_refl _, by simp, fun b hb _ => Below.heap_alloc w o b hb, fun i _ h _ => ⟨i, h⟩, fun _ _ _ h => .inl h⟩
/-- How the loop's record stands when the function has returned. -/
theorem rangeF_sound {f : Operand} {ps : Array Nat} {as bd : Code} {x : Opd} (hx : cvOpd G.tab nt f = some x) {Q : VX → St → Prop} {s : St} {E E0 : Env} {m0 : Mm} {a : Act} {w w0 : World} (hB : B ≤ w0.heap.size) (hH : Holds B G E nt s a w) (hS : Step NoX E0 m0 w0 E s.m w)
    (h : (VC.rangeF nt x ps as bd).vx P G Q s) : (Code.rangeFunc f ps as bd).wpIn (fen none) 0 P (After B G nt E0 m0 w0 Q) a w := by
  rw [VC.vx] at h
  have hv := opd_ok hH.T hH.G hx
  split at h
  case h_2 => exact h.elim
  rename_i g cs he
  obtain ⟨hcall, Post, hF, hK⟩ := h
  rw [he, VR] at hv
  obtain ⟨lb, hg, hlb⟩ := hv
  refine wpIn_rangeFunc ?_
  intro fn _
  obtain ⟨rec, hrec⟩ : ∃ rec : Loop, rec = { state := .ready, pending := none, fn, tmps := a.tmps, params := ps, assign := as, body := bd, defers := w.heap.size } := ⟨_, rfl⟩
  obtain ⟨W1, hW1⟩ : ∃ W1, (w.alloc (.deferred (some []))).alloc (.loop rec) = W1 := ⟨_, rfl⟩
  have hD1 : W1.heap[w.heap.size]? = some (.deferred (some [])) := by
    rw [← hW1]; exact (Below.heap_alloc _ _ _ (by simp)).trans (World.alloc_heap_new w _)
  -- memory as the function finds it
  have hm1 := (hH.M.skip 1).grow (w' := w.alloc (.deferred (some []))) fun b hb => Below.heap_alloc w _ b hb
  have hfr := hH.M.fresh s.m.next (Nat.le_refl _)
  obtain ⟨E1, hs2, hm2, hφ2⟩ := hm1.newOth (i := s.m.next) (Nat.lt_succ_self _) hfr.1 hfr.2.2 hfr.2.1 (x := .loop (slots nt s.t) ps as bd .ready) (o := .loop rec) ⟨rec, rfl, by rw [hrec]; exact slots_ok hH.T, by rw [hrec], by rw [hrec], by rw [hrec], by rw [hrec]; exact ⟨rfl, rfl⟩⟩
  rw [World.size_alloc] at hφ2
  rw [hW1] at hs2 hm2
  have hst1 : Step NoX E s.m w E1 ((⟨s.m.obj, s.m.next + 1⟩ : Mm).put s.m.next (.oth (.loop (slots nt s.t) ps as bd .ready))) W1 :=
    ((Step.room.trans (Step.alloc _)).trans hs2).weaken fun i hi e => by subst e; exact absurd hi (Nat.lt_irrefl _)
  have hnD : ∀ j, ¬ BlkOf E1 ((⟨s.m.obj, s.m.next + 1⟩ : Mm).put s.m.next (.oth (.loop (slots nt s.t) ps as bd .ready))) j w.heap.size := fun j hj => by
    obtain ⟨q, hq⟩ := hs2.blk j _ hj (by simp)
    exact absurd ((hH.M.skip 1).blk_lt hq) (Nat.lt_irrefl _)
  refine ⟨w.heap.size + 1, [markOf w.heap.size], W1, { target := .fn (.func g) lb, args := #[.func (.yield (w.heap.size + 1)) #[] #[]] }, W1, g, #[.func (.yield (w.heap.size + 1)) #[] #[]] ++ lb, W1, ?_, ?_, ?_, ?_, (fun h => by cases h), ?_⟩
  · rw [← hW1, hrec]; exact run_enterLoop_outer _ _ _ _ _
  · simp only [resolve, hg]
    simp [go_sem]
  · intro f' _; trivial
  · simp only [invoke, callFunc_run hcall, Sem.run_bind, Sem.run_pure, Result.andThen_ok, Array.empty_append]
  have hCalls : Calls P g (#[.func (.yield (w.heap.size + 1)) #[] #[]] ++ lb) W1 (rangePost (fen none) 0 P (w.heap.size + 1) (After B G nt E0 m0 w0 Q) { a with defers := [markOf w.heap.size] ++ a.defers }) := by
    refine (hF E1 W1 _ (G.mono _ _ _ _ _ _ _ hH.M hst1 hH.G) hm2 ?_).mono ?_
    · rw [Array.toList_append]
      show VRs E1 _ (_ :: lb.toList)
      rw [VRs]
      exact ⟨_, _, rfl, by rw [VR]; exact ⟨_, hφ2, rfl⟩, VRs.mono hst1.le hlb⟩
    rintro e w3 ⟨v, r, m3, E3, rfl, hP, hs3, hm3, _⟩
    have hA := hK r m3 hP
    have hst3 := hst1.trans hs3
    unfold afterF at hA
    have key : ∀ (t1 : List V) (p1 : Array Nat) (c1 c2 : Code) (st : LSt), m3.obj s.m.next = some (.oth (.loop t1 p1 c1 c2 st)) → ∃ r3 : Loop, w3.heap[w.heap.size + 1]? = some (.loop r3) ∧ stR st r3.state r3.pending ∧
        ∀ w4, w4 = w3.putObj (w.heap.size + 1) (.loop { r3 with state := .exhausted }) → Holds B G E3 nt ⟨s.t, m3.del s.m.next⟩ { a with defers := [markOf w.heap.size] ++ a.defers } w4 ∧ Step NoX E0 m0 w0 E3 (m3.del s.m.next) w4 := by
      intro t1 p1 c1 c2 st ho
      obtain ⟨b, o, hb, hh, r3, rfl, _, _, _, _, hst⟩ := hm3.oth _ _ ho
      have hb' := hs3.le.φ _ _ hφ2
      rw [hb] at hb'
      cases hb'
      refine ⟨r3, hh, hst, fun w4 hw4 => ?_⟩
      subst hw4
      obtain ⟨hs4, hm4⟩ := hm3.loseOth ho hb (.loop { r3 with state := .exhausted })
      have hst4 := hst3.trans hs4
      refine ⟨⟨⟨hH.T.size, fun i hi => (hH.T.slot i hi).mono hst4.le⟩, hm4, G.mono _ _ _ _ _ _ _ hH.M hst4 hH.G, ?_⟩, hS.trans hst4⟩
      obtain ⟨ds, h1, h2, h3⟩ := hH.D.ex
      obtain ⟨h1', h2', h3'⟩ := ((Dfr.mk ⟨ds, h1, h2, h3⟩ : Dfr B E s.m w a).step hst4 (a' := a) rfl).ex.choose_spec
      refine ⟨w.heap.size :: ds, by show [markOf w.heap.size] ++ a.defers = _; rw [h1]; rfl, List.nodup_cons.2 ⟨fun hm => ?_, h2⟩, fun q hq => ?_⟩
      · exact absurd (heap_lt (h3 _ hm).2.1) (Nat.lt_irrefl _)
      · rcases List.mem_cons.1 hq with rfl | hq
        · have hlt1 : w.heap.size < W1.heap.size := heap_lt hD1
          have hD3 := (hs3.kept _ hlt1 hnD).trans hD1
          have hn3 : ∀ i, ¬ BlkOf E3 m3 i w.heap.size := fun i hi => by obtain ⟨q, hq⟩ := hs3.blk i _ hi hlt1; exact hnD q hq
          refine ⟨Nat.le_trans hB hS.size, (hs4.kept _ (heap_lt hD3) hn3).trans hD3, fun i hi => ?_⟩
          obtain ⟨q, hq⟩ := hs4.blk i _ hi (heap_lt hD3)
          exact hn3 q hq
        · obtain ⟨h4, h5, h6⟩ := h3 q hq
          have hlt := heap_lt h5
          exact ⟨h4, (hst4.kept q hlt h6).trans h5, fun i hi => by obtain ⟨j, hj⟩ := hst4.blk i q hi hlt; exact h6 j hj⟩
    split at hA
    · rename_i t1 p1 c1 c2 ho
      obtain ⟨r3, hh, ⟨hst, hpe⟩, hnext⟩ := key _ _ _ _ _ ho
      obtain ⟨hH4, hS4⟩ := hnext _ rfl
      refine ⟨none, _, (run_endLoop (P := P) hh (by rw [hst]; simp)).trans (congrArg (fun x => Result.ok x _) hpe), ?_⟩
      exact ⟨⟨s.t, m3.del s.m.next⟩, E3, hA, hH4, hS4⟩
    · rename_i t1 p1 c1 c2 ho
      obtain ⟨r3, hh, ⟨hst, hpe⟩, hnext⟩ := key _ _ _ _ _ ho
      obtain ⟨hH4, hS4⟩ := hnext _ rfl
      refine ⟨some .ret, _, (run_endLoop (P := P) hh (by rw [hst]; simp)).trans (congrArg (fun x => Result.ok x _) hpe), ?_⟩
      exact wpIn_ret ⟨⟨s.t, m3.del s.m.next⟩, E3, hA, hH4, hS4⟩
    · rename_i t1 p1 c1 c2 id ho
      obtain ⟨r3, hh, ⟨hst, hpe⟩, hnext⟩ := key _ _ _ _ _ ho
      obtain ⟨hH4, hS4⟩ := hnext _ rfl
      refine ⟨some (.exit id), _, (run_endLoop (P := P) hh (by rw [hst]; simp)).trans (congrArg (fun x => Result.ok x _) hpe), ?_⟩
      exact wpIn_exit ⟨⟨s.t, m3.del s.m.next⟩, E3, hA, hH4, hS4⟩
    · exact hA.elim
  exact callsIn_wide.2 hCalls

/-- CODE. -/
theorem code_sound : ∀ (c : Code) (Q : VX → St → Prop) (s : St) (E E0 : Env) (m0 : Mm) (a : Act) (w w0 : World), (ro = none ∨ (cvCode P bx G.tab nt c).plain = true) → B ≤ w0.heap.size → Holds B G E nt s a w → Step NoX E0 m0 w0 E s.m w → (cvCode P bx G.tab nt c).vx P G Q s → c.wpIn (fen ro) 0 P (After B G nt E0 m0 w0 Q) a w
  | .skip, Q, s, E, E0, m0, a, w, w0, hp, hB, hH, hS, h => by rw [cvCode, VC.vx] at h; exact wpIn_skip ⟨s, E, h, hH, hS⟩
  | .label _, Q, s, E, E0, m0, a, w, w0, hp, hB, hH, hS, h => by rw [cvCode, VC.vx] at h; exact wpIn_label ⟨s, E, h, hH, hS⟩
  | .ret, Q, s, E, E0, m0, a, w, w0, hp, hB, hH, hS, h => by rw [cvCode, VC.vx] at h; exact wpIn_ret ⟨s, E, h, hH, hS⟩
  | .exit id, Q, s, E, E0, m0, a, w, w0, hp, hB, hH, hS, h => by rw [cvCode, VC.vx] at h; exact wpIn_exit ⟨s, E, h, hH, hS⟩
  | .region id ops draw, Q, s, E, E0, m0, a, w, w0, hp, hB, hH, hS, h => by
    rw [cvCode] at h
    cases hc : cvRegion P bx G.tab nt ops draw with
    | none => rw [hc, Option.getD_none, VC.vx] at h; exact h.elim
    | some c => rw [hc, Option.getD_some] at h; exact region_sound hc hH hS h
  | .seq x y, Q, s, E, E0, m0, a, w, w0, hp, hB, hH, hS, h => by
    rw [cvCode, VC.vx] at h
    rw [cvCode, VC.plain, Bool.and_eq_true] at hp
    refine wpIn_seq (wpIn_mono (code_sound x _ s E E0 m0 a w w0 (hp.imp id (·.1)) hB hH hS h) ?_)
    intro e a' w' hq
    obtain ⟨s', E', hq, hH', hS'⟩ := hq
    cases e with
    | normal => exact code_sound y Q s' E' E0 m0 a' w' w0 (hp.imp id (·.2)) hB hH' hS' hq
    | exit id => exact ⟨s', E', hq, hH', hS'⟩
    | ret => exact ⟨s', E', hq, hH', hS'⟩
    | goto l => exact hq.elim
    | panic ch => exact hq.elim
    | outgrown => exact hq.elim
  | .cond c x y, Q, s, E, E0, m0, a, w, w0, hp, hB, hH, hS, h => by
    rw [cvCode] at h
    cases hc : cvOpd G.tab nt c with
    | none => rw [hc] at h; simp only at h; rw [VC.vx] at h; exact h.elim
    | some o =>
      rw [hc] at h
      simp only at h
      rw [VC.vx] at h
      rw [cvCode, hc] at hp
      simp only at hp
      rw [VC.plain, Bool.and_eq_true] at hp
      have hv := opd_ok hH.T hH.G hc
      split at h
      · rename_i t he
        rw [he] at hv
        have e1 := VR_lit hv
        refine wpIn_cond e1 ?_
        cases t
        · rw [if_neg (by simp)] at h ⊢; exact code_sound y Q s E E0 m0 a w w0 (hp.imp id (·.2)) hB hH hS h
        · rw [if_pos rfl] at h ⊢; exact code_sound x Q s E E0 m0 a w w0 (hp.imp id (·.1)) hB hH hS h
      · exact h.elim
  | .block id c, Q, s, E, E0, m0, a, w, w0, hp, hB, hH, hS, h => by
    rw [cvCode, VC.vx] at h
    rw [cvCode, VC.plain] at hp
    refine wpIn_block (wpIn_mono (code_sound c _ s E E0 m0 a w w0 hp hB hH hS h) ?_)
    intro e a' w' hq
    obtain ⟨s', E', hq, hH', hS'⟩ := hq
    cases e with
    | normal => exact ⟨s', E', hq, hH', hS'⟩
    | exit id' =>
      simp only [VX.inBlock] at hq
      simp only [Exit.inBlock]
      split at hq
      · rename_i hid; rw [if_pos hid]; exact ⟨s', E', hq, hH', hS'⟩
      · rename_i hid; rw [if_neg hid]; exact ⟨s', E', hq, hH', hS'⟩
    | ret => exact ⟨s', E', hq, hH', hS'⟩
    | goto l => exact hq.elim
    | panic ch => exact hq.elim
    | outgrown => exact hq.elim
  | .loop c, Q, s, E, E0, m0, a, w, w0, hp, hB, hH, hS, h => by
    rw [cvCode, VC.vx] at h
    rw [cvCode, VC.plain] at hp
    obtain ⟨I, μ, h0, hr⟩ := h
    refine loop_sound (R := fun s a w => ∃ E, Holds B G E nt s a w ∧ Step NoX E0 m0 w0 E s.m w) (I := I) (μ := μ) h0 ⟨E, hH, hS⟩ ?_
    rintro s a w hI ⟨E, hH, hS⟩
    refine wpIn_mono (code_sound c _ s E E0 m0 a w w0 hp hB hH hS (hr s hI)) ?_
    intro e a' w' hq
    obtain ⟨s', E', hq, hH', hS'⟩ := hq
    cases e with
    | normal => exact ⟨s', hq, E', hH', hS'⟩
    | exit id => exact ⟨s', E', hq, hH', hS'⟩
    | ret => exact ⟨s', E', hq, hH', hS'⟩
    | goto l => exact hq.elim
    | panic ch => exact hq.elim
    | outgrown => exact hq.elim
  | .scope c, Q, s, E, E0, m0, a, w, w0, hp, hB, hH, hS, h => by
    rw [cvCode, VC.vx] at h
    rw [cvCode, VC.plain] at hp
    refine wpIn_scope (wpIn_mono (code_sound c _ s E E0 m0 a w w0 hp hB hH hS h) ?_)
    intro e a' w' hq
    obtain ⟨s', E', hq, hH', hS'⟩ := hq
    cases e with
    | normal => exact ⟨s', E', hq, hH', hS'⟩
    | exit id => exact ⟨s', E', hq, hH', hS'⟩
    | ret => exact ⟨s', E', hq, hH', hS'⟩
    | goto l => exact hq.elim
    | panic ch => exact hq.elim
    | outgrown => exact hq.elim
  | .rangeFunc f ps as bd, Q, s, E, E0, m0, a, w, w0, hp, hB, hH, hS, h => by
    rw [cvCode] at h hp
    cases hc : cvOpd G.tab nt f with
    | none => rw [hc] at h; simp only at h; rw [VC.vx] at h; exact h.elim
    | some o =>
      rw [hc] at h hp
      simp only at h hp
      rcases hp with rfl | hp
      · exact rangeF_sound hc hB hH hS h
      · rw [VC.plain] at hp; cases hp
  | .goto _, Q, s, E, E0, m0, a, w, w0, hp, hB, hH, hS, h => by rw [cvCode, VC.vx] at h; exact h.elim; all_goals (intros; rename_i h; cases h)
  | .refuse _, Q, s, E, E0, m0, a, w, w0, hp, hB, hH, hS, h => by rw [cvCode, VC.vx] at h; exact h.elim; all_goals (intros; rename_i h; cases h)
end
end Go.Proofs.YtdefefeifcdogaaGreat
/-! Functions: a contract from values by numbers. Nothing is proved of the program here. -/
namespace Go.Proofs.YtdefefeifcdogaaGreat
open Go.RowKit

inductive VRes where
  | t (i : Nat)
  | c (i n : Nat) (agg : Bool)
deriving Inhabited

def cvRes (P : Program) (nt : Nat) : ResultVar → Option VRes
  | .tmp t => if t < nt then some (.t t) else none
  | .cell a t => match P.underlying t, szOf P t with
    | some _, some s => if a < nt then some (.c a s (isAggB P t)) else none
    | _, _ => none
def resOne (s : St) : VRes → Option V
  | .t i => some (s.t i)
  | .c i n agg => match s.t i with
    | .ptr b off => match s.m.obj b with
      | some (.box cs _) => if agg = true then (if off + n ≤ cs.length then some (.agg ((cs.drop off).take n)) else none) else cs[off]?
      | _ => none
    | _ => none
def resAll (s : St) : List VRes → Option (List V)
  | [] => some []
  | x :: l => (resOne s x).bind fun v => (resAll s l).map fun vs => v :: vs
def oneOr : List V → V
  | [v] => v
  | vs => .tup vs
def resV (s : St) (l : List VRes) : Option V := (resAll s l).map oneOr

def initT (args : List V) : Nat → V := fun i => args.getD i vund

/-- A function's text, as code on values by numbers. -/
structure Comp (P : Program) (bx : Nat → Bool) (tab : Nat → List V) (f : FuncId) (nt : Nat) (c : VC) (rs : List VRes) : Prop where
  ex : ∃ fn code, P.funcs[f]? = some fn ∧ fn.body = some code ∧ fn.ntmps = nt ∧ cvCode P bx tab nt code = c ∧ fn.results.toList.mapM (cvRes P nt) = some rs

def resSem (a : Act) : ResultVar → Sem Value
  | .tmp t => pure (a.tmps.getD t undef)
  | .cell b t => do loadVar t (← asAddr (a.tmps.getD b undef))

section
variable {P : Program} {bx : Nat → Bool} {G : Ground} {B : Nat}

theorem run_res1 {E : Env} {nt : Nat} {s : St} {a : Act} {w : World} (hH : Holds B G E nt s a w) {x : ResultVar} {y : VRes} (hc : cvRes P nt x = some y) {v : V} (hv : resOne s y = some v) :
    ∃ c, (resSem a x).run P w = .ok c w ∧ VR E v c := by
  cases x with
  | tmp t =>
    simp only [cvRes] at hc
    split at hc
    · rename_i ht
      cases hc
      simp only [resOne, Option.some.injEq] at hv
      subst hv
      exact ⟨_, rfl, hH.T.slot t ht⟩
    · cases hc
  | cell b t =>
    simp only [cvRes] at hc
    split at hc
    · rename_i d sz hd hs
      split at hc
      · rename_i hb
        cases hc
        have hslot := hH.T.slot b hb
        simp only [resOne] at hv
        split at hv
        · rename_i i off hi
          rw [hi, VR] at hslot
          obtain ⟨bl, hφ, e1⟩ := hslot
          split at hv
          · rename_i cs t' hobj
            obtain ⟨b', c, hφ', hh, hr, _⟩ := hH.M.box i cs t' hobj
            rw [hφ] at hφ'; cases hφ'
            split at hv
            · rename_i hagg
              split at hv
              · rename_i hl
                cases hv
                have hr' := hr.slice off sz
                have hlen : (((c.toList.take cs.length).drop off).take sz).length = sz := by rw [hr'.length, List.length_take, List.length_drop]; omega
                obtain ⟨i', hi', rfl⟩ := szOf_ok hs
                have hsize : ∀ w, (sizeOf t).run P w = .ok i'.size w := fun w => by simp [sizeOf, typeInfo, hi']
                have hl' := run_loadCells_list (P := P) w ⟨bl, off, none⟩ (((c.toList.take cs.length).drop off).take i'.size) (fun j v hv => by
                  rw [addr_at]
                  rw [List.getElem?_take] at hv
                  split at hv
                  · rw [List.getElem?_drop, List.getElem?_take] at hv
                    split at hv
                    · rw [Array.getElem?_toList] at hv; rw [cell_of_row w bl _ c t' (0, 0) hh]; exact hv
                    · cases hv
                  · cases hv)
                rw [hlen] at hl'
                refine ⟨_, ?_, by rw [VR]; exact ⟨_, rfl, hr'⟩⟩
                simp only [resSem, e1, asAddr, loadVar, Sem.run_bind, Sem.run_pure, Result.andThen_ok, run_isAgg hd, hagg, if_true, hsize, hl']
              · cases hv
            · rename_i hagg
              obtain ⟨u, hu, hr'⟩ := hr.get hv
              rw [List.getElem?_take] at hu
              split at hu
              case isFalse => cases hu
              rw [Array.getElem?_toList] at hu
              have hl : (load ⟨bl, off, none⟩).run P w = .ok u w := by simp [load, Sem.run, cell_of_row w bl off c t' (0, 0) hh, hu]
              have hagg' : isAggB P t = false := by simpa using hagg
              refine ⟨u, ?_, hr'⟩
              simp only [resSem, e1, asAddr, loadVar, Sem.run_bind, Sem.run_pure, Result.andThen_ok, run_isAgg hd, hagg', Bool.false_eq_true, if_false, hl]
          · cases hv
        · cases hv
      · cases hc
    · cases hc

theorem run_resAll {E : Env} {nt : Nat} {s : St} {a : Act} {w : World} (hH : Holds B G E nt s a w) : ∀ (xs : List ResultVar) (ys : List VRes) (vs : List V), xs.mapM (cvRes P nt) = some ys → resAll s ys = some vs →
    ∃ cs, (xs.mapM (resSem a)).run P w = .ok cs w ∧ VRs E vs cs
  | [], ys, vs, h, hv => by
    simp at h; subst h
    simp only [resAll, Option.some.injEq] at hv
    subst hv
    exact ⟨[], rfl, by rw [VRs]⟩
  | x :: xs, ys, vs, h, hv => by
    rw [List.mapM_cons] at h
    simp only [Option.bind_eq_bind, Option.bind_eq_some_iff] at h
    obtain ⟨y, hy, l, hl, e⟩ := h
    cases e
    simp only [resAll, Option.bind_eq_some_iff, Option.map_eq_some_iff] at hv
    obtain ⟨v, hv1, us, hus, rfl⟩ := hv
    obtain ⟨c, h1, h2⟩ := run_res1 hH hy hv1
    obtain ⟨cs, h3, h4⟩ := run_resAll hH xs l us hl hus
    refine ⟨c :: cs, ?_, by rw [VRs]; exact ⟨c, cs, rfl, h2, h4⟩⟩
    rw [List.mapM_cons]
    simp only [Sem.run_bind, h1, h3, Result.andThen_ok, Sem.run_pure]

theorem run_results {E : Env} {s : St} {a : Act} {w : World} {fn : Func} (hH : Holds B G E fn.ntmps s a w) {rs : List VRes} (hr : fn.results.toList.mapM (cvRes P fn.ntmps) = some rs) {r : V} (hv : resV s rs = some r) :
    ∃ c, (results fn a.tmps).run P w = .ok c w ∧ VR E r c := by
  unfold resV at hv
  rw [Option.map_eq_some_iff] at hv
  obtain ⟨vs, hvs, rfl⟩ := hv
  obtain ⟨cs, h1, h2⟩ := run_resAll hH fn.results.toList rs vs hr hvs
  have hm : (fn.results.mapM (resSem a)).run P w = .ok cs.toArray w := by
    rw [Array.mapM_eq_mapM_toList, map_eq_pure_bind]
    simp only [Sem.run_bind, h1, Result.andThen_ok, Sem.run_pure]
  have hrun : (results fn a.tmps).run P w = .ok (if h : cs.toArray.size = 1 then cs.toArray[0] else .tuple cs.toArray) w := by
    have e : results fn a.tmps = (do let vs ← fn.results.mapM (resSem a); pure (if h : vs.size = 1 then vs[0] else .tuple vs)) := rfl
    rw [e]
    simp only [Sem.run_bind, hm, Result.andThen_ok, Sem.run_pure]
  refine ⟨_, hrun, ?_⟩
  cases vs with
  | nil => rw [VRs] at h2; subst h2; simp only [oneOr]; rw [VR]; exact ⟨#[], rfl, by rw [VRs]⟩
  | cons v us =>
    rw [VRs] at h2
    obtain ⟨c, ds, rfl, h3, h4⟩ := h2
    cases us with
    | nil => rw [VRs] at h4; subst h4; exact h3
    | cons u us' =>
      have h4' := h4
      rw [VRs] at h4
      obtain ⟨d, ds', rfl, _, _⟩ := h4
      simp only [oneOr]
      rw [dif_neg (by simp), VR]
      exact ⟨_, rfl, by rw [VRs]; exact ⟨c, _, rfl, h3, h4'⟩⟩

/-- At a function's end the marks are taken. -/
theorem leave_marks {E0 E : Env} {m0 m : Mm} {w0 : World} {fn : Func} {tmps : Array Value} {R : Ending → World → Prop} (hfin : ∀ w, MemR E m w → Step NoX E0 m0 w0 E m w → ∃ v, (results fn tmps).run P w = .ok v w ∧ R (.returned v) w) :
    ∀ (ds : List Nat) (w : World), ds.Nodup → (∀ r ∈ ds, w0.heap.size ≤ r ∧ w.heap[r]? = some (.deferred (some [])) ∧ ∀ i, ¬ BlkOf E m i r) → MemR E m w → Step NoX E0 m0 w0 E m w → LeavesInM Fence.wide 0 P fn tmps R (ds.map markOf) .returning w
  | [], w, _, _, hm, hs => hfin w hm hs
  | r :: ds, w, hnd, hr, hm, hs => by
    obtain ⟨h1, h2, h3⟩ := hr r (List.mem_cons_self ..)
    obtain ⟨h4, h5⟩ := List.nodup_cons.1 hnd
    have hsb := putObj_same w r (.deferred none)
    have hMr : ∀ o, E.M r o = none := fun o => by
      cases hM : E.M r o with
      | none => rfl
      | some v => have := hm.stable r o v hM; simp [World.cell?, h2] at this
    have hm' := hm.away hsb hMr h3
    have hs' : Step NoX E0 m0 w0 E m (w.putObj r (.deferred none)) :=
      ⟨hs.le, hs.next, hs.oldφ, hs.oldloc, hs.os, hs.tape, hs.output, hs.drawn, by rw [hsb.size]; exact hs.size, fun b hb hn => (hsb.block b (by omega)).trans (hs.kept b hb hn), hs.blk, hs.newM⟩
    refine ⟨by simp, .inl ⟨r, _, rfl, run_takeDeferred h2, ?_⟩⟩
    refine leave_marks hfin ds _ h5 (fun q hq => ?_) hm' hs'
    obtain ⟨h6, h7, h8⟩ := hr q (List.mem_cons_of_mem _ hq)
    exact ⟨h6, (hsb.block q fun e => by subst e; exact h4 hq).trans h7, h8⟩
/-- A FUNCTION, with memory. -/
theorem SFn.of_vx {f : FuncId} {nt : Nat} {c : VC} {rs : List VRes} (hc : Comp P bx G.tab f nt c rs) {args : List V} {m : Mm} {Post : V → Mm → Prop} (hn : args.length ≤ nt)
    (h : c.vx P G (fun e s' => (e = .nrm ∨ e = .ret) ∧ ∃ r, resV s' rs = some r ∧ Post r s'.m) ⟨initT args, m⟩) : SFn P G f args m Post := by
  obtain ⟨fn, code, hf, hb, rfl, rfl, hr⟩ := hc.ex
  intro E w cargs hG hm hv
  have hlen : cargs.size = args.length := by have := hv.length; rwa [Array.length_toList] at this
  refine callsIn_wide.1 (callsIn_of_wp_marks (F := Fence.wide) (n := 0) hf hb trivial ?_)
  have hT : TmR E fn.ntmps (initT args) { tmps := cargs ++ Array.replicate (fn.ntmps - cargs.size) undef, defers := [] } := by
    refine ⟨by simp; omega, fun i hi => ?_⟩
    unfold initT
    by_cases hlt : i < args.length
    · have h1 : args[i]? = some args[i] := List.getElem?_eq_getElem hlt
      obtain ⟨u, hu, hr'⟩ := hv.get h1
      rw [Array.getElem?_toList] at hu
      have e1 : args.getD i vund = args[i] := by rw [List.getD_eq_getElem?_getD, h1]; rfl
      have e2 : (cargs ++ Array.replicate (fn.ntmps - cargs.size) undef).getD i undef = u := by
        rw [Array.getD_eq_getD_getElem?, Array.getElem?_append_left (by omega), hu]; rfl
      rw [e1]
      show VR E _ (Array.getD _ _ _)
      rw [e2]; exact hr'
    · have e1 : args.getD i vund = vund := by rw [List.getD_eq_getElem?_getD, List.getElem?_eq_none (by omega)]; rfl
      have e2 : (cargs ++ Array.replicate (fn.ntmps - cargs.size) undef).getD i undef = undef := by
        rw [Array.getD_eq_getD_getElem?, Array.getElem?_append_right (by omega), Array.getElem?_replicate]
        split <;> rfl
      rw [e1]
      show VR E _ (Array.getD _ _ _)
      rw [e2]; exact VR_mk rfl
  have hcs := code_sound (P := P) (bx := bx) (G := G) (nt := fn.ntmps) (ro := none) (B := w.heap.size) code _ ⟨initT args, m⟩ E E m _ w w (.inl rfl) (Nat.le_refl _) ⟨hT, hm, hG, ⟨[], rfl, List.nodup_nil, fun r hr => by cases hr⟩⟩ (Step.refl _ _ _ _) h
  refine wpIn_mono (F := Fence.wide) hcs ?_
  intro e a' w' hq
  obtain ⟨s', E', hq, hH', hS'⟩ := hq
  have fin : (∃ r, resV s' rs = some r ∧ Post r s'.m) → LeavesInM Fence.wide 0 P fn a'.tmps (fun e w' => ∃ v r m' E', e = .returned v ∧ Post r m' ∧ Step NoX E m w E' m' w' ∧ MemR E' m' w' ∧ VR E' r v) a'.defers .returning w' := by
    rintro ⟨r, hrv, hP⟩
    obtain ⟨ds, hd1, hd2, hd3⟩ := hH'.D.ex
    rw [hd1]
    refine leave_marks (fun w2 hm2 hs2 => ?_) ds w' hd2 hd3 hH'.M hS'
    have hHw : Holds 0 G E' fn.ntmps s' { a' with defers := [] } w2 := ⟨⟨hH'.T.size, hH'.T.slot⟩, hm2, G.mono _ _ _ _ _ _ _ hm hs2 hG, ⟨[], rfl, List.nodup_nil, fun r hr => by cases hr⟩⟩
    obtain ⟨v, hrun, hvr⟩ := run_results hHw hr hrv
    exact ⟨v, hrun, v, r, s'.m, E', rfl, hP, hs2, hm2, hvr⟩
  cases e with
  | normal => exact fin hq.2
  | ret => exact fin hq.2
  | exit id => rcases hq.1 with h | h <;> cases h
  | goto l => exact hq.elim
  | panic ch => exact hq.elim
  | outgrown => exact hq.elim

/-- A ROUND of a loop over a function. -/
def rpost (i : Nat) (Post : V → Mm → Prop) (e : VX) (s : St) : Prop :=
  ∃ tm ps as bd, s.m.obj i = some (.oth (.loop tm ps as bd .busy)) ∧ match e with
  | .nrm => Post (vbool true) (s.m.put i (.oth (.loop tm ps as bd .ready)))
  | .ret => Post (vbool false) (s.m.put i (.oth (.loop tm ps as bd (.done .ret))))
  | .exit id => Post (vbool false) (s.m.put i (.oth (.loop tm ps as bd (.done (.exit id)))))
/-- The slots of a round: those of the loop's record, the parameters set. -/
def rslots (tmps : List V) (ps : List Nat) (args : List V) : Nat → V :=
  (ps.zip args).foldl (fun t p => fun i => if i = p.1 then p.2 else t i) (initT tmps)
theorem rslots_ok {E : Env} {nt : Nat} : ∀ (ps : List Nat) (as : List V) (cs : List Value) (t : Nat → V) (T : Array Value), VRs E as cs → TmR E nt t { tmps := T, defers := [] } →
    TmR E nt ((ps.zip as).foldl (fun t p => fun i => if i = p.1 then p.2 else t i) t) { tmps := (ps.zip cs).foldl (fun T p => T.setIfInBounds p.1 p.2) T, defers := [] }
  | [], as, cs, t, T, _, h => by simpa using h
  | p :: ps, [], cs, t, T, hv, h => by
    rw [VRs] at hv
    subst hv
    simpa using h
  | p :: ps, a :: as, cs, t, T, hv, h => by
    rw [VRs] at hv
    obtain ⟨c, cs', rfl, h1, h2⟩ := hv
    simp only [List.zip_cons_cons, List.foldl_cons]
    refine rslots_ok ps as cs' _ _ h2 ⟨by simpa using h.size, fun i hi => ?_⟩
    have hsz : T.size = nt := h.size
    show VR E (if i = p then a else t i) ((T.setIfInBounds p c).getD i undef)
    by_cases e : i = p
    · subst e
      rw [if_pos rfl, Array.getD_eq_getD_getElem?, Array.getElem?_setIfInBounds_self_of_lt (by omega)]
      exact h1
    · rw [if_neg e, Array.getD_eq_getD_getElem?, Array.getElem?_setIfInBounds_ne (Ne.symm e), ← Array.getD_eq_getD_getElem?]
      exact h.slot i hi
theorem YFn.of_vx {i : Nat} {tmps : List V} {ps : Array Nat} {as bd : Code} {m : Mm} (ho : m.obj i = some (.oth (.loop tmps ps as bd .ready))) {args : List V} (hl : args.length = ps.size) {Post : V → Mm → Prop}
    {ca cb : VC} (ha : cvCode P bx G.tab tmps.length as = ca) (hb : cvCode P bx G.tab tmps.length bd = cb) (pa : ca.plain = true) (pb : cb.plain = true)
    (h : ca.vx P G (VX.then (fun s => ∃ tm ps' as' bd', s.m.obj i = some (.oth (.loop tm ps' as' bd' .ready)) ∧ cb.vx P G (rpost i Post) ⟨s.t, s.m.put i (.oth (.loop tm ps' as' bd' .busy))⟩) (fun _ _ => False)) ⟨rslots tmps ps.toList args, m⟩) : YFn P G i args m Post := by
  intro E w cargs l hG hm hv hφ
  obtain ⟨b, o, hb0, hw, rc, rfl, hT, rfl, rfl, rfl, hst1, hst2⟩ := hm.oth i _ ho
  obtain rfl := Option.some.inj (hφ.symm.trans hb0)
  have hcl : cargs.size = rc.params.size := by have := hv.length; rw [Array.length_toList] at this; omega
  refine ⟨rc.fn, _, rc.assign, rc.body, run_yield hw hcl, ?_⟩
  refine roundIn_of_wpIn (F := Fence.wide) trivial ?_
  have hT0 : TmR E tmps.length (initT tmps) { tmps := rc.tmps, defers := [] } := by
    have hlen : rc.tmps.size = tmps.length := by have := hT.length; rwa [Array.length_toList] at this
    refine ⟨hlen, fun i hi => ?_⟩
    have h1 : tmps[i]? = some tmps[i] := List.getElem?_eq_getElem hi
    obtain ⟨u, hu, hr'⟩ := hT.get h1
    rw [Array.getElem?_toList] at hu
    have e1 : initT tmps i = tmps[i] := by unfold initT; rw [List.getD_eq_getElem?_getD, h1]; rfl
    rw [e1]
    show VR E _ (rc.tmps.getD i undef)
    rw [Array.getD_eq_getD_getElem?, hu]; exact hr'
  have hT1 := rslots_ok rc.params.toList args cargs.toList (initT tmps) rc.tmps hv hT0
  have hT2 : TmR E tmps.length (rslots tmps rc.params.toList args) { tmps := (rc.params.zip cargs).foldl (fun T p => T.setIfInBounds p.1 p.2) rc.tmps, defers := [] } := by
    rw [← Array.foldl_toList, Array.toList_zip]; exact hT1
  have HA := code_sound (P := P) (bx := bx) (G := G) (nt := tmps.length) (ro := some l) (B := w.heap.size) rc.assign _ ⟨rslots tmps rc.params.toList args, m⟩ E E m _ w w (.inr (by rw [ha]; exact pa)) (Nat.le_refl _) ⟨hT2, hm, hG, ⟨[], rfl, List.nodup_nil, fun r hr => by cases hr⟩⟩ (Step.refl _ _ _ _) (by rw [ha]; exact h)
  refine wpIn_mono (F := Fence.wide.inRound l) HA ?_
  rintro e a1 w1 ⟨s1, E1, hq, hH1, hS1⟩
  cases e with
  | normal =>
    obtain ⟨tm, ps', as', bd', ho1, hcb⟩ := hq
    obtain ⟨b1, o1, hb1, hw1, rc1, rfl, hT1', hp1, has1, hbd1, hst3, hst4⟩ := hH1.M.oth i _ ho1
    obtain rfl := Option.some.inj ((hS1.le.φ i l hφ).symm.trans hb1)
    refine ⟨_, run_beginRound hw1 hst3, ?_⟩
    obtain ⟨hS2, hM2⟩ := hH1.M.setOth ho1 hb1 (x' := .loop tm ps' as' bd' .busy) (o' := .loop { rc1 with state := .busy }) ⟨_, rfl, hT1', hp1, has1, hbd1, rfl⟩
    have HB := code_sound (P := P) (bx := bx) (G := G) (nt := tmps.length) (ro := some l) (B := w.heap.size) rc.body _ ⟨s1.t, s1.m.put i (.oth (.loop tm ps' as' bd' .busy))⟩ E1 E m a1 _ w (.inr (by rw [hb]; exact pb)) (Nat.le_refl _)
      ⟨hH1.T, hM2, G.mono _ _ _ _ _ _ _ hH1.M hS2 hH1.G, Dfr.step hH1.D hS2 rfl⟩ (hS1.trans hS2) (by rw [hb]; exact hcb)
    refine wpIn_mono (F := Fence.wide.inRound l) HB ?_
    rintro e a2 w2 ⟨s2, E2, hq2, hH2, hS3⟩
    have fin : ∀ (jump : Option Code) (st : LSt) tm ps as bd, s2.m.obj i = some (.oth (.loop tm ps as bd .busy)) → stR st (if jump.isNone then .ready else .done) jump → Post (vbool jump.isNone) (s2.m.put i (.oth (.loop tm ps as bd st))) →
        ∃ v w', (Instr.endRound l jump).run P w2 = .ok v w' ∧ ∃ v' r m' E', Ending.returned v = .returned v' ∧ Post r m' ∧ Step NoX E m w E' m' w' ∧ MemR E' m' w' ∧ VR E' r v' := by
      intro jump st tm ps as bd ho2 hst hP
      obtain ⟨b2, o2, hb2, hw2, rc2, rfl, hT2', hp2, has2, hbd2, hst5⟩ := hH2.M.oth i _ ho2
      obtain rfl := Option.some.inj ((hS3.le.φ i l hφ).symm.trans hb2)
      obtain ⟨hS4, hM4⟩ := hH2.M.setOth ho2 hb2 (x' := .loop tm ps as bd st) (o' := .loop { rc2 with state := if jump.isNone then .ready else .done, pending := jump }) ⟨_, rfl, hT2', hp2, has2, hbd2, hst⟩
      exact ⟨_, _, run_endRound jump hw2, _, _, _, E2, rfl, hP, hS3.trans hS4, hM4, VR_mk rfl⟩
    cases e with
    | normal => obtain ⟨tm, ps, as, bd, h1, h2⟩ := hq2; exact fin none .ready _ _ _ _ h1 ⟨rfl, rfl⟩ h2
    | ret => obtain ⟨tm, ps, as, bd, h1, h2⟩ := hq2; exact fin (some .ret) (.done .ret) _ _ _ _ h1 ⟨rfl, rfl⟩ h2
    | exit id => obtain ⟨tm, ps, as, bd, h1, h2⟩ := hq2; exact fin (some (.exit id)) (.done (.exit id)) _ _ _ _ h1 ⟨rfl, rfl⟩ h2
    | goto l => exact hq2.elim
    | panic ch => exact hq2.elim
    | outgrown => exact hq2.elim
  | ret => exact hq.elim
  | exit id => exact hq.elim
  | goto l => exact hq.elim
  | panic ch => exact hq.elim
  | outgrown => exact hq.elim

/-- What a function that only computes comes to. -/
def FinP (m : Mm) (rs : List VRes) (r : V) (e : VX) (s' : St) : Prop := (e = .nrm ∨ e = .ret) ∧ ∃ r', resV s' rs = some r' ∧ r'.pub = some r ∧ ∀ i, i < m.next → s'.m.obj i = m.obj i
theorem fin_ret {m : Mm} {rs : List VRes} {r r' : V} {s' : St} (h1 : resV s' rs = some r') (h2 : r'.pub = some r) (h3 : ∀ i, i < m.next → s'.m.obj i = m.obj i) : FinP m rs r .ret s' := ⟨.inr rfl, r', h1, h2, h3⟩
theorem fin_nrm {m : Mm} {rs : List VRes} {r r' : V} {s' : St} (h1 : resV s' rs = some r') (h2 : r'.pub = some r) (h3 : ∀ i, i < m.next → s'.m.obj i = m.obj i) : FinP m rs r .nrm s' := ⟨.inl rfl, r', h1, h2, h3⟩
/-- A FUNCTION that only computes. -/
theorem Fn.of_vx {f : FuncId} {nt : Nat} {c : VC} {rs : List VRes} (hc : Comp P bx G.tab f nt c rs) {args : List V} {r : V} (hn : args.length ≤ nt)
    (h : ∀ m, c.vx P G (FinP m rs r) ⟨initT args, m⟩) : Fn P G f args r :=
  fun m => SFn.drop (Q := fun r' => r' = r) (SFn.mono (SFn.of_vx hc hn (Post := fun r' m' => r'.pub = some r ∧ ∀ i, i < m.next → m'.obj i = m.obj i) (h m)) fun r' m' ⟨h1, h2⟩ => ⟨r, h1, rfl, h2⟩)

/-- A contract of the machine's own, as one on values. -/
theorem Fn.of_calls {f : FuncId} {args : List V} {r : V} (h : ∀ (E : Env) (w : World) (cargs : Array Value), G.ok E.M w → (∀ b o v, E.M b o = some v → w.cell? ⟨b, o, none⟩ = some v) → VRs E args cargs.toList →
      Calls P f cargs w fun e w' => ∃ v, e = .returned v ∧ Below w.heap.size w w' ∧ w.drawn ≤ w'.drawn ∧ ∃ M' : Nat → Nat → Option Value, (∀ b o v, E.M b o = some v → M' b o = some v) ∧ (∀ b o, b < w.heap.size → M' b o = E.M b o) ∧ (∀ b o v, M' b o = some v → w'.cell? ⟨b, o, none⟩ = some v) ∧ VR ⟨M', E.φ, E.loc⟩ r v) :
    Fn P G f args r := by
  intro m E w cargs hG hm hv
  refine (h E w cargs hG hm.stable hv).mono ?_
  rintro e w' ⟨v, he, hb, hdr, M', hle, hold, hst, hr⟩
  have hg := hm.grow (w' := w') fun b hlt => hb.block b hlt
  have le : E.Le ⟨M', E.φ, E.loc⟩ := ⟨hle, fun _ _ x => x, fun _ _ _ x => x⟩
  refine ⟨v, r, m, ⟨M', E.φ, E.loc⟩, he, ⟨rfl, rfl⟩, ⟨le, Nat.le_refl _, fun _ _ _ => rfl, fun _ _ _ hn => ⟨fun _ => rfl, hn⟩, hb.os, hb.tape, hb.output, hdr, hb.size, fun b hlt _ => hb.block b hlt, fun i b hi _ => ⟨i, hi⟩, fun b o v hv => by
    rcases Nat.lt_or_ge b w.heap.size with hlt | hge
    · exact .inl ((hold b o hlt).symm.trans hv)
    · exact .inr (.inl hge)⟩, ⟨hst, hg.fresh, ?_, ?_, (fun i x hi => by
    obtain ⟨b, o, h1, h2, h3⟩ := hm.oth i x hi
    exact ⟨b, o, h1, (hb.block b (heap_lt h2)).trans h2, HobR.mono le h3⟩), hg.inj, hg.siz⟩, hr⟩
  · intro i cs t hi
    obtain ⟨b, c, h1, h2, h3, h4⟩ := hm.box i cs t hi
    have hlt := heap_lt h2
    exact ⟨b, c, h1, (hb.block b hlt).trans h2, VRs.mono le h3, fun o => (hold b o hlt).trans (h4 o)⟩
  · intro i n e' size hi
    obtain ⟨A, cap, h1, h2, h3, h4⟩ := hm.row i n e' size hi
    refine ⟨A, cap, h1, h2, h3, fun hn => ?_⟩
    obtain ⟨b, c, h5, h6, h7, h8⟩ := h4 hn
    have hlt := heap_lt h6
    exact ⟨b, c, h5, (hb.block b hlt).trans h6, h7, fun o ho => (hold b o hlt).trans (h8 o ho)⟩
/-- A contract of the machine's own that leaves memory alone. -/
theorem Fn.of_quiet {f : FuncId} {args : List V} {r : V} (h : ∀ (E : Env) (w : World) (cargs : Array Value), G.ok E.M w → (∀ b o v, E.M b o = some v → w.cell? ⟨b, o, none⟩ = some v) → VRs E args cargs.toList → ∃ v, VR E r v ∧ Calls P f cargs w fun e w' => e = .returned v ∧ w = w') :
    Fn P G f args r :=
  Fn.of_calls fun E w cargs hG hst hv => by
    obtain ⟨v, hr, hc⟩ := h E w cargs hG hst hv
    refine hc.mono ?_
    rintro e w' ⟨rfl, rfl⟩
    exact ⟨v, rfl, Below.refl _ _, Nat.le_refl _, E.M, fun _ _ _ x => x, fun _ _ _ => rfl, hst, hr⟩

/-- FROM VALUES TO THE MACHINE, where nothing is in memory but what stands for good. -/
theorem Fn.calls {f : FuncId} {args : List V} {r : V} (h : Fn P G f args r) {M : Nat → Nat → Option Value} {w : World} (hG : G.ok M w) (hM : ∀ b o v, M b o = some v → w.cell? ⟨b, o, none⟩ = some v) {cargs : Array Value}
    (hv : VRs ⟨M, fun _ => none, fun _ _ => none⟩ args cargs.toList) : Calls P f cargs w fun e w' => ∃ v E', e = .returned v ∧ Below w.heap.size w w' ∧ VR E' r v ∧ (∀ b o v, E'.M b o = some v → w'.cell? ⟨b, o, none⟩ = some v) := by
  have hm : MemR ⟨M, fun _ => none, fun _ _ => none⟩ ⟨fun _ => none, 0⟩ w :=
    ⟨hM, (fun i _ => ⟨rfl, fun _ => rfl, rfl⟩), (fun i _ _ h => by cases h), (fun i _ _ _ h => by cases h), (fun i _ h => by cases h), (fun i j b h => by rcases h with ⟨_, _, h, _⟩ | ⟨_, _, _, _, h, _⟩ | ⟨_, h, _⟩ <;> cases h), (fun _ _ _ _ _ _ _ _ h => by cases h)⟩
  refine (h ⟨fun _ => none, 0⟩ _ w cargs hG hm hv).mono ?_
  rintro e w' ⟨v, r', m', E', he, ⟨rfl, rfl⟩, hs, hm', hr⟩
  exact ⟨v, E', he, hs.below (fun _ => rfl), hr, hm'.stable⟩
end
end Go.Proofs.YtdefefeifcdogaaGreat
