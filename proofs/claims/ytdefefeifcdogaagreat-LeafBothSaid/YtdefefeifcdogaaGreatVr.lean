/- More rules of a run: calls with memory whose arguments are taken as they are; rows that grow beside one another; what a call leaves. Nothing is proved of the program here. -/
import Derived.Test.YtdefefeifcdogaaGreatVf
set_option linter.unusedSimpArgs false
set_option linter.unusedVariables false
namespace Go.Proofs.YtdefefeifcdogaaGreat
open Go.RowKit
theorem put_same (m : Mm) (i : Nat) (a : AObj) : (m.put i a).obj i = some a := if_pos rfl
theorem put_other (m : Mm) {i q : Nat} (a : AObj) (h : q ≠ i) : (m.put i a).obj q = m.obj q := if_neg h
theorem one_arg {E : Env} {x : V} {cargs : Array Value} (h : VRs E [x] cargs.toList) : ∃ c, cargs = #[c] ∧ VR E x c := by
  obtain ⟨c, hc, hr⟩ := VRs_one h
  exact ⟨c, Array.ext' hc, hr⟩
theorem two_args {E : Env} {x y : V} {cargs : Array Value} (h : VRs E [x, y] cargs.toList) : ∃ c d, cargs = #[c, d] ∧ VR E x c ∧ VR E y d := by
  obtain ⟨c, d, hc, hr⟩ := VRs_two h
  exact ⟨c, d, Array.ext' hc, hr⟩
section
variable {P : Program} {G : Ground}
theorem x_scallR {base i : Nat} {d : Option Nat} {f : FuncId} {xs : List Opd} {l : List VI} {s : St} {K : St → Prop} {Post : V → Mm → Prop} (vs : List V) (hv : xs.map s.ev = vs) (hf : SFn P G f vs s.m Post) (hne : ∃ r m', Post r m')
    (h : ∀ r m', Post r m' → goR P G base (some ⟨putT s.t d r, m'⟩) l (i + 1) K) : vrun P G base i (⟨d, none, .call f, xs, none⟩ :: l) s K := by
  subst hv
  rw [vrun]
  unfold vstep VI.on
  simp only [if_true, sem, callSem]
  exact ⟨_, Post, .inl rfl, hf, hne, fun r m' hP => goR_vrun l (i + 1) _ (h r m' hP)⟩
theorem x_callM {base i : Nat} {d : Option Nat} {f : FuncId} {xs : List Opd} {l : List VI} {s : St} {K : St → Prop} {r : V} {md : Option (List Nat)} (vs : List V) (hv : xs.map s.ev = vs) (hf : ∀ m', (∀ j, j < base → m'.obj j = s.m.obj j) → SFn P G f vs m' fun r' m'' => r' = r ∧ m'' = m')
    (h : goR P G base (some ⟨putT s.t d r, s.m⟩) l (i + 1) K) : vrun P G base i (⟨d, none, .call f, xs, md⟩ :: l) s K := by
  subst hv
  rw [vrun]
  unfold vstep VI.on
  simp only [if_true, sem, callSem]
  have hk := goR_vrun l (i + 1) _ h
  cases md with
  | none => exact ⟨_, _, .inl rfl, hf s.m (fun _ _ => rfl), ⟨r, s.m, rfl, rfl⟩, by rintro r' m' ⟨rfl, rfl⟩; exact hk⟩
  | some anc => exact ⟨_, r, .inl rfl, fun m' ha _ => hf m' (fun j hj => ha j (.inl hj)), hk⟩
/-- An append to a row of this call's own, in any order. -/
theorem x_appO {base i : Nat} {d : Option Nat} {e : TypeId} {size bytes : Nat} {x y : Opd} {l : List VI} {s : St} {K : St → Prop} {n j t : Nat} {xs ys : List V} {k2 : Tok} {md : Option (List Nat)} (hx : s.ev x = .sl n xs (.own t)) (hy : s.ev y = .sl j ys k2) (hok : ownOk md base t = true) (ho : s.m.obj t = some (.row n e size))
    (h1 : xs.length = n * size) (h2 : ys.length = j * size) (h3 : (n + j) * bytes ≤ 140737488355328) (h4 : n + j ≤ maxLen)
    (h : goR P G base (some ⟨putT s.t d (.sl (n + j) (xs ++ ys) (.own t)), s.m.put t (.row (n + j) e size)⟩) l (i + 1) K) : vrun P G base i (⟨d, none, .app e size bytes, [x, y], md⟩ :: l) s K := by
  rw [vrun]
  unfold vstep VI.on
  simp only [if_true, List.map_cons, List.map_nil, hx, hy, sem, ho]
  refine ⟨h1, h2, h3, h4, hok, ?_, ?_, ?_, goR_vrun l (i + 1) _ h⟩ <;> first | rfl | trivial
/-- An append to a slice that may grow: what is left as it was. -/
theorem x_appc {base i : Nat} {d : Option Nat} {e : TypeId} {size bytes : Nat} {x y : Opd} {l : List VI} {s : St} {K : St → Prop} {n j : Nat} {xs ys : List V} {k k2 : Tok} (hx : s.ev x = .sl n xs k) (hy : s.ev y = .sl j ys k2) (hap : Apb s.m k n e size)
    (h1 : xs.length = n * size) (h2 : ys.length = j * size) (h3 : (n + j) * bytes ≤ 140737488355328) (h4 : n + j ≤ maxLen) (h0 : base + i < s.m.next)
    (h : ∀ k' m', Apb m' k' (n + j) e size → m'.next = s.m.next → (∀ q, q ≠ base + i → k ≠ .own q → m'.obj q = s.m.obj q) → (∀ q, k' = .own q → q = base + i ∨ k = .own q) → goR P G base (some ⟨putT s.t d (.sl (n + j) (xs ++ ys) k'), m'⟩) l (i + 1) K) :
    vrun P G base i (⟨d, none, .app e size bytes, [x, y], none⟩ :: l) s K := by
  rw [vrun]
  unfold vstep VI.on
  simp only [if_true, List.map_cons, List.map_nil, hx, hy, sem]
  refine ⟨h1, h2, h3, h4, ?_⟩
  rcases hap with rfl | ⟨t, rfl, ht, ho⟩
  · exact goR_vrun l (i + 1) _ (h _ _ (.inr ⟨base + i, rfl, h0, if_pos rfl⟩) rfl (fun q hne _ => if_neg hne) (fun q hq => .inl (by injection hq with hq; exact hq.symm)))
  · simp only [ho]
    exact ⟨rfl, trivial, trivial, trivial, goR_vrun l (i + 1) _ (h _ _ (.inr ⟨t, rfl, ht, if_pos rfl⟩) rfl (fun q _ hne => if_neg fun e => hne (by rw [e])) (fun q hq => .inr hq))⟩
/-- A call that only computes, of what need not be one thing. -/
theorem SFn.of_flat {f : FuncId} {args : List V} {m : Mm} {Post : V → Prop} (h : ∀ (E : Env) (w : World) (cargs : Array Value), G.ok E.M w → (∀ b o v, E.M b o = some v → w.cell? ⟨b, o, none⟩ = some v) → VRs E args cargs.toList →
    Calls P f cargs w fun e w' => ∃ v r, e = .returned v ∧ Post r ∧ Below w.heap.size w w' ∧ w.drawn ≤ w'.drawn ∧ ∀ E, VR E r v) : SFn P G f args m (fun r m' => Post r ∧ m' = m) := by
  intro E w cargs hG hm hv
  refine (h E w cargs hG hm.stable hv).mono ?_
  rintro e w' ⟨v, r, rfl, hP, hb, hdr, hr⟩
  have hg : MemR E m w' := hm.grow fun b hlt => hb.block b hlt
  have hs : Step NoX E m w E m w' := ⟨.refl E, Nat.le_refl _, fun _ _ _ => rfl, fun _ _ _ hn => ⟨fun _ => rfl, hn⟩, hb.os, hb.tape, hb.output, hdr, hb.size, fun b hlt _ => hb.block b hlt, fun i b hi _ => ⟨i, hi⟩, fun _ _ _ h => .inl h⟩
  exact ⟨_, r, m, E, rfl, ⟨hP, rfl⟩, hs, hg, hr E⟩
end
theorem Apb.put {m : Mm} {k : Tok} {n : Nat} {e : TypeId} {size i : Nat} {cs : List V} {t : TypeId} {o : AObj} (h : Apb m k n e size) (hi : m.obj i = some (.box cs t)) : Apb (m.put i o) k n e size := by
  rcases h with h1 | ⟨t, h1, h2, h3⟩
  · exact .inl h1
  · exact .inr ⟨t, h1, h2, by rw [put_obj, if_neg (fun e => by subst e; rw [hi] at h3; cases h3)]; exact h3⟩
theorem Apb.ne {m : Mm} {k k' : Tok} {n n' : Nat} {e e' : TypeId} {z z' : Nat} (h : Apb m k n e z) (h' : Apb m k' n' e' z') (he : e ≠ e') : ∀ q, k = .own q → k' ≠ .own q := by
  rintro q rfl rfl
  rcases h with h | ⟨t, h1, _, h2⟩
  · cases h
  · rcases h' with h | ⟨t', h3, _, h4⟩
    · cases h
    · injection h1 with h1; injection h3 with h3
      subst h1; subst h3
      rw [h2] at h4
      injection h4 with h4
      injection h4 with _ h4
      exact he h4
theorem Apb.keep {m m' : Mm} {k : Tok} {n : Nat} {e : TypeId} {z : Nat} (h : Apb m k n e z) (hn : m.next ≤ m'.next) (ho : ∀ q, q < m.next → k = .own q → m'.obj q = m.obj q) : Apb m' k n e z := by
  rcases h with h | ⟨t, h1, h2, h3⟩
  · exact .inl h
  · exact .inr ⟨t, h1, Nat.lt_of_lt_of_le h2 hn, (ho t h2 h1).trans h3⟩
theorem Apb.box {m : Mm} {k : Tok} {n : Nat} {e : TypeId} {z : Nat} (h : Apb m k n e z) {q : Nat} {cs : List V} {t : TypeId} (hq : m.obj q = some (.box cs t)) : k ≠ .own q := by
  rintro rfl
  rcases h with h | ⟨t, h1, _, h3⟩
  · cases h
  · injection h1 with h1; subst h1; rw [hq] at h3; cases h3
end Go.Proofs.YtdefefeifcdogaaGreat
