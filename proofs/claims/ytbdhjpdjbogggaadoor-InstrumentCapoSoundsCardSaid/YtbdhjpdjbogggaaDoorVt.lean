/- Running code on values by numbers, as far as it goes by itself. Nothing is proved of the program here. -/
import Derived.Test.YtbdhjpdjbogggaaDoorVs
namespace Go.Proofs.YtbdhjpdjbogggaaDoor
open Go.RowKit

/-- What an operation gives, where that is one thing and nothing is owed. -/
def exoOp (id base : Nat) (md : Option (List Nat)) (op : VO) (vals : List V) (m : Mm) : Option (V × Mm) :=
  match op with
  | .alloc t z => some (.ptr id 0, m.put id (.box z t))
  | .box t => match vals with | [x] => some (.ptr id 0, m.put id (.box x.cells t)) | _ => none
  | .mk e size bytes z => match vals with
    | [.lit (.int _ l), .lit (.int _ c)] => if 0 ≤ l ∧ l ≤ c ∧ c * bytes ≤ 140737488355328 ∧ c ≤ 140737488355328 ∧ z.length = size then some (.bsl id 0 l.toNat c.toNat, m.put id (.box (List.flatten (List.replicate c.toNat z)) e)) else none
    | _ => none
  | .ld1 => match vals with
    | [.ept xs o] => (xs[o]?).map fun v => (v, m)
    | [.ptr i o] => if rdable md base i = true then (match m.obj i with | some (.box cs _) => (cs[o]?).map fun v => (v, m) | _ => none) else none
    | _ => none
  | .ldA n => match vals with
    | [.ept xs o] => if o + n ≤ xs.length then some (.agg ((xs.drop o).take n), m) else none
    | [.ptr i o] => if rdable md base i = true then (match m.obj i with | some (.box cs _) => if o + n ≤ cs.length then some (.agg ((cs.drop o).take n), m) else none | _ => none) else none
    | _ => none
  | .st n => match md, vals with
    | none, [.ptr i o, v] => match m.obj i with
      | some (.box cs t) => if v.cells.length = n ∧ v.cells.all V.one = true ∧ o + n ≤ cs.length then some (vund, m.put i (.box (splice cs o v.cells) t)) else none
      | _ => none
    | _, _ => none
  | .app e size bytes => match vals with
    | [.sl n xs k, .sl j ys _] => match k with
      | .exact => if xs.length = n * size ∧ ys.length = j * size ∧ (n + j) * bytes ≤ 140737488355328 ∧ n + j ≤ maxLen then some (.sl (n + j) (xs ++ ys) (.own id), m.put id (.row (n + j) e size)) else none
      | .own t => match md, m.obj t with
        | none, some (.row n' e' s') => if (xs.length = n * size ∧ ys.length = j * size ∧ (n + j) * bytes ≤ 140737488355328 ∧ n + j ≤ maxLen) ∧ n' = n ∧ e' = e ∧ s' = size then some (.sl (n + j) (xs ++ ys) (.own t), m.put t (.row (n + j) e size)) else none
        | _, _ => none
      | .no => none
    | _ => none
  | .appB _ _ _ | .eqN _ | .call _ | .callv | .callB _ => none
  | op => (pureSem op vals).map fun v => (v, m)

theorem exoOp_sem {P : Program} {G : Ground} {id base : Nat} {md : Option (List Nat)} {op : VO} {vals : List V} {m : Mm} {K : V → Mm → Prop} {r : V} {m' : Mm} (h : exoOp id base md op vals m = some (r, m')) (hK : K r m') : sem P G id base md op vals m K := by
  cases op <;> simp only [exoOp] at h <;> simp only [sem]
  case alloc => cases h; exact hK
  case box => split at h <;> cases h; exact hK
  case mk =>
    split at h
    · split at h
      · rename_i hh; cases h; exact ⟨hh.1, hh.2.1, hh.2.2.1, hh.2.2.2.1, hh.2.2.2.2, hK⟩
      · cases h
    · cases h
  case ld1 =>
    split at h
    · rw [Option.map_eq_some_iff] at h
      obtain ⟨v, hv, e⟩ := h
      cases e
      simp only [hv]; exact hK
    · split at h
      · rename_i hrd
        refine ⟨hrd, ?_⟩
        split at h
        · rename_i ho
          rw [Option.map_eq_some_iff] at h
          obtain ⟨v, hv, e⟩ := h
          cases e
          simp only [ho, hv]; exact hK
        · cases h
      · cases h
    · cases h
  case ldA =>
    split at h
    · split at h
      · rename_i hl; cases h; exact ⟨hl, hK⟩
      · cases h
    · split at h
      · rename_i hrd
        refine ⟨hrd, ?_⟩
        split at h
        · rename_i ho
          split at h
          · rename_i hl; cases h; simp only [ho]; exact ⟨hl, hK⟩
          · cases h
        · cases h
      · cases h
    · cases h
  case st =>
    split at h
    · split at h
      · rename_i ho
        split at h
        · rename_i hh; cases h; simp only [ho]; exact ⟨hh.1, hh.2.1, hh.2.2, hK⟩
        · cases h
      · cases h
    · cases h
  case app =>
    split at h
    · split at h
      · split at h
        · rename_i hh; cases h; exact ⟨hh.1, hh.2.1, hh.2.2.1, hh.2.2.2, hK⟩
        · cases h
      · split at h
        · rename_i ho
          split at h
          · rename_i hh; cases h; simp only [ho]; exact ⟨hh.1.1, hh.1.2.1, hh.1.2.2.1, hh.1.2.2.2, trivial, hh.2.1, hh.2.2.1, hh.2.2.2, hK⟩
          · cases h
        · cases h
      · cases h
    · cases h
  all_goals first
    | (cases h; done)
    | (cases h; exact hK)
    | (rw [Option.map_eq_some_iff] at h
       obtain ⟨v, hv, e⟩ := h
       cases e
       rw [hv]; exact hK)

def exo (base idx : Nat) (vi : VI) (s : St) : Option St :=
  if vi.on s = true then (exoOp (base + idx) base vi.mode vi.op (vi.args.map s.ev) s.m).map fun p => ⟨putT s.t vi.dst p.1, p.2⟩ else some ⟨putT s.t vi.dst vund, s.m⟩

def VO.stops : VO → Bool
  | .app _ _ _ | .appB _ _ _ | .eqN _ | .call _ | .callv | .callB _ => true
  | _ => false

section
variable (P : Program) (G : Ground)
/-- A region, run as far as it goes. -/
def goR (base : Nat) : Option St → List VI → Nat → (St → Prop) → Prop
  | none, _, _, _ => False
  | some s, [], _, K => K s
  | some s, vi :: l, i, K => if vi.op.stops = true then vrun P G base i (vi :: l) s K else goR base (exo base i vi s) l (i + 1) K
/-- A test. -/
def condR (v : V) (a b : VC) (Q : VX → St → Prop) (s : St) : Prop :=
  match v with
  | .lit (.bool t) => if t = true then a.vx P G Q s else b.vx P G Q s
  | _ => False
end
section
variable {P : Program} {G : Ground}
theorem goR_vrun {base : Nat} {K : St → Prop} : ∀ (l : List VI) (i : Nat) (s : St), goR P G base (some s) l i K → vrun P G base i l s K
  | [], i, s, h => by rw [goR] at h; rw [vrun]; exact h
  | vi :: l, i, s, h => by
    rw [goR] at h
    split at h
    · exact h
    · rw [vrun]
      unfold vstep
      unfold exo at h
      by_cases ho : vi.on s = true
      · rw [if_pos ho] at h ⊢
        cases hx : exoOp (base + i) base vi.mode vi.op (vi.args.map s.ev) s.m with
        | none => rw [hx, Option.map_none, goR] at h; exact h.elim
        | some p =>
          rw [hx, Option.map_some] at h
          exact exoOp_sem (r := p.1) (m' := p.2) hx (goR_vrun l (i + 1) _ h)
      · rw [if_neg ho] at h ⊢
        exact goR_vrun l (i + 1) _ h
theorem putT_get (t : Nat → V) (n i : Nat) (v : V) : putT t (some n) v i = if i = n then v else t i := rfl
theorem putT_none (t : Nat → V) (v : V) : putT t none v = t := rfl
theorem put_obj (m : Mm) (i j : Nat) (o : AObj) : (m.put i o).obj j = if j = i then some o else m.obj j := rfl
theorem put_next (m : Mm) (i : Nat) (o : AObj) : (m.put i o).next = m.next := rfl
theorem goR_if {base : Nat} {K : St → Prop} {c : Prop} [Decidable c] {x y : Option St} {l : List VI} {i : Nat} (hc : c) (h : goR P G base x l i K) : goR P G base (if c then x else y) l i K := by rw [if_pos hc]; exact h
theorem goR_ifm {base : Nat} {K : St → Prop} {c : Prop} [Decidable c] {α : Type} {f : α → St} {x y : Option α} {l : List VI} {i : Nat} (hc : c) (h : goR P G base (x.map f) l i K) : goR P G base ((if c then x else y).map f) l i K := by rw [if_pos hc]; exact h
/-! ### The rules of a run -/
theorem x_ops {k : Nat} {l : List VI} {Q : VX → St → Prop} {s : St} (h : goR P G s.m.next (some ⟨s.t, ⟨s.m.obj, s.m.next + k⟩⟩) l 0 (Q .nrm)) : (VC.ops k l).vx P G Q s := by
  rw [VC.vx]; exact goR_vrun l 0 _ h
theorem x_seq {a b : VC} {Q : VX → St → Prop} {s : St} (h : a.vx P G (VX.then (b.vx P G Q) Q) s) : (VC.seq a b).vx P G Q s := by rw [VC.vx]; exact h
theorem x_block {id : Nat} {b : VC} {Q : VX → St → Prop} {s : St} (h : b.vx P G (VX.inBlock id Q) s) : (VC.block id b).vx P G Q s := by rw [VC.vx]; exact h
theorem x_scope {b : VC} {Q : VX → St → Prop} {s : St} (h : b.vx P G Q s) : (VC.scope b).vx P G Q s := by rw [VC.vx]; exact h
theorem x_skip {Q : VX → St → Prop} {s : St} (h : Q .nrm s) : VC.skip.vx P G Q s := by rw [VC.vx]; exact h
theorem x_ret {Q : VX → St → Prop} {s : St} (h : Q .ret s) : VC.ret.vx P G Q s := by rw [VC.vx]; exact h
theorem x_exit {id : Nat} {Q : VX → St → Prop} {s : St} (h : Q (.exit id) s) : (VC.exit id).vx P G Q s := by rw [VC.vx]; exact h
theorem x_cond {c : Opd} {a b : VC} {Q : VX → St → Prop} {s : St} (h : condR P G (s.ev c) a b Q s) : (VC.cond c a b).vx P G Q s := by rw [VC.vx]; exact h
theorem x_if {t : Bool} {a b : VC} {Q : VX → St → Prop} {s : St} (h1 : t = true → a.vx P G Q s) (h2 : t = false → b.vx P G Q s) : condR P G (.lit (.bool t)) a b Q s := by
  unfold condR
  cases t
  · exact h2 rfl
  · exact h1 rfl
theorem x_condF {a b : VC} {Q : VX → St → Prop} {s : St} (h : b.vx P G Q s) : condR P G (.lit (.bool false)) a b Q s := h
theorem x_condT {a b : VC} {Q : VX → St → Prop} {s : St} (h : a.vx P G Q s) : condR P G (.lit (.bool true)) a b Q s := h
theorem x_loop {b : VC} {Q : VX → St → Prop} {s : St} (I : St → Prop) (μ : St → Nat) (h0 : I s) (h : ∀ s', I s' → b.vx P G (VX.then (fun s'' => I s'' ∧ μ s'' < μ s') Q) s') : (VC.loop b).vx P G Q s := by
  rw [VC.vx]; exact ⟨I, μ, h0, h⟩
theorem x_call {base i : Nat} {d : Option Nat} {f : FuncId} {xs : List Opd} {l : List VI} {s : St} {K : St → Prop} {vs : List V} {r : V} (md : Option (List Nat)) (hf : Fn P G f vs r) (hv : V.norms (xs.map s.ev) = vs) (h : goR P G base (some ⟨putT s.t d r, s.m⟩) l (i + 1) K) :
    vrun P G base i (⟨d, none, .call f, xs, md⟩ :: l) s K := by
  rw [vrun]
  unfold vstep VI.on
  simp only [if_true, sem, callSem]
  have hk := goR_vrun l (i + 1) _ h
  cases md with
  | none => exact ⟨vs, _, .inr hv.symm, hf s.m, ⟨r, s.m, rfl, rfl⟩, by rintro r' m' ⟨rfl, rfl⟩; exact hk⟩
  | some anc => exact ⟨vs, r, .inr hv.symm, fun m' _ _ => hf m', hk⟩
/-- The number in a slot. -/
def numOf : V → Nat
  | .lit (.int _ n) => n.toNat
  | _ => 0
/-- A slice that may grow: nothing is known of it but that it has no room, or it has a row of this call's own. -/
def Ap (n0 : Nat) (m : Mm) (k : Tok) (n : Nat) (e : TypeId) (size : Nat) : Prop := k = .exact ∨ ∃ t, k = .own t ∧ n0 ≤ t ∧ m.obj t = some (.row n e size)
theorem x_app {base i : Nat} {d : Option Nat} {e : TypeId} {size bytes : Nat} {x y : Opd} {l : List VI} {s : St} {K : St → Prop} {n j : Nat} {xs ys : List V} {k k2 : Tok} (n0 : Nat) (hx : s.ev x = .sl n xs k) (hy : s.ev y = .sl j ys k2) (hap : Ap n0 s.m k n e size)
    (h1 : xs.length = n * size) (h2 : ys.length = j * size) (h3 : (n + j) * bytes ≤ 140737488355328) (h4 : n + j ≤ maxLen) (h0 : n0 ≤ base + i)
    (h : ∀ k' m', Ap n0 m' k' (n + j) e size → m'.next = s.m.next → (∀ q, q < n0 → m'.obj q = s.m.obj q) → (∀ q cs ty, s.m.obj q = some (.box cs ty) → q ≠ base + i → m'.obj q = some (.box cs ty)) → goR P G base (some ⟨putT s.t d (.sl (n + j) (xs ++ ys) k'), m'⟩) l (i + 1) K) :
    vrun P G base i (⟨d, none, .app e size bytes, [x, y], none⟩ :: l) s K := by
  rw [vrun]
  unfold vstep VI.on
  simp only [if_true, List.map_cons, List.map_nil, hx, hy, sem]
  refine ⟨h1, h2, h3, h4, ?_⟩
  rcases hap with rfl | ⟨t, rfl, ht, ho⟩
  · exact goR_vrun l (i + 1) _ (h _ _ (.inr ⟨base + i, rfl, h0, if_pos rfl⟩) rfl (fun q hq => if_neg (by omega)) (fun q cs ty hq hne => (if_neg hne).trans hq))
  · simp only [ho]
    exact ⟨trivial, trivial, trivial, trivial, goR_vrun l (i + 1) _ (h _ _ (.inr ⟨t, rfl, ht, if_pos rfl⟩) rfl (fun q hq => if_neg (by omega)) (fun q cs ty hq hne => (if_neg (fun e => by subst e; rw [ho] at hq; cases hq)).trans hq))⟩
/-- A test against nil. -/
theorem x_eqN {base i : Nat} {d : Option Nat} {neg : Bool} {x : Opd} {l : List VI} {s : St} {K : St → Prop} {n : Nat} {xs : List V} {k : Tok} (hx : s.ev x = .sl n xs k) (h : ∀ b, (xs ≠ [] → b = neg) → goR P G base (some ⟨putT s.t d (vbool b), s.m⟩) l (i + 1) K) :
    vrun P G base i (⟨d, none, .eqN neg, [x], none⟩ :: l) s K := by
  rw [vrun]
  unfold vstep VI.on
  simp only [if_true, List.map_cons, List.map_nil, hx, sem]
  exact fun b hb => goR_vrun l (i + 1) _ (h b hb)
/-- A call with memory. -/
theorem x_scall {base i : Nat} {d : Option Nat} {f : FuncId} {xs : List Opd} {l : List VI} {s : St} {K : St → Prop} {vs : List V} {Post : V → Mm → Prop} (hf : SFn P G f vs s.m Post) (hv : V.norms (xs.map s.ev) = vs) (hne : ∃ r m', Post r m')
    (h : ∀ r m', Post r m' → goR P G base (some ⟨putT s.t d r, m'⟩) l (i + 1) K) : vrun P G base i (⟨d, none, .call f, xs, none⟩ :: l) s K := by
  rw [vrun]
  unfold vstep VI.on
  simp only [if_true, sem, callSem]
  exact ⟨vs, Post, .inr hv.symm, hf, hne, fun r m' hP => goR_vrun l (i + 1) _ (h r m' hP)⟩
/-- A call that gives a box of its own. -/
theorem x_callB {base i : Nat} {d : Option Nat} {f : FuncId} {xs : List Opd} {l : List VI} {s : St} {K : St → Prop} {vs : List V} {n : Nat} {cs : List V} {e : TypeId} (md : Option (List Nat)) (hf : BFn P G f vs n cs e) (hv : V.norms (xs.map s.ev) = vs)
    (h : if n = 0 then goR P G base (some ⟨putT s.t d (.sl 0 [] .exact), s.m⟩) l (i + 1) K else goR P G base (some ⟨putT s.t d (.bsl (base + i) 0 n n), s.m.put (base + i) (.box cs e)⟩) l (i + 1) K) :
    vrun P G base i (⟨d, none, .callB f, xs, md⟩ :: l) s K := by
  rw [vrun]
  unfold vstep VI.on
  simp only [if_true, sem]
  refine ⟨vs, n, cs, e, .inr hv.symm, hf, ?_⟩
  split
  · rename_i h0; rw [if_pos h0] at h; exact goR_vrun l (i + 1) _ h
  · rename_i h0; rw [if_neg h0] at h; exact goR_vrun l (i + 1) _ h
/-- An append that makes a box. -/
theorem x_appB {base i : Nat} {d : Option Nat} {e : TypeId} {size bytes : Nat} {x y : Opd} {l : List VI} {s : St} {K : St → Prop} {n j : Nat} {xs ys : List V} {k2 : Tok} {md : Option (List Nat)} (hx : s.ev x = .sl n xs .exact) (hy : s.ev y = .sl j ys k2)
    (h1 : xs.length = n * size) (h2 : ys.length = j * size) (h3 : (n + j) * bytes ≤ 140737488355328) (h4 : n + j ≤ maxLen)
    (h : if j = 0 then goR P G base (some ⟨putT s.t d (.sl n xs .exact), s.m⟩) l (i + 1) K else goR P G base (some ⟨putT s.t d (.bsl (base + i) 0 (n + j) (n + j)), s.m.put (base + i) (.box (xs ++ ys) e)⟩) l (i + 1) K) :
    vrun P G base i (⟨d, none, .appB e size bytes, [x, y], md⟩ :: l) s K := by
  rw [vrun]
  unfold vstep VI.on
  simp only [if_true, List.map_cons, List.map_nil, hx, hy, sem]
  refine ⟨h1, h2, h3, h4, trivial, ?_⟩
  split
  · rename_i h0; rw [if_pos h0] at h; exact goR_vrun l (i + 1) _ h
  · rename_i h0; rw [if_neg h0] at h; exact goR_vrun l (i + 1) _ h
/-- An append to a slice that has no room. -/
theorem x_appE {base i : Nat} {d : Option Nat} {e : TypeId} {size bytes : Nat} {x y : Opd} {l : List VI} {s : St} {K : St → Prop} {n j : Nat} {xs ys : List V} {k2 : Tok} {md : Option (List Nat)} (hx : s.ev x = .sl n xs .exact) (hy : s.ev y = .sl j ys k2)
    (h1 : xs.length = n * size) (h2 : ys.length = j * size) (h3 : (n + j) * bytes ≤ 140737488355328) (h4 : n + j ≤ maxLen)
    (h : goR P G base (some ⟨putT s.t d (.sl (n + j) (xs ++ ys) (.own (base + i))), s.m.put (base + i) (.row (n + j) e size)⟩) l (i + 1) K) :
    vrun P G base i (⟨d, none, .app e size bytes, [x, y], md⟩ :: l) s K := by
  rw [vrun]
  unfold vstep VI.on
  simp only [if_true, List.map_cons, List.map_nil, hx, hy, sem]
  exact ⟨h1, h2, h3, h4, goR_vrun l (i + 1) _ h⟩
end
end Go.Proofs.YtbdhjpdjbogggaaDoor
