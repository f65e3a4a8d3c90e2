/- Running code on values by numbers, as far as it goes by itself. What a function returns may be its own boxes: nobody writes them any more. Boxes that are handed to a call which only reads: they stand for good from then on. Boxes that are seen as what stands for good, whole structures of them; calls that only compute, from an empty memory; boxes that are lent to a call. -/
import Derived.Test.YtdefefeifcdogaaGreatVs
set_option linter.unusedSimpArgs false
set_option linter.unusedVariables false
namespace Go.Proofs.YtdefefeifcdogaaGreat
open Go.RowKit

/-- What an operation gives, where that is one thing and nothing is owed. -/
def exoOp (id base : Nat) (md : Option (List Nat)) (op : VO) (vals : List V) (m : Mm) : Option (V × Mm) :=
  match op with
  | .alloc t z => some (.ptr id 0, m.put id (.box z t))
  | .box t => match vals with | [x] => some (.ptr id 0, m.put id (.box x.cells t)) | _ => none
  | .mk e size bytes z => match vals with
    | [.lit (.int _ l), .lit (.int _ c)] => if 0 ≤ l ∧ l ≤ c ∧ c * bytes ≤ 140737488355328 ∧ c ≤ 140737488355328 ∧ z.length = size then some (.bsl id 0 l.toNat c.toNat, m.put id (.box (List.flatten (List.replicate c.toNat z)) e)) else none
    | _ => none
  | .ld1 => match vals with
    | [.ept xs o] => (xs[o]?).map fun v => (v, m)
    | [.ptr i o] => if rdable md base i = true then (match m.obj i with | some (.box cs _) => (cs[o]?).map fun v => (v, m) | _ => none) else none
    | _ => none
  | .ldA n => match vals with
    | [.ept xs o] => if o + n ≤ xs.length then some (.agg ((xs.drop o).take n), m) else none
    | [.ptr i o] => if rdable md base i = true then (match m.obj i with | some (.box cs _) => if o + n ≤ cs.length then some (.agg ((cs.drop o).take n), m) else none | _ => none) else none
    | _ => none
  | .st n => match vals with
    | [.ptr i o, v] => if stOk md base i = true then (match m.obj i with
      | some (.box cs t) => if v.cells.length = n ∧ v.cells.all V.one = true ∧ o + n ≤ cs.length then some (vund, m.put i (.box (splice cs o v.cells) t)) else none
      | _ => none) else none
    | _ => none
  | .app e size bytes => match vals with
    | [.sl n xs k, .sl j ys _] => match k with
      | .exact => if xs.length = n * size ∧ ys.length = j * size ∧ (n + j) * bytes ≤ 140737488355328 ∧ n + j ≤ maxLen then some (.sl (n + j) (xs ++ ys) (.own id), m.put id (.row (n + j) e size)) else none
      | .own t => match ownOk md base t, m.obj t with
        | true, some (.row n' e' s') => if (xs.length = n * size ∧ ys.length = j * size ∧ (n + j) * bytes ≤ 140737488355328 ∧ n + j ≤ maxLen) ∧ n' = n ∧ e' = e ∧ s' = size then some (.sl (n + j) (xs ++ ys) (.own t), m.put t (.row (n + j) e size)) else none
        | _, _ => none
      | .no => none
    | _ => none
  | .mkslB e n size z pl => if pl.length = vals.length ∧ z.length = n * size then (vfill z (pl.zip vals)).map fun cs => (.gsl id n size, m.put id (.box cs e)) else none
  | .appB _ _ _ | .appM _ _ _ | .appL _ _ _ | .eqN _ | .call _ | .callv | .callB _ | .callL _ _ | .cpy | .clr _ _ => none
  | .mkmap ks => if md = none then some (.mp id, m.put id (.oth (.map ks []))) else none
  | .mlk ks ok => if md = none then (match vals with
    | [.mp i, key] => match m.obj i, keyOf ks key with
      | some (.oth (.map ks' es)), some k => if ks' = ks then some (mans ok (mget es k), m) else none
      | _, _ => none
    | _ => none) else none
  | .mput ks => if md = none then (match vals with
    | [.mp i, key, .lit (.int .i64 n)] => match m.obj i, keyOf ks key with
      | some (.oth (.map ks' es)), some k => if ks' = ks then some (vund, m.put i (.oth (.map ks (mset es k n)))) else none
      | _, _ => none
    | _ => none) else none
  | op => (pureSem op vals).map fun v => (v, m)

theorem exoOp_sem {P : Program} {G : Ground} {id base : Nat} {md : Option (List Nat)} {op : VO} {vals : List V} {m : Mm} {K : V → Mm → Prop} {r : V} {m' : Mm} (h : exoOp id base md op vals m = some (r, m')) (hK : K r m') : sem P G id base md op vals m K := by
  cases op <;> simp only [exoOp] at h <;> simp only [sem]
  case alloc => cases h; exact hK
  case box => split at h <;> cases h; exact hK
  case mk =>
    split at h
    · split at h
      · rename_i hh; cases h; exact ⟨hh.1, hh.2.1, hh.2.2.1, hh.2.2.2.1, hh.2.2.2.2, hK⟩
      · cases h
    · cases h
  case ld1 =>
    split at h
    · rw [Option.map_eq_some_iff] at h
      obtain ⟨v, hv, e⟩ := h
      cases e
      simp only [hv]; exact hK
    · split at h
      · rename_i hrd
        refine ⟨hrd, ?_⟩
        split at h
        · rename_i ho
          rw [Option.map_eq_some_iff] at h
          obtain ⟨v, hv, e⟩ := h
          cases e
          simp only [ho, hv]; exact hK
        · cases h
      · cases h
    · cases h
  case ldA =>
    split at h
    · split at h
      · rename_i hl; cases h; exact ⟨hl, hK⟩
      · cases h
    · split at h
      · rename_i hrd
        refine ⟨hrd, ?_⟩
        split at h
        · rename_i ho
          split at h
          · rename_i hl; cases h; simp only [ho]; exact ⟨hl, hK⟩
          · cases h
        · cases h
      · cases h
    · cases h
  case st =>
    split at h
    · split at h
      · rename_i hok
        refine ⟨hok, ?_⟩
        split at h
        · rename_i ho
          split at h
          · rename_i hh; cases h; simp only [ho]; exact ⟨hh.1, hh.2.1, hh.2.2, hK⟩
          · cases h
        · cases h
      · cases h
    · cases h
  case mkslB =>
    split at h
    · rename_i h0
      rw [Option.map_eq_some_iff] at h
      obtain ⟨cs, hcs, e⟩ := h
      cases e
      rw [if_pos h0, hcs]; exact hK
    · cases h
  case app =>
    split at h
    · split at h
      · split at h
        · rename_i hh; cases h; exact ⟨hh.1, hh.2.1, hh.2.2.1, hh.2.2.2, hK⟩
        · cases h
      · split at h
        · rename_i hok ho
          split at h
          · rename_i hh; cases h; simp only [ho]; exact ⟨hh.1.1, hh.1.2.1, hh.1.2.2.1, hh.1.2.2.2, hok, hh.2.1, hh.2.2.1, hh.2.2.2, hK⟩
          · cases h
        · cases h
      · cases h
    · cases h
  case mkmap =>
    split at h
    · rename_i hmd; subst hmd; cases h; exact hK
    · cases h
  case mlk =>
    split at h
    · rename_i hmd
      subst hmd
      split at h
      · split at h
        · rename_i ho hk
          split at h
          · rename_i hks; cases h; simp only [ho, hk]; exact ⟨hks, hK⟩
          · cases h
        · cases h
      · cases h
    · cases h
  case mput =>
    split at h
    · rename_i hmd
      subst hmd
      split at h
      · split at h
        · rename_i ho hk
          split at h
          · rename_i hks; cases h; simp only [ho, hk]; exact ⟨hks, hK⟩
          · cases h
        · cases h
      · cases h
    · cases h
  all_goals first
    | (cases h; done)
    | (cases h; exact hK)
    | (rw [Option.map_eq_some_iff] at h
       obtain ⟨v, hv, e⟩ := h
       cases e
       rw [hv]; exact hK)

def exo (base idx : Nat) (vi : VI) (s : St) : Option St :=
  if vi.on s = true then (exoOp (base + idx) base vi.mode vi.op (vi.args.map s.ev) s.m).map fun p => ⟨putT s.t vi.dst p.1, p.2⟩ else some ⟨putT s.t vi.dst vund, s.m⟩

def VO.stops : VO → Bool
  | .app _ _ _ | .appB _ _ _ | .appM _ _ _ | .appL _ _ _ | .eqN _ | .call _ | .callv | .callB _ | .callL _ _ | .cpy | .clr _ _ => true
  | _ => false

section
variable (P : Program) (G : Ground)
/-- A region, run as far as it goes. -/
def goR (base : Nat) : Option St → List VI → Nat → (St → Prop) → Prop
  | none, _, _, _ => False
  | some s, [], _, K => K s
  | some s, vi :: l, i, K => if vi.op.stops = true then vrun P G base i (vi :: l) s K else goR base (exo base i vi s) l (i + 1) K
/-- A test. -/
def condR (v : V) (a b : VC) (Q : VX → St → Prop) (s : St) : Prop :=
  match v with
  | .lit (.bool t) => if t = true then a.vx P G Q s else b.vx P G Q s
  | _ => False
end
section
variable {P : Program} {G : Ground}
theorem goR_vrun {base : Nat} {K : St → Prop} : ∀ (l : List VI) (i : Nat) (s : St), goR P G base (some s) l i K → vrun P G base i l s K
  | [], i, s, h => by rw [goR] at h; rw [vrun]; exact h
  | vi :: l, i, s, h => by
    rw [goR] at h
    split at h
    · exact h
    · rw [vrun]
      unfold vstep
      unfold exo at h
      by_cases ho : vi.on s = true
      · rw [if_pos ho] at h ⊢
        cases hx : exoOp (base + i) base vi.mode vi.op (vi.args.map s.ev) s.m with
        | none => rw [hx, Option.map_none, goR] at h; exact h.elim
        | some p =>
          rw [hx, Option.map_some] at h
          exact exoOp_sem (r := p.1) (m' := p.2) hx (goR_vrun l (i + 1) _ h)
      · rw [if_neg ho] at h ⊢
        exact goR_vrun l (i + 1) _ h
theorem putT_get (t : Nat → V) (n i : Nat) (v : V) : putT t (some n) v i = if i = n then v else t i := rfl
theorem putT_none (t : Nat → V) (v : V) : putT t none v = t := rfl
theorem put_obj (m : Mm) (i j : Nat) (o : AObj) : (m.put i o).obj j = if j = i then some o else m.obj j := rfl
theorem put_next (m : Mm) (i : Nat) (o : AObj) : (m.put i o).next = m.next := rfl
theorem goR_if {base : Nat} {K : St → Prop} {c : Prop} [Decidable c] {x y : Option St} {l : List VI} {i : Nat} (hc : c) (h : goR P G base x l i K) : goR P G base (if c then x else y) l i K := by rw [if_pos hc]; exact h
theorem goR_ifm {base : Nat} {K : St → Prop} {c : Prop} [Decidable c] {α : Type} {f : α → St} {x y : Option α} {l : List VI} {i : Nat} (hc : c) (h : goR P G base (x.map f) l i K) : goR P G base ((if c then x else y).map f) l i K := by rw [if_pos hc]; exact h
/-! ### The rules of a run -/
theorem x_ops {k : Nat} {l : List VI} {Q : VX → St → Prop} {s : St} (h : goR P G s.m.next (some ⟨s.t, ⟨s.m.obj, s.m.next + k⟩⟩) l 0 (Q .nrm)) : (VC.ops k l).vx P G Q s := by
  rw [VC.vx]; exact goR_vrun l 0 _ h
theorem x_seq {a b : VC} {Q : VX → St → Prop} {s : St} (h : a.vx P G (VX.then (b.vx P G Q) Q) s) : (VC.seq a b).vx P G Q s := by rw [VC.vx]; exact h
theorem x_block {id : Nat} {b : VC} {Q : VX → St → Prop} {s : St} (h : b.vx P G (VX.inBlock id Q) s) : (VC.block id b).vx P G Q s := by rw [VC.vx]; exact h
theorem x_scope {b : VC} {Q : VX → St → Prop} {s : St} (h : b.vx P G Q s) : (VC.scope b).vx P G Q s := by rw [VC.vx]; exact h
theorem x_skip {Q : VX → St → Prop} {s : St} (h : Q .nrm s) : VC.skip.vx P G Q s := by rw [VC.vx]; exact h
theorem x_ret {Q : VX → St → Prop} {s : St} (h : Q .ret s) : VC.ret.vx P G Q s := by rw [VC.vx]; exact h
theorem x_exit {id : Nat} {Q : VX → St → Prop} {s : St} (h : Q (.exit id) s) : (VC.exit id).vx P G Q s := by rw [VC.vx]; exact h
theorem x_cond {c : Opd} {a b : VC} {Q : VX → St → Prop} {s : St} (h : condR P G (s.ev c) a b Q s) : (VC.cond c a b).vx P G Q s := by rw [VC.vx]; exact h
theorem x_if {t : Bool} {a b : VC} {Q : VX → St → Prop} {s : St} (h1 : t = true → a.vx P G Q s) (h2 : t = false → b.vx P G Q s) : condR P G (.lit (.bool t)) a b Q s := by
  unfold condR
  cases t
  · exact h2 rfl
  · exact h1 rfl
theorem x_condF {a b : VC} {Q : VX → St → Prop} {s : St} (h : b.vx P G Q s) : condR P G (.lit (.bool false)) a b Q s := h
theorem x_condT {a b : VC} {Q : VX → St → Prop} {s : St} (h : a.vx P G Q s) : condR P G (.lit (.bool true)) a b Q s := h
theorem x_loop {b : VC} {Q : VX → St → Prop} {s : St} (I : St → Prop) (μ : St → Nat) (h0 : I s) (h : ∀ s', I s' → b.vx P G (VX.then (fun s'' => I s'' ∧ μ s'' < μ s') Q) s') : (VC.loop b).vx P G Q s := by
  rw [VC.vx]; exact ⟨I, μ, h0, h⟩
/-- A call with memory, boxes made later in the text beside it. -/
theorem x_callL {base i : Nat} {d : Option Nat} {f : FuncId} {js : List Nat} {xs : List Opd} {l : List VI} {s : St} {K : St → Prop} {Post : V → Mm → Prop} (vs : List V) (hv : xs.map s.ev = vs) (hf : SFn P G f vs s.m Post) (hne : ∃ r m', Post r m' ∧ KeepL base js s.m m')
    (h : ∀ r m', Post r m' → KeepL base js s.m m' → goR P G base (some ⟨putT s.t d r, m'⟩) l (i + 1) K) : vrun P G base i (⟨d, none, .callL f js, xs, none⟩ :: l) s K := by
  subst hv
  rw [vrun]
  unfold vstep VI.on
  simp only [if_true, sem]
  exact ⟨_, Post, .inl rfl, hf, hne, fun r m' hP hK => goR_vrun l (i + 1) _ (h r m' hP hK)⟩
/-- A call that only computes. -/
theorem x_callLF {base i : Nat} {d : Option Nat} {f : FuncId} {js : List Nat} {xs : List Opd} {l : List VI} {s : St} {K : St → Prop} {vs : List V} {r : V} (hf : Fn P G f vs r) (hv : V.norms (xs.map s.ev) = vs) (h : goR P G base (some ⟨putT s.t d r, s.m⟩) l (i + 1) K) :
    vrun P G base i (⟨d, none, .callL f js, xs, none⟩ :: l) s K := by
  rw [vrun]
  unfold vstep VI.on
  simp only [if_true, sem]
  have hk := goR_vrun l (i + 1) _ h
  exact ⟨vs, _, .inr hv.symm, hf s.m, ⟨r, s.m, ⟨rfl, rfl⟩, Nat.le_refl _, fun _ _ _ hn => hn⟩, by rintro r' m' ⟨rfl, rfl⟩ _; exact hk⟩
theorem x_call {base i : Nat} {d : Option Nat} {f : FuncId} {xs : List Opd} {l : List VI} {s : St} {K : St → Prop} {vs : List V} {r : V} (md : Option (List Nat)) (hf : Fn P G f vs r) (hv : V.norms (xs.map s.ev) = vs) (h : goR P G base (some ⟨putT s.t d r, s.m⟩) l (i + 1) K) :
    vrun P G base i (⟨d, none, .call f, xs, md⟩ :: l) s K := by
  rw [vrun]
  unfold vstep VI.on
  simp only [if_true, sem, callSem]
  have hk := goR_vrun l (i + 1) _ h
  cases md with
  | none => exact ⟨vs, _, .inr hv.symm, hf s.m, ⟨r, s.m, rfl, rfl⟩, by rintro r' m' ⟨rfl, rfl⟩; exact hk⟩
  | some anc => exact ⟨vs, r, .inr hv.symm, fun m' _ _ => hf m', hk⟩
/-- The number in a slot. -/
def numOf : V → Nat
  | .lit (.int _ n) => n.toNat
  | _ => 0
/-- A slice that may grow: nothing is known of it but that it has no room, or it has a row of this call's own. -/
def Ap (n0 : Nat) (m : Mm) (k : Tok) (n : Nat) (e : TypeId) (size : Nat) : Prop := k = .exact ∨ ∃ t, k = .own t ∧ n0 ≤ t ∧ m.obj t = some (.row n e size)
theorem x_app {base i : Nat} {d : Option Nat} {e : TypeId} {size bytes : Nat} {x y : Opd} {l : List VI} {s : St} {K : St → Prop} {n j : Nat} {xs ys : List V} {k k2 : Tok} (n0 : Nat) (hx : s.ev x = .sl n xs k) (hy : s.ev y = .sl j ys k2) (hap : Ap n0 s.m k n e size)
    (h1 : xs.length = n * size) (h2 : ys.length = j * size) (h3 : (n + j) * bytes ≤ 140737488355328) (h4 : n + j ≤ maxLen) (h0 : n0 ≤ base + i)
    (h : ∀ k' m', Ap n0 m' k' (n + j) e size → m'.next = s.m.next → (∀ q, q < n0 → m'.obj q = s.m.obj q) → (∀ q cs ty, s.m.obj q = some (.box cs ty) → q ≠ base + i → m'.obj q = some (.box cs ty)) → goR P G base (some ⟨putT s.t d (.sl (n + j) (xs ++ ys) k'), m'⟩) l (i + 1) K) :
    vrun P G base i (⟨d, none, .app e size bytes, [x, y], none⟩ :: l) s K := by
  rw [vrun]
  unfold vstep VI.on
  simp only [if_true, List.map_cons, List.map_nil, hx, hy, sem]
  refine ⟨h1, h2, h3, h4, ?_⟩
  rcases hap with rfl | ⟨t, rfl, ht, ho⟩
  · exact goR_vrun l (i + 1) _ (h _ _ (.inr ⟨base + i, rfl, h0, if_pos rfl⟩) rfl (fun q hq => if_neg (by omega)) (fun q cs ty hq hne => (if_neg hne).trans hq))
  · simp only [ho]
    exact ⟨rfl, trivial, trivial, trivial, goR_vrun l (i + 1) _ (h _ _ (.inr ⟨t, rfl, ht, if_pos rfl⟩) rfl (fun q hq => if_neg (by omega)) (fun q cs ty hq hne => (if_neg (fun e => by subst e; rw [ho] at hq; cases hq)).trans hq))⟩
/-- A test against nil. -/
theorem x_eqN {base i : Nat} {d : Option Nat} {neg : Bool} {x : Opd} {l : List VI} {s : St} {K : St → Prop} {n : Nat} {xs : List V} {k : Tok} (hx : s.ev x = .sl n xs k) (h : ∀ b, (xs ≠ [] → b = neg) → goR P G base (some ⟨putT s.t d (vbool b), s.m⟩) l (i + 1) K) :
    vrun P G base i (⟨d, none, .eqN neg, [x], none⟩ :: l) s K := by
  rw [vrun]
  unfold vstep VI.on
  simp only [if_true, List.map_cons, List.map_nil, hx, sem]
  exact fun b hb => goR_vrun l (i + 1) _ (h b hb)
/-- A call with memory. -/
theorem x_scall {base i : Nat} {d : Option Nat} {f : FuncId} {xs : List Opd} {l : List VI} {s : St} {K : St → Prop} {vs : List V} {Post : V → Mm → Prop} (hf : SFn P G f vs s.m Post) (hv : V.norms (xs.map s.ev) = vs) (hne : ∃ r m', Post r m')
    (h : ∀ r m', Post r m' → goR P G base (some ⟨putT s.t d r, m'⟩) l (i + 1) K) : vrun P G base i (⟨d, none, .call f, xs, none⟩ :: l) s K := by
  rw [vrun]
  unfold vstep VI.on
  simp only [if_true, sem, callSem]
  exact ⟨vs, Post, .inr hv.symm, hf, hne, fun r m' hP => goR_vrun l (i + 1) _ (h r m' hP)⟩
/-- A call that gives a box of its own. -/
theorem x_callB {base i : Nat} {d : Option Nat} {f : FuncId} {xs : List Opd} {l : List VI} {s : St} {K : St → Prop} {vs : List V} {n : Nat} {cs : List V} {e : TypeId} (md : Option (List Nat)) (hf : BFn P G f vs n cs e) (hv : V.norms (xs.map s.ev) = vs)
    (h : if n = 0 then goR P G base (some ⟨putT s.t d (.sl 0 [] .exact), s.m⟩) l (i + 1) K else goR P G base (some ⟨putT s.t d (.bsl (base + i) 0 n n), s.m.put (base + i) (.box cs e)⟩) l (i + 1) K) :
    vrun P G base i (⟨d, none, .callB f, xs, md⟩ :: l) s K := by
  rw [vrun]
  unfold vstep VI.on
  simp only [if_true, sem]
  refine ⟨vs, n, cs, e, .inr hv.symm, by unfold BFnM; split; exact hf s.m; exact fun m' _ _ => hf m', ?_⟩
  split
  · rename_i h0; rw [if_pos h0] at h; exact goR_vrun l (i + 1) _ h
  · rename_i h0; rw [if_neg h0] at h; exact goR_vrun l (i + 1) _ h
/-- An append that makes a box. -/
theorem x_appB {base i : Nat} {d : Option Nat} {e : TypeId} {size bytes : Nat} {x y : Opd} {l : List VI} {s : St} {K : St → Prop} {n j : Nat} {xs ys : List V} {k2 : Tok} {md : Option (List Nat)} (hx : s.ev x = .sl n xs .exact) (hy : s.ev y = .sl j ys k2)
    (h1 : xs.length = n * size) (h2 : ys.length = j * size) (h3 : (n + j) * bytes ≤ 140737488355328) (h4 : n + j ≤ maxLen)
    (h : if j = 0 then goR P G base (some ⟨putT s.t d (.sl n xs .exact), s.m⟩) l (i + 1) K else goR P G base (some ⟨putT s.t d (.bsl (base + i) 0 (n + j) (n + j)), s.m.put (base + i) (.box (xs ++ ys) e)⟩) l (i + 1) K) :
    vrun P G base i (⟨d, none, .appB e size bytes, [x, y], md⟩ :: l) s K := by
  rw [vrun]
  unfold vstep VI.on
  simp only [if_true, List.map_cons, List.map_nil, hx, hy, sem]
  have hy' : (if md = none then rdS s.m size (.sl j ys k2) else rdL size (.sl j ys k2)) = some (j, ys) := by split <;> simp only [rdS, rdL, if_pos h2]
  rw [hy']
  refine ⟨h1, h3, h4, trivial, ?_⟩
  split
  · rename_i h0; rw [if_pos h0] at h; exact goR_vrun l (i + 1) _ h
  · rename_i h0; rw [if_neg h0] at h; exact goR_vrun l (i + 1) _ h
/-- An append that moves a box that may grow. -/
theorem x_appM {base i : Nat} {d : Option Nat} {e : TypeId} {size bytes : Nat} {x y : Opd} {l : List VI} {s : St} {K : St → Prop} {q n j : Nat} {cs ys : List V} (hx : s.ev x = .gsl q n size) (hy : rdS s.m size (s.ev y) = some (j, ys)) (ho : s.m.obj q = some (.box cs e))
    (h1 : n * size ≤ cs.length) (h2 : (cs.take (n * size)).all V.one = true) (h3 : (n + j) * bytes ≤ 140737488355328) (h4 : n + j ≤ maxLen)
    (h : goR P G base (some ⟨putT s.t d (.gsl (base + i) (n + j) size), (s.m.del q).put (base + i) (.box (cs.take (n * size) ++ ys) e)⟩) l (i + 1) K) :
    vrun P G base i (⟨d, none, .appM e size bytes, [x, y], none⟩ :: l) s K := by
  rw [vrun]
  unfold vstep VI.on
  simp only [if_true, List.map_cons, List.map_nil, hx, sem, hy, ho]
  exact ⟨trivial, h3, h4, trivial, h1, h2, goR_vrun l (i + 1) _ h⟩
/-- The first append to such a slice: there was none. -/
theorem x_appM0 {base i : Nat} {d : Option Nat} {e : TypeId} {size bytes : Nat} {x y : Opd} {l : List VI} {s : St} {K : St → Prop} {n j : Nat} {xs ys : List V} (hx : s.ev x = .sl n xs .exact) (hy : rdS s.m size (s.ev y) = some (j, ys))
    (h1 : xs.length = n * size) (h3 : (n + j) * bytes ≤ 140737488355328) (h4 : n + j ≤ maxLen)
    (h : if j = 0 then goR P G base (some ⟨putT s.t d (.sl n xs .exact), s.m⟩) l (i + 1) K else goR P G base (some ⟨putT s.t d (.gsl (base + i) (n + j) size), s.m.put (base + i) (.box (xs ++ ys) e)⟩) l (i + 1) K) :
    vrun P G base i (⟨d, none, .appM e size bytes, [x, y], none⟩ :: l) s K := by
  rw [vrun]
  unfold vstep VI.on
  simp only [if_true, List.map_cons, List.map_nil, hx, sem, hy]
  refine ⟨trivial, h1, h3, h4, ?_⟩
  split
  · rename_i h0; rw [if_pos h0] at h; exact goR_vrun l (i + 1) _ h
  · rename_i h0; rw [if_neg h0] at h; exact goR_vrun l (i + 1) _ h
/-- An append to a slice that has no room. -/
theorem x_appE {base i : Nat} {d : Option Nat} {e : TypeId} {size bytes : Nat} {x y : Opd} {l : List VI} {s : St} {K : St → Prop} {n j : Nat} {xs ys : List V} {k2 : Tok} {md : Option (List Nat)} (hx : s.ev x = .sl n xs .exact) (hy : s.ev y = .sl j ys k2)
    (h1 : xs.length = n * size) (h2 : ys.length = j * size) (h3 : (n + j) * bytes ≤ 140737488355328) (h4 : n + j ≤ maxLen)
    (h : goR P G base (some ⟨putT s.t d (.sl (n + j) (xs ++ ys) (.own (base + i))), s.m.put (base + i) (.row (n + j) e size)⟩) l (i + 1) K) :
    vrun P G base i (⟨d, none, .app e size bytes, [x, y], md⟩ :: l) s K := by
  rw [vrun]
  unfold vstep VI.on
  simp only [if_true, List.map_cons, List.map_nil, hx, hy, sem]
  exact ⟨h1, h2, h3, h4, goR_vrun l (i + 1) _ h⟩
end
section
variable {P : Program} {G : Ground}
/-! Equations that the kernel is not to check by running what follows. -/
theorem then_nrm (K : St → Prop) (Q : VX → St → Prop) (s : St) : VX.then K Q .nrm s = K s := propext ⟨fun h => h, fun h => h⟩
theorem then_ret (K : St → Prop) (Q : VX → St → Prop) (s : St) : VX.then K Q .ret s = Q .ret s := propext ⟨fun h => h, fun h => h⟩
theorem then_exit (K : St → Prop) (Q : VX → St → Prop) (i : Nat) (s : St) : VX.then K Q (.exit i) s = Q (.exit i) s := propext ⟨fun h => h, fun h => h⟩
theorem inB_nrm (i : Nat) (Q : VX → St → Prop) (s : St) : VX.inBlock i Q .nrm s = Q .nrm s := propext ⟨fun h => h, fun h => h⟩
theorem inB_ret (i : Nat) (Q : VX → St → Prop) (s : St) : VX.inBlock i Q .ret s = Q .ret s := propext ⟨fun h => h, fun h => h⟩
theorem inB_exit (i j : Nat) (Q : VX → St → Prop) (s : St) : VX.inBlock i Q (.exit j) s = if j = i then Q .nrm s else Q (.exit j) s := propext ⟨fun h => h, fun h => h⟩
theorem gR_nil (base i : Nat) (s : St) (K : St → Prop) : goR P G base (some s) [] i K = K s := propext ⟨fun h => h, fun h => h⟩
theorem gR_cons (base i : Nat) (s : St) (vi : VI) (l : List VI) (K : St → Prop) : goR P G base (some s) (vi :: l) i K = if vi.op.stops = true then vrun P G base i (vi :: l) s K else goR P G base (exo base i vi s) l (i + 1) K := propext ⟨fun h => h, fun h => h⟩
end
end Go.Proofs.YtdefefeifcdogaaGreat
namespace Go.Proofs.YtdefefeifcdogaaGreat
open Go.RowKit

mutual
/-- As others may see it: boxes of the call's own, from number n0 on, stand for good. -/
def V.pubM (n0 : Nat) (m : Mm) : V → Option V
  | .lit v => some (.lit v)
  | .agg cs => (V.pubsM n0 m cs).map .agg
  | .tup cs => (V.pubsM n0 m cs).map .tup
  | .sl n xs _ => some (.sl n xs .no)
  | .ptr _ _ => none
  | .gsl _ _ _ => none
  | .bsl i off n _ => match m.obj i with
    | some (.box cs _) => if n0 ≤ i ∧ V.clean cs = true then some (.sl n (cs.drop off) .no) else none
    | _ => none
  | .ept xs o => some (.ept xs o)
  | .fn f cs => (V.pubsM n0 m cs).map (.fn f)
  | .mp _ => none
  | .yld _ => none
def V.pubsM (n0 : Nat) (m : Mm) : List V → Option (List V)
  | [] => some []
  | v :: l => (V.pubM n0 m v).bind fun u => (V.pubsM n0 m l).map fun us => u :: us
end

section
variable {E E' : Env} {n0 : Nat} {m : Mm}
/-- What E' must know of the boxes. -/
def Shown (E E' : Env) (n0 : Nat) (m : Mm) : Prop := (∀ b o v, E.M b o = some v → E'.M b o = some v) ∧ ∀ i cs t b, n0 ≤ i → m.obj i = some (.box cs t) → V.clean cs = true → E.φ i = some b → At E' b 0 cs
mutual
theorem VR.pubM (hs : Shown E E' n0 m) : ∀ {v u : V} {c : Value}, v.pubM n0 m = some u → VR E v c → VR E' u c ∧ u.pure = true
  | .lit _, _, _, hp, h => by rw [V.pubM] at hp; cases hp; rw [VR] at h ⊢; exact ⟨h, by rw [V.pure]⟩
  | .agg _, _, _, hp, h => by
    rw [V.pubM, Option.map_eq_some_iff] at hp
    obtain ⟨us, hus, rfl⟩ := hp
    rw [VR] at h; obtain ⟨a, e, h1⟩ := h
    have h2 := VRs.pubM hs hus h1
    exact ⟨by rw [VR]; exact ⟨a, e, h2.1⟩, by rw [V.pure]; exact h2.2⟩
  | .tup _, _, _, hp, h => by
    rw [V.pubM, Option.map_eq_some_iff] at hp
    obtain ⟨us, hus, rfl⟩ := hp
    rw [VR] at h; obtain ⟨a, e, h1⟩ := h
    have h2 := VRs.pubM hs hus h1
    exact ⟨by rw [VR]; exact ⟨a, e, h2.1⟩, by rw [V.pure]; exact h2.2⟩
  | .sl n xs k, _, c, hp, h => by
    rw [V.pubM] at hp; cases hp
    rw [VR] at h
    obtain ⟨A, cap, e, hn, _, hx⟩ := h
    have h1 : VR E (.sl n xs .no) c := by rw [VR]; exact ⟨A, cap, e, hn, trivial, hx⟩
    have hp : V.pure (.sl n xs .no) = true := by rw [V.pure]; intro t h; cases h
    exact ⟨VR.pureM hs.1 hp h1, hp⟩
  | .ptr _ _, _, _, hp, _ => by rw [V.pubM] at hp; cases hp
  | .gsl _ _ _, _, _, hp, _ => by rw [V.pubM] at hp; cases hp
  | .mp _, _, _, hp, _ => by rw [V.pubM] at hp; cases hp
  | .yld _, _, _, hp, _ => by rw [V.pubM] at hp; cases hp
  | .bsl i off n cap, _, _, hp, h => by
    rw [V.pubM] at hp
    rw [VR] at h
    obtain ⟨b, hφ, cap', e, hn, hc⟩ := h
    split at hp
    · rename_i cs t ho
      split at hp
      · rename_i hh
        cases hp
        obtain ⟨hi, hcl⟩ := hh
        refine ⟨?_, by rw [V.pure]; intro t h; cases h⟩
        rw [VR]
        have hat := (hs.2 i cs t b hi ho hcl hφ).drop off cs.length
        have hcd := clean_slice hcl off cs.length
        rw [Nat.zero_add, List.take_of_length_le (by rw [List.length_drop]; omega)] at hat
        rw [List.take_of_length_le (by rw [List.length_drop]; omega)] at hcd
        exact ⟨_, cap', e, Nat.le_trans hn hc, trivial, hcd, .inr ⟨b, off, rfl, hat⟩⟩
      · cases hp
    · cases hp
  | .ept xs o, _, _, hp, h => by
    rw [V.pubM] at hp; cases hp
    have hp : V.pure (.ept xs o) = true := by rw [V.pure]
    exact ⟨VR.pureM hs.1 hp h, hp⟩
  | .fn _ _, _, _, hp, h => by
    rw [V.pubM, Option.map_eq_some_iff] at hp
    obtain ⟨us, hus, rfl⟩ := hp
    rw [VR] at h; obtain ⟨a, e, h1⟩ := h
    have h2 := VRs.pubM hs hus h1
    exact ⟨by rw [VR]; exact ⟨a, e, h2.1⟩, by rw [V.pure]; exact h2.2⟩
theorem VRs.pubM (hs : Shown E E' n0 m) : ∀ {v u : List V} {c : List Value}, V.pubsM n0 m v = some u → VRs E v c → VRs E' u c ∧ V.pures u = true
  | [], _, _, hp, h => by rw [V.pubsM] at hp; cases hp; rw [VRs] at h ⊢; exact ⟨h, by rw [V.pures]⟩
  | v :: l, _, _, hp, h => by
    rw [V.pubsM, Option.bind_eq_some_iff] at hp
    obtain ⟨u, hu, hp⟩ := hp
    rw [Option.map_eq_some_iff] at hp
    obtain ⟨us, hus, rfl⟩ := hp
    rw [VRs] at h
    obtain ⟨c, cs, e, h1, h2⟩ := h
    have h3 := VR.pubM hs hu h1
    have h4 := VRs.pubM hs hus h2
    exact ⟨by rw [VRs]; exact ⟨c, cs, e, h3.1, h4.1⟩, by rw [V.pures, h3.2, h4.2]; rfl⟩
end
end

/-- Boxes of the call's own are shown, or forgotten. -/
theorem SFn.dropM {P : Program} {G : Ground} {f : FuncId} {args : List V} {m : Mm} {Q : V → Prop}
    (h : SFn P G f args m fun r' m' => ∃ r, r'.pubM m.next m' = some r ∧ Q r ∧ ∀ i, i < m.next → m'.obj i = m.obj i) : SFn P G f args m fun r' m' => Q r' ∧ m' = m := by
  intro E w cargs hG hm hv
  refine (h E w cargs hG hm hv).mono ?_
  rintro e w' ⟨v, r', m', E', he, ⟨r, hr, hQ, ho⟩, hs, hm', hvr⟩
  have lt : ∀ i o, m.obj i = some o → i < m.next := fun i o hi => by
    rcases Nat.lt_or_ge i m.next with h1 | h1
    · exact h1
    · rw [(hm.fresh i h1).2.2] at hi; cases hi
  -- the blocks that are shown
  let S : Nat → Nat → Prop := fun b o => ∃ i cs t, m.next ≤ i ∧ m'.obj i = some (.box cs t) ∧ V.clean cs = true ∧ E'.φ i = some b ∧ o < cs.length
  haveI hdec : ∀ b o, Decidable (S b o) := fun _ _ => Classical.propDecidable _
  let M2 : Nat → Nat → Option Value := fun b o => if S b o then w'.cell? ⟨b, o, none⟩ else E'.M b o
  let E2 : Env := ⟨M2, (E'.restr m.next).φ, (E'.restr m.next).loc⟩
  have hM2 : ∀ b o v, E'.M b o = some v → M2 b o = some v := fun b o v hM => by
    show (if S b o then _ else _) = _
    rw [if_neg]
    · exact hM
    · rintro ⟨i, cs, t, _, hi, _, hφ, _⟩
      obtain ⟨b', c, hφ', _, _, hn⟩ := hm'.box i cs t hi
      rw [hφ] at hφ'; cases hφ'
      rw [hn o] at hM; cases hM
  have hM2n : ∀ b o, (∀ i cs t, m.next ≤ i → m'.obj i = some (.box cs t) → E'.φ i ≠ some b) → M2 b o = E'.M b o := fun b o hb => by
    show (if S b o then _ else _) = _
    rw [if_neg]
    rintro ⟨i, cs, t, hi, hoi, _, hφ, _⟩
    exact hb i cs t hi hoi hφ
  have hre : ∀ {i : Nat}, i < m.next → E2.φ i = E'.φ i := fun hi => if_pos hi
  have hrl : ∀ {i : Nat}, i < m.next → ∀ k, E2.loc i k = E'.loc i k := fun hi k => if_pos hi
  have hB : ∀ i b, BlkOf E2 m i b → BlkOf E' m' i b := by
    rintro i b (⟨cs, t, h1, h2⟩ | ⟨n, e, size, cap, h1, h2, h3⟩ | ⟨x, h1, h2⟩)
    · have hi := lt i _ h1
      exact .inl ⟨cs, t, (ho i hi).trans h1, (hre hi).symm.trans h2⟩
    · have hi := lt i _ h1
      exact .inr (.inl ⟨n, e, size, cap, (ho i hi).trans h1, (hrl hi n).symm.trans h2, h3⟩)
    · have hi := lt i _ h1
      exact .inr (.inr ⟨x, (ho i hi).trans h1, (hre hi).symm.trans h2⟩)
  have hshow : Shown E' E2 m.next m' := by
    refine ⟨hM2, fun i cs t b hi hoi hcl hφ => ?_⟩
    obtain ⟨b', c, hφ', hh, hvr', _⟩ := hm'.box i cs t hoi
    rw [hφ] at hφ'; cases hφ'
    refine At.of_get fun j u hu => ?_
    obtain ⟨x, hx, hxr⟩ := hvr'.get hu
    have hjl : j < cs.length := (List.getElem?_eq_some_iff.1 hu).1
    rw [List.getElem?_take, if_pos hjl, Array.getElem?_toList] at hx
    refine ⟨x, ?_, VR.pureM hM2 (pures_get (clean_pures hcl) hu) hxr⟩
    rw [Nat.zero_add]
    show (if S b j then _ else _) = _
    rw [if_pos ⟨i, cs, t, hi, hoi, hcl, hφ, hjl⟩, cell_of_row w' b j c t (0, 0) hh]
    exact hx
  have hp := VR.pubM hshow hr hvr
  refine ⟨v, r, m, E2, he, ⟨hQ, rfl⟩, ⟨⟨fun b o x hx => hM2 b o x (hs.le.M b o x hx), ?_, ?_⟩, Nat.le_refl _, ?_, ?_, hs.os, hs.tape, hs.output, hs.drawn, hs.size, hs.kept, fun i b hi hb => hs.blk i b (hB i b hi) hb, ?_⟩, ⟨?_, ?_, ?_, ?_, ?_, ?_, ?_⟩, hp.1⟩
  · intro i b hb
    have hi : i < m.next := by
      rcases Nat.lt_or_ge i m.next with h1 | h1
      · exact h1
      · rw [(hm.fresh i h1).1] at hb; cases hb
    rw [hre hi]; exact hs.le.φ i b hb
  · intro i n x hx
    have hi : i < m.next := by
      rcases Nat.lt_or_ge i m.next with h1 | h1
      · exact h1
      · rw [(hm.fresh i h1).2.1 n] at hx; cases hx
    rw [hrl hi]; exact hs.le.loc i n x hx
  · intro i hi _; rw [hre hi]; exact hs.oldφ i hi (fun h => h)
  · intro i hi _ hoi
    exact ⟨fun n => by rw [hrl hi]; exact (hs.oldloc i hi (fun h => h) hoi).1 n, hoi⟩
  · intro b o x hx
    by_cases hS : S b o
    · obtain ⟨i, cs, t, _, hoi, _, hφ, _⟩ := hS
      rcases Nat.lt_or_ge b w.heap.size with hlt | hge
      · exact .inr (.inr (hs.blk i b (.inl ⟨cs, t, hoi, hφ⟩) hlt))
      · exact .inr (.inl hge)
    · change (if S b o then _ else _) = _ at hx
      rw [if_neg hS] at hx; exact hs.newM b o x hx
  · intro b o x hx
    change (if S b o then _ else _) = _ at hx
    by_cases hS : S b o
    · rw [if_pos hS] at hx; exact hx
    · rw [if_neg hS] at hx; exact hm'.stable b o x hx
  · intro i hi
    exact ⟨if_neg (Nat.not_lt.2 hi), fun n => if_neg (Nat.not_lt.2 hi), (hm.fresh i hi).2.2⟩
  · intro i cs t hi
    have hlt := lt i _ hi
    obtain ⟨b, c, h1, h2, h3, h4⟩ := hm'.box i cs t ((ho i hlt).trans hi)
    obtain ⟨b0, c0, _, _, h5, _⟩ := hm.box i cs t hi
    have hsc := VRs.scoped (fun j hj => (hm.fresh j hj).1) (fun j hj => (hm.fresh j hj).2.1) h5
    have h6 := VRs.restr hsc h3
    refine ⟨b, c, (hre hlt).trans h1, h2, VRs.mono (E := E'.restr m.next) (E' := E2) ⟨hM2, fun _ _ x => x, fun _ _ _ x => x⟩ h6, fun o => (hM2n b o fun j cs' t' hj hoj hφ => ?_).trans (h4 o)⟩
    have := hm'.inj i j b (.inl ⟨cs, t, (ho i hlt).trans hi, h1⟩) (.inl ⟨cs', t', hoj, hφ⟩)
    omega
  · intro i n e size hi
    have hlt := lt i _ hi
    obtain ⟨A, cap, h1, h2, h3, h4⟩ := hm'.row i n e size ((ho i hlt).trans hi)
    refine ⟨A, cap, (hrl hlt n).trans h1, fun k hk => (hrl hlt k).trans (h2 k hk), h3, fun hn => ?_⟩
    obtain ⟨b, c, h5, h6, h7, h8⟩ := h4 hn
    refine ⟨b, c, h5, h6, h7, fun o hoo => (hM2n b o fun j cs' t' hj hoj hφ => ?_).trans (h8 o hoo)⟩
    subst h5
    have := hm'.inj i j b (.inr (.inl ⟨n, e, size, cap, (ho i hlt).trans hi, h1, hn⟩)) (.inl ⟨cs', t', hoj, hφ⟩)
    omega
  · intro i x hi
    have hlt := lt i _ hi
    obtain ⟨b, o, h1, h2, h3⟩ := hm'.oth i x ((ho i hlt).trans hi)
    obtain ⟨b0, o0, _, _, h5⟩ := hm.oth i x hi
    exact ⟨b, o, (hre hlt).trans h1, h2, HobR.mono (E := E'.restr m.next) (E' := E2) ⟨hM2, fun _ _ x => x, fun _ _ _ x => x⟩ (HobR.restr (w := w) (fun j hj => (hm.fresh j hj).1) (fun j hj => (hm.fresh j hj).2.1) h5 h3)⟩
  · exact fun i j b hi hj => hm'.inj i j b (hB i b hi) (hB j b hj)
  · intro i cs t s A k b c hi hl hφ hh
    have hlt := lt i _ hi
    exact hm'.siz i cs t s A k b c ((ho i hlt).trans hi) ((hrl hlt s).symm.trans hl) ((hre hlt).symm.trans hφ) hh

/-- What a function comes to that only computes, its boxes shown. -/
def FinM (m : Mm) (rs : List VRes) (r : V) (e : VX) (s' : St) : Prop := (e = .nrm ∨ e = .ret) ∧ ∃ r', resV s' rs = some r' ∧ r'.pubM m.next s'.m = some r ∧ ∀ i, i < m.next → s'.m.obj i = m.obj i
theorem finM_ret {m : Mm} {rs : List VRes} {r r' : V} {s' : St} (h1 : resV s' rs = some r') (h2 : r'.pubM m.next s'.m = some r) (h3 : ∀ i, i < m.next → s'.m.obj i = m.obj i) : FinM m rs r .ret s' := ⟨.inr rfl, r', h1, h2, h3⟩
theorem Fn.of_vxM {P : Program} {bx : Nat → Bool} {G : Ground} {f : FuncId} {nt : Nat} {c : VC} {rs : List VRes} (hc : Comp P bx G.tab f nt c rs) {args : List V} {r : V} (hn : args.length ≤ nt)
    (h : ∀ m, c.vx P G (FinM m rs r) ⟨initT args, m⟩) : Fn P G f args r :=
  fun m => SFn.dropM (Q := fun r' => r' = r) (SFn.mono (SFn.of_vx hc hn (Post := fun r' m' => r'.pubM m.next m' = some r ∧ ∀ i, i < m.next → m'.obj i = m.obj i) (h m)) fun r' m' ⟨h1, h2⟩ => ⟨r, h1, rfl, h2⟩)
/-- A function with memory: what it comes to. -/
def FinS (rs : List VRes) (Post : V → Mm → Prop) (e : VX) (s' : St) : Prop := (e = .nrm ∨ e = .ret) ∧ ∃ r, resV s' rs = some r ∧ Post r s'.m
theorem finS_ret {rs : List VRes} {Post : V → Mm → Prop} {r : V} {s' : St} (h1 : resV s' rs = some r) (h2 : Post r s'.m) : FinS rs Post .ret s' := ⟨.inr rfl, r, h1, h2⟩
theorem SFn.of_vxS {P : Program} {bx : Nat → Bool} {G : Ground} {f : FuncId} {nt : Nat} {c : VC} {rs : List VRes} (hc : Comp P bx G.tab f nt c rs) {args : List V} {m : Mm} {Post : V → Mm → Prop} (hn : args.length ≤ nt)
    (h : c.vx P G (FinS rs Post) ⟨initT args, m⟩) : SFn P G f args m Post := SFn.of_vx hc hn h
end Go.Proofs.YtdefefeifcdogaaGreat
namespace Go.Proofs.YtdefefeifcdogaaGreat
open Go.RowKit

mutual
/-- As a call may see it to which it is handed: boxes of S stand for good. -/
def V.viewS (S : Nat → Bool) (m : Mm) : V → Option V
  | .lit v => some (.lit v)
  | .agg cs => (V.viewsS S m cs).map .agg
  | .tup cs => (V.viewsS S m cs).map .tup
  | .sl n xs _ => some (.sl n xs .no)
  | .ptr _ _ => none
  | .gsl _ _ _ => none
  | .bsl i off n _ => match m.obj i with
    | some (.box cs _) => if S i = true ∧ V.clean cs = true then some (.sl n (cs.drop off) .no) else none
    | _ => none
  | .ept xs o => some (.ept xs o)
  | .fn f cs => (V.viewsS S m cs).map (.fn f)
  | .mp _ => none
  | .yld _ => none
def V.viewsS (S : Nat → Bool) (m : Mm) : List V → Option (List V)
  | [] => some []
  | v :: l => (V.viewS S m v).bind fun u => (V.viewsS S m l).map fun us => u :: us
end

section
variable {E E' : Env} {S : Nat → Bool} {m : Mm}
/-- What E' must know of the boxes. -/
def ShownS (E E' : Env) (S : Nat → Bool) (m : Mm) : Prop := (∀ b o v, E.M b o = some v → E'.M b o = some v) ∧ ∀ i cs t b, S i = true → m.obj i = some (.box cs t) → V.clean cs = true → E.φ i = some b → At E' b 0 cs
mutual
theorem VR.viewS (hs : ShownS E E' S m) : ∀ {v u : V} {c : Value}, v.viewS S m = some u → VR E v c → VR E' u c ∧ u.pure = true
  | .lit _, _, _, hp, h => by rw [V.viewS] at hp; cases hp; rw [VR] at h ⊢; exact ⟨h, by rw [V.pure]⟩
  | .agg _, _, _, hp, h => by
    rw [V.viewS, Option.map_eq_some_iff] at hp
    obtain ⟨us, hus, rfl⟩ := hp
    rw [VR] at h; obtain ⟨a, e, h1⟩ := h
    have h2 := VRs.viewS hs hus h1
    exact ⟨by rw [VR]; exact ⟨a, e, h2.1⟩, by rw [V.pure]; exact h2.2⟩
  | .tup _, _, _, hp, h => by
    rw [V.viewS, Option.map_eq_some_iff] at hp
    obtain ⟨us, hus, rfl⟩ := hp
    rw [VR] at h; obtain ⟨a, e, h1⟩ := h
    have h2 := VRs.viewS hs hus h1
    exact ⟨by rw [VR]; exact ⟨a, e, h2.1⟩, by rw [V.pure]; exact h2.2⟩
  | .sl n xs k, _, c, hp, h => by
    rw [V.viewS] at hp; cases hp
    rw [VR] at h
    obtain ⟨A, cap, e, hn, _, hx⟩ := h
    have h1 : VR E (.sl n xs .no) c := by rw [VR]; exact ⟨A, cap, e, hn, trivial, hx⟩
    have hp : V.pure (.sl n xs .no) = true := by rw [V.pure]; intro t h; cases h
    exact ⟨VR.pureM hs.1 hp h1, hp⟩
  | .ptr _ _, _, _, hp, _ => by rw [V.viewS] at hp; cases hp
  | .gsl _ _ _, _, _, hp, _ => by rw [V.viewS] at hp; cases hp
  | .mp _, _, _, hp, _ => by rw [V.viewS] at hp; cases hp
  | .yld _, _, _, hp, _ => by rw [V.viewS] at hp; cases hp
  | .bsl i off n cap, _, _, hp, h => by
    rw [V.viewS] at hp
    rw [VR] at h
    obtain ⟨b, hφ, cap', e, hn, hc⟩ := h
    split at hp
    · rename_i cs t ho
      split at hp
      · rename_i hh
        cases hp
        obtain ⟨hi, hcl⟩ := hh
        refine ⟨?_, by rw [V.pure]; intro t h; cases h⟩
        rw [VR]
        have hat := (hs.2 i cs t b hi ho hcl hφ).drop off cs.length
        have hcd := clean_slice hcl off cs.length
        rw [Nat.zero_add, List.take_of_length_le (by rw [List.length_drop]; omega)] at hat
        rw [List.take_of_length_le (by rw [List.length_drop]; omega)] at hcd
        exact ⟨_, cap', e, Nat.le_trans hn hc, trivial, hcd, .inr ⟨b, off, rfl, hat⟩⟩
      · cases hp
    · cases hp
  | .ept xs o, _, _, hp, h => by
    rw [V.viewS] at hp; cases hp
    have hp : V.pure (.ept xs o) = true := by rw [V.pure]
    exact ⟨VR.pureM hs.1 hp h, hp⟩
  | .fn _ _, _, _, hp, h => by
    rw [V.viewS, Option.map_eq_some_iff] at hp
    obtain ⟨us, hus, rfl⟩ := hp
    rw [VR] at h; obtain ⟨a, e, h1⟩ := h
    have h2 := VRs.viewS hs hus h1
    exact ⟨by rw [VR]; exact ⟨a, e, h2.1⟩, by rw [V.pure]; exact h2.2⟩
theorem VRs.viewS (hs : ShownS E E' S m) : ∀ {v u : List V} {c : List Value}, V.viewsS S m v = some u → VRs E v c → VRs E' u c ∧ V.pures u = true
  | [], _, _, hp, h => by rw [V.viewsS] at hp; cases hp; rw [VRs] at h ⊢; exact ⟨h, by rw [V.pures]⟩
  | v :: l, _, _, hp, h => by
    rw [V.viewsS, Option.bind_eq_some_iff] at hp
    obtain ⟨u, hu, hp⟩ := hp
    rw [Option.map_eq_some_iff] at hp
    obtain ⟨us, hus, rfl⟩ := hp
    rw [VRs] at h
    obtain ⟨c, cs, e, h1, h2⟩ := h
    have h3 := VR.viewS hs hu h1
    have h4 := VRs.viewS hs hus h2
    exact ⟨by rw [VRs]; exact ⟨c, cs, e, h3.1, h4.1⟩, by rw [V.pures, h3.2, h4.2]; rfl⟩
end
end


/-- The boxes of S are no longer written. -/
def Mm.freeze (m : Mm) (S : Nat → Bool) : Mm := ⟨fun i => if S i = true then none else m.obj i, m.next⟩
/-- Boxes of S become cells that stand for good. -/
theorem MemR.freeze {E : Env} {m : Mm} {w : World} (hm : MemR E m w) (S : Nat → Bool) (hS : ∀ i, S i = true → ∃ cs t, m.obj i = some (.box cs t) ∧ V.clean cs = true) :
    ∃ E', Step NoX E m w E' (m.freeze S) w ∧ MemR E' (m.freeze S) w ∧ ShownS E E' S m ∧ (∀ i, E'.φ i = E.φ i) := by
  let Q : Nat → Nat → Prop := fun b o => ∃ i cs t, S i = true ∧ m.obj i = some (.box cs t) ∧ E.φ i = some b ∧ o < cs.length
  haveI hdec : ∀ b o, Decidable (Q b o) := fun _ _ => Classical.propDecidable _
  let M2 : Nat → Nat → Option Value := fun b o => if Q b o then w.cell? ⟨b, o, none⟩ else E.M b o
  let E2 : Env := ⟨M2, E.φ, E.loc⟩
  have hM2 : ∀ b o v, E.M b o = some v → M2 b o = some v := fun b o v hM => by
    show (if Q b o then _ else _) = _
    rw [if_neg]
    · exact hM
    · rintro ⟨i, cs, t, _, hi, hφ, _⟩
      obtain ⟨b', c, hφ', _, _, hn⟩ := hm.box i cs t hi
      rw [hφ] at hφ'; cases hφ'
      rw [hn o] at hM; cases hM
  have hle : E.Le E2 := ⟨hM2, fun _ _ x => x, fun _ _ _ x => x⟩
  have hM2n : ∀ b o, (∀ i cs t, S i = true → m.obj i = some (.box cs t) → E.φ i ≠ some b) → M2 b o = E.M b o := fun b o hb => by
    show (if Q b o then _ else _) = _
    rw [if_neg]
    rintro ⟨i, cs, t, hi, hoi, hφ, _⟩
    exact hb i cs t hi hoi hφ
  have hobj : ∀ i o, (m.freeze S).obj i = some o → S i ≠ true ∧ m.obj i = some o := fun i o h => by
    change (if S i = true then none else m.obj i) = some o at h
    by_cases hs : S i = true
    · rw [if_pos hs] at h; cases h
    · rw [if_neg hs] at h; exact ⟨hs, h⟩
  have hB : ∀ i b, BlkOf E2 (m.freeze S) i b → BlkOf E m i b := by
    rintro i b (⟨cs, t, h1, h2⟩ | ⟨n, e, size, cap, h1, h2, h3⟩ | ⟨x, h1, h2⟩)
    · exact .inl ⟨cs, t, (hobj i _ h1).2, h2⟩
    · exact .inr (.inl ⟨n, e, size, cap, (hobj i _ h1).2, h2, h3⟩)
    · exact .inr (.inr ⟨x, (hobj i _ h1).2, h2⟩)
  refine ⟨E2, ⟨hle, Nat.le_refl _, fun _ _ _ => rfl, fun i _ _ h => ⟨fun _ => rfl, ?_⟩, rfl, rfl, rfl, Nat.le_refl _, Nat.le_refl _, fun _ _ _ => rfl, fun i b h _ => ⟨i, hB i b h⟩, fun b o v hM => by
    by_cases hQ : Q b o
    · obtain ⟨i, cs, t, _, hi, hφ, _⟩ := hQ; exact .inr (.inr ⟨i, .inl ⟨cs, t, hi, hφ⟩⟩)
    · change (if Q b o then _ else _) = _ at hM; rw [if_neg hQ] at hM; exact .inl hM⟩, ⟨?_, ?_, ?_, ?_, fun i x hi => by
      obtain ⟨_, hi⟩ := hobj i _ hi
      obtain ⟨b, o, h1, h2, h3⟩ := hm.oth i x hi
      exact ⟨b, o, h1, h2, HobR.mono hle h3⟩, fun i j b hi hj => hm.inj i j b (hB i b hi) (hB j b hj), hm.sizK (fun i cs t hi => ⟨(hobj i _ hi).2, rfl, fun _ => rfl⟩) fun _ _ _ _ _ _ _ => rfl⟩, ⟨hM2, fun i cs t b hi hoi hcl hφ => ?_⟩, fun _ => rfl⟩
  · show (if S i = true then none else m.obj i) = none
    split
    · rfl
    · exact h
  · intro b o x hx
    change (if Q b o then _ else _) = _ at hx
    by_cases hQ : Q b o
    · rw [if_pos hQ] at hx; exact hx
    · rw [if_neg hQ] at hx; exact hm.stable b o x hx
  · intro i hi
    refine ⟨(hm.fresh i hi).1, (hm.fresh i hi).2.1, ?_⟩
    show (if S i = true then none else m.obj i) = none
    split
    · rfl
    · exact (hm.fresh i hi).2.2
  · intro i cs t hi
    obtain ⟨hs, hi⟩ := hobj i _ hi
    obtain ⟨b, c, h1, h2, h3, h4⟩ := hm.box i cs t hi
    refine ⟨b, c, h1, h2, VRs.mono hle h3, fun o => (hM2n b o fun j cs' t' hj hoj hφ => ?_).trans (h4 o)⟩
    have := hm.inj i j b (.inl ⟨cs, t, hi, h1⟩) (.inl ⟨cs', t', hoj, hφ⟩)
    subst this
    exact hs hj
  · intro i n e size hi
    obtain ⟨hs, hi⟩ := hobj i _ hi
    obtain ⟨A, cap, h1, h2, h3, h4⟩ := hm.row i n e size hi
    refine ⟨A, cap, h1, h2, h3, fun hn => ?_⟩
    obtain ⟨b, c, h5, h6, h7, h8⟩ := h4 hn
    refine ⟨b, c, h5, h6, h7, fun o hoo => (hM2n b o fun j cs' t' hj hoj hφ => ?_).trans (h8 o hoo)⟩
    subst h5
    have := hm.inj i j b (.inr (.inl ⟨n, e, size, cap, hi, h1, hn⟩)) (.inl ⟨cs', t', hoj, hφ⟩)
    subst this
    exact hs hj
  · obtain ⟨b', c, hφ', hh, hvr', _⟩ := hm.box i cs t hoi
    rw [hφ] at hφ'; cases hφ'
    refine At.of_get fun j u hu => ?_
    obtain ⟨x, hx, hxr⟩ := hvr'.get hu
    have hjl : j < cs.length := (List.getElem?_eq_some_iff.1 hu).1
    rw [List.getElem?_take, if_pos hjl, Array.getElem?_toList] at hx
    refine ⟨x, ?_, VR.pureM hM2 (pures_get (clean_pures hcl) hu) hxr⟩
    rw [Nat.zero_add]
    show (if Q b j then _ else _) = _
    rw [if_pos ⟨i, cs, t, hi, hoi, hφ, hjl⟩, cell_of_row w b j c t (0, 0) hh]
    exact hx
/-- A call that only computes may be handed boxes: they are not written any more. -/
theorem Fn.freeze {P : Program} {G : Ground} {f : FuncId} {vs args : List V} {r : V} (h : Fn P G f vs r) {m : Mm} (S : Nat → Bool) (hS : ∀ i, S i = true → ∃ cs t, m.obj i = some (.box cs t) ∧ V.clean cs = true)
    (hv : V.viewsS S m args = some vs) : SFn P G f args m fun r' m' => r' = r ∧ m' = m.freeze S := by
  intro E w cargs hG hm hargs
  obtain ⟨E', hs, hm', hsh, _⟩ := hm.freeze S hS
  refine (h (m.freeze S) E' w cargs (G.mono _ _ _ _ _ _ _ hm hs hG) hm' (VRs.viewS hsh hv hargs).1).mono ?_
  rintro e w' ⟨v, r', m', E2, he, ⟨rfl, rfl⟩, hs2, hm2, hr⟩
  exact ⟨v, _, _, E2, he, ⟨rfl, rfl⟩, hs.trans hs2, hm2, hr⟩
end Go.Proofs.YtdefefeifcdogaaGreat
namespace Go.Proofs.YtdefefeifcdogaaGreat
open Go.RowKit

mutual
/-- u is v, the boxes of S read. -/
inductive Vw (m : Mm) (S : Nat → Bool) : V → V → Prop where
  | lit (v : Value) : Vw m S (.lit v) (.lit v)
  | agg {cs us : List V} : Vws m S cs us → Vw m S (.agg cs) (.agg us)
  | tup {cs us : List V} : Vws m S cs us → Vw m S (.tup cs) (.tup us)
  | sl (n : Nat) (xs : List V) (k : Tok) : Vw m S (.sl n xs k) (.sl n xs .no)
  | ptr {i off : Nat} {cs us : List V} {t : TypeId} : S i = true → m.obj i = some (.box cs t) → Vws m S cs us → us.all V.one = true → Vw m S (.ptr i off) (.ept us off)
  | bsl {i off n cap : Nat} {cs us : List V} {t : TypeId} : S i = true → m.obj i = some (.box cs t) → Vws m S cs us → us.all V.one = true → Vw m S (.bsl i off n cap) (.sl n (us.drop off) .no)
  | gsl {i n size : Nat} {cs us : List V} {t : TypeId} : S i = true → m.obj i = some (.box cs t) → Vws m S cs us → us.all V.one = true → Vw m S (.gsl i n size) (.sl n us .no)
  | ept (xs : List V) (o : Nat) : Vw m S (.ept xs o) (.ept xs o)
  | fn {f : FuncId} {cs us : List V} : Vws m S cs us → Vw m S (.fn f cs) (.fn f us)
inductive Vws (m : Mm) (S : Nat → Bool) : List V → List V → Prop where
  | nil : Vws m S [] []
  | cons {v u : V} {vs us : List V} : Vw m S v u → Vws m S vs us → Vws m S (v :: vs) (u :: us)
end

/-- A box of S that can be read. -/
def Vable (m : Mm) (S : Nat → Bool) (i : Nat) (cs : List V) : Prop := S i = true ∧ ∃ t us, m.obj i = some (.box cs t) ∧ Vws m S cs us ∧ us.all V.one = true

theorem Vws.length {m : Mm} {S : Nat → Bool} : ∀ {vs us : List V}, Vws m S vs us → us.length = vs.length
  | [], _, h => by cases h; rfl
  | _ :: vs, _, h => by cases h with | cons h1 h2 => simp [Vws.length h2]

/-- Boxes of S become cells that stand for good, as far as they can be read; they are no longer written. -/
theorem MemR.cut {E : Env} {m : Mm} {w : World} (hm : MemR E m w) (S : Nat → Bool) :
    ∃ E', Step NoX E m w E' (m.freeze S) w ∧ MemR E' (m.freeze S) w ∧ (∀ v u c, Vw m S v u → VR E v c → VR E' u c ∧ u.pure = true) ∧ (∀ vs us cs, Vws m S vs us → VRs E vs cs → VRs E' us cs ∧ V.pures us = true) := by
  let Q : Nat → Nat → Prop := fun b o => ∃ i cs, Vable m S i cs ∧ E.φ i = some b ∧ o < cs.length
  haveI hdec : ∀ b o, Decidable (Q b o) := fun _ _ => Classical.propDecidable _
  let M2 : Nat → Nat → Option Value := fun b o => if Q b o then w.cell? ⟨b, o, none⟩ else E.M b o
  let E2 : Env := ⟨M2, E.φ, E.loc⟩
  have hM2 : ∀ b o v, E.M b o = some v → M2 b o = some v := fun b o v hM => by
    show (if Q b o then _ else _) = _
    rw [if_neg]
    · exact hM
    · rintro ⟨i, cs, ⟨_, t, us, hi, _⟩, hφ, _⟩
      obtain ⟨b', c, hφ', _, _, hn⟩ := hm.box i cs t hi
      rw [hφ] at hφ'; cases hφ'
      rw [hn o] at hM; cases hM
  have hle : E.Le E2 := ⟨hM2, fun _ _ x => x, fun _ _ _ x => x⟩
  have hM2n : ∀ b o, (∀ i cs t, S i = true → m.obj i = some (.box cs t) → E.φ i ≠ some b) → M2 b o = E.M b o := fun b o hb => by
    show (if Q b o then _ else _) = _
    rw [if_neg]
    rintro ⟨i, cs, ⟨hs, t, us, hi, _⟩, hφ, _⟩
    exact hb i cs t hs hi hφ
  have hobj : ∀ i o, (m.freeze S).obj i = some o → S i ≠ true ∧ m.obj i = some o := fun i o h => by
    change (if S i = true then none else m.obj i) = some o at h
    by_cases hs : S i = true
    · rw [if_pos hs] at h; cases h
    · rw [if_neg hs] at h; exact ⟨hs, h⟩
  have hB : ∀ i b, BlkOf E2 (m.freeze S) i b → BlkOf E m i b := by
    rintro i b (⟨cs, t, h1, h2⟩ | ⟨n, e, size, cap, h1, h2, h3⟩ | ⟨x, h1, h2⟩)
    · exact .inl ⟨cs, t, (hobj i _ h1).2, h2⟩
    · exact .inr (.inl ⟨n, e, size, cap, (hobj i _ h1).2, h2, h3⟩)
    · exact .inr (.inr ⟨x, (hobj i _ h1).2, h2⟩)
  -- what is read of a box
  have hbox : ∀ i cs t us b, S i = true → m.obj i = some (.box cs t) → Vws m S cs us → us.all V.one = true → E.φ i = some b → (∀ cc, VRs E cs cc → VRs E2 us cc ∧ V.pures us = true) → At E2 b 0 us ∧ V.clean us = true := by
    intro i cs t us b hs hi hv h1 hφ ih
    obtain ⟨b', c, hφ', hh, hvr, _⟩ := hm.box i cs t hi
    rw [hφ] at hφ'; cases hφ'
    obtain ⟨h2, h3⟩ := ih _ hvr
    refine ⟨At.of_get fun j u hu => ?_, by rw [V.clean, h3, h1]; rfl⟩
    obtain ⟨x, hx, hxr⟩ := h2.get hu
    have hjl : j < cs.length := by have := (List.getElem?_eq_some_iff.1 hu).1; rw [hv.length] at this; exact this
    rw [List.getElem?_take, if_pos hjl, Array.getElem?_toList] at hx
    refine ⟨x, ?_, hxr⟩
    rw [Nat.zero_add]
    show (if Q b j then _ else _) = _
    rw [if_pos ⟨i, cs, ⟨hs, t, us, hi, hv, h1⟩, hφ, hjl⟩, cell_of_row w b j c t (0, 0) hh]
    exact hx
  let A : (v u : V) → Vw m S v u → Prop := fun v u _ => ∀ c, VR E v c → VR E2 u c ∧ u.pure = true
  let B : (vs us : List V) → Vws m S vs us → Prop := fun vs us _ => ∀ cs, VRs E vs cs → VRs E2 us cs ∧ V.pures us = true
  have m1 : ∀ v, A _ _ (Vw.lit (m := m) (S := S) v) := fun v c h => by rw [VR] at h ⊢; exact ⟨h, by rw [V.pure]⟩
  have m2 : ∀ {cs us : List V} (h : Vws m S cs us), B cs us h → A _ _ (Vw.agg h) := fun h ih c hv => by
    rw [VR] at hv; obtain ⟨a, e, h1⟩ := hv
    have h2 := ih _ h1
    exact ⟨by rw [VR]; exact ⟨a, e, h2.1⟩, by rw [V.pure]; exact h2.2⟩
  have m3 : ∀ {cs us : List V} (h : Vws m S cs us), B cs us h → A _ _ (Vw.tup h) := fun h ih c hv => by
    rw [VR] at hv; obtain ⟨a, e, h1⟩ := hv
    have h2 := ih _ h1
    exact ⟨by rw [VR]; exact ⟨a, e, h2.1⟩, by rw [V.pure]; exact h2.2⟩
  have m4 : ∀ n xs k, A _ _ (Vw.sl (m := m) (S := S) n xs k) := fun n xs k c h => by
    rw [VR] at h
    obtain ⟨A, cap, e, hn, _, hx⟩ := h
    have h1 : VR E (.sl n xs .no) c := by rw [VR]; exact ⟨A, cap, e, hn, trivial, hx⟩
    have hp : V.pure (.sl n xs .no) = true := by rw [V.pure]; intro t h; cases h
    exact ⟨VR.pureM hM2 hp h1, hp⟩
  have m5 : ∀ {i off : Nat} {cs us : List V} {t : TypeId} (hs : S i = true) (ho : m.obj i = some (.box cs t)) (h : Vws m S cs us) (h1 : us.all V.one = true), B cs us h → A _ _ (Vw.ptr (off := off) hs ho h h1) := by
    intro i off cs us t hs ho h h1 ih c hv
    rw [VR] at hv
    obtain ⟨b, hφ, e⟩ := hv
    obtain ⟨h2, h3⟩ := hbox i cs t us b hs ho h h1 hφ ih
    exact ⟨by rw [VR]; exact ⟨b, 0, by rw [Nat.zero_add]; exact e, h3, h2⟩, by rw [V.pure]⟩
  have m6 : ∀ {i off n cap : Nat} {cs us : List V} {t : TypeId} (hs : S i = true) (ho : m.obj i = some (.box cs t)) (h : Vws m S cs us) (h1 : us.all V.one = true), B cs us h → A _ _ (Vw.bsl (off := off) (n := n) (cap := cap) hs ho h h1) := by
    intro i off n cap cs us t hs ho h h1 ih c hv
    rw [VR] at hv
    obtain ⟨b, hφ, cap', e, hn, hc⟩ := hv
    obtain ⟨h2, h3⟩ := hbox i cs t us b hs ho h h1 hφ ih
    have hat := h2.drop off us.length
    have hcd := clean_slice h3 off us.length
    rw [Nat.zero_add, List.take_of_length_le (by rw [List.length_drop]; omega)] at hat
    rw [List.take_of_length_le (by rw [List.length_drop]; omega)] at hcd
    exact ⟨by rw [VR]; exact ⟨_, cap', e, Nat.le_trans hn hc, trivial, hcd, .inr ⟨b, off, rfl, hat⟩⟩, by rw [V.pure]; intro t h; cases h⟩
  have m6b : ∀ {i n size : Nat} {cs us : List V} {t : TypeId} (hs : S i = true) (ho : m.obj i = some (.box cs t)) (h : Vws m S cs us) (h1 : us.all V.one = true), B cs us h → A _ _ (Vw.gsl (n := n) (size := size) hs ho h h1) := by
    intro i n size cs us t hs ho h h1 ih c hv
    rw [VR] at hv
    obtain ⟨b, hφ, cap', e, hn, _⟩ := hv
    obtain ⟨h2, h3⟩ := hbox i cs t us b hs ho h h1 hφ ih
    exact ⟨by rw [VR]; exact ⟨_, cap', e, hn, trivial, h3, .inr ⟨b, 0, rfl, h2⟩⟩, by rw [V.pure]; intro t h; cases h⟩
  have m7 : ∀ xs o, A _ _ (Vw.ept (m := m) (S := S) xs o) := fun xs o c h => by
    have hp : V.pure (.ept xs o) = true := by rw [V.pure]
    exact ⟨VR.pureM hM2 hp h, hp⟩
  have m8 : ∀ {f : FuncId} {cs us : List V} (h : Vws m S cs us), B cs us h → A _ _ (Vw.fn (f := f) h) := fun h ih c hv => by
    rw [VR] at hv; obtain ⟨a, e, h1⟩ := hv
    have h2 := ih _ h1
    exact ⟨by rw [VR]; exact ⟨a, e, h2.1⟩, by rw [V.pure]; exact h2.2⟩
  have m9 : B [] [] (Vws.nil (m := m) (S := S)) := fun cs h => by rw [VRs] at h ⊢; exact ⟨h, by rw [V.pures]⟩
  have m10 : ∀ {v u : V} {vs us : List V} (h : Vw m S v u) (h' : Vws m S vs us), A v u h → B vs us h' → B _ _ (Vws.cons h h') := fun h h' i1 i2 cs hv => by
    rw [VRs] at hv
    obtain ⟨c, cs, e, h1, h2⟩ := hv
    have h3 := i1 _ h1
    have h4 := i2 _ h2
    exact ⟨by rw [VRs]; exact ⟨c, cs, e, h3.1, h4.1⟩, by rw [V.pures, h3.2, h4.2]; rfl⟩
  refine ⟨E2, ⟨hle, Nat.le_refl _, fun _ _ _ => rfl, fun i _ _ h => ⟨fun _ => rfl, ?_⟩, rfl, rfl, rfl, Nat.le_refl _, Nat.le_refl _, fun _ _ _ => rfl, fun i b h _ => ⟨i, hB i b h⟩, ?_⟩, ⟨?_, ?_, ?_, ?_, fun i x hi => by
      obtain ⟨_, hi⟩ := hobj i _ hi
      obtain ⟨b, o, h1, h2, h3⟩ := hm.oth i x hi
      exact ⟨b, o, h1, h2, HobR.mono hle h3⟩, fun i j b hi hj => hm.inj i j b (hB i b hi) (hB j b hj), hm.sizK (fun i cs t hi => ⟨(hobj i _ hi).2, rfl, fun _ => rfl⟩) fun _ _ _ _ _ _ _ => rfl⟩,
    fun v u c h => Vw.rec (motive_1 := A) (motive_2 := B) m1 m2 m3 m4 m5 m6 m6b m7 m8 m9 m10 h c, fun vs us cs h => Vws.rec (motive_1 := A) (motive_2 := B) m1 m2 m3 m4 m5 m6 m6b m7 m8 m9 m10 h cs⟩
  · show (if S i = true then none else m.obj i) = none
    split
    · rfl
    · exact h
  · intro b o v hM
    by_cases hQ : Q b o
    · obtain ⟨i, cs, ⟨_, t, us, hi, _⟩, hφ, _⟩ := hQ; exact .inr (.inr ⟨i, .inl ⟨cs, t, hi, hφ⟩⟩)
    · change (if Q b o then _ else _) = _ at hM; rw [if_neg hQ] at hM; exact .inl hM
  · intro b o x hx
    change (if Q b o then _ else _) = _ at hx
    by_cases hQ : Q b o
    · rw [if_pos hQ] at hx; exact hx
    · rw [if_neg hQ] at hx; exact hm.stable b o x hx
  · intro i hi
    refine ⟨(hm.fresh i hi).1, (hm.fresh i hi).2.1, ?_⟩
    show (if S i = true then none else m.obj i) = none
    split
    · rfl
    · exact (hm.fresh i hi).2.2
  · intro i cs t hi
    obtain ⟨hs, hi⟩ := hobj i _ hi
    obtain ⟨b, c, h1, h2, h3, h4⟩ := hm.box i cs t hi
    refine ⟨b, c, h1, h2, VRs.mono hle h3, fun o => (hM2n b o fun j cs' t' hj hoj hφ => ?_).trans (h4 o)⟩
    have := hm.inj i j b (.inl ⟨cs, t, hi, h1⟩) (.inl ⟨cs', t', hoj, hφ⟩)
    subst this
    exact hs hj
  · intro i n e size hi
    obtain ⟨hs, hi⟩ := hobj i _ hi
    obtain ⟨A, cap, h1, h2, h3, h4⟩ := hm.row i n e size hi
    refine ⟨A, cap, h1, h2, h3, fun hn => ?_⟩
    obtain ⟨b, c, h5, h6, h7, h8⟩ := h4 hn
    refine ⟨b, c, h5, h6, h7, fun o hoo => (hM2n b o fun j cs' t' hj hoj hφ => ?_).trans (h8 o hoo)⟩
    subst h5
    have := hm.inj i j b (.inr (.inl ⟨n, e, size, cap, hi, h1, hn⟩)) (.inl ⟨cs', t', hoj, hφ⟩)
    subst this
    exact hs hj

/-- No boxes, no rows. -/
def M0 : Mm := ⟨fun _ => none, 0⟩
/-- Nothing but what stands. -/
def Env.bare (E : Env) : Env := ⟨E.M, fun _ => none, fun _ _ => none⟩
theorem M0_blk {E : Env} {i b : Nat} : ¬ BlkOf E M0 i b := by
  rintro (⟨_, _, h, _⟩ | ⟨_, _, _, _, h, _⟩ | ⟨_, h, _⟩) <;> cases h
theorem MemR.hide {E : Env} {m : Mm} {w : World} (hm : MemR E m w) : MemR E.bare M0 w :=
  ⟨hm.stable, fun _ _ => ⟨rfl, fun _ => rfl, rfl⟩, fun _ _ _ h => (by cases h), fun _ _ _ _ h => (by cases h), fun _ _ h => (by cases h), fun _ _ _ h => absurd h M0_blk, fun _ _ _ _ _ _ _ _ h => (by cases h)⟩

/-- From a world to a later one in which all blocks are as they were: more stands for good, in new blocks. -/
theorem MemR.later {E E1 : Env} {m m1 : Mm} {w w' : World} (hm : MemR E m w) (hs : Step NoX E.bare M0 w E1 m1 w') (hm1 : MemR E1 m1 w') :
    Step NoX E m w ⟨E1.M, E.φ, E.loc⟩ m w' ∧ MemR ⟨E1.M, E.φ, E.loc⟩ m w' := by
  have hk : ∀ b, b < w.heap.size → w'.heap[b]? = w.heap[b]? := fun b hb => hs.kept b hb fun i => M0_blk
  have hM : ∀ b o, b < w.heap.size → E1.M b o = E.M b o := fun b o hb => by
    cases h1 : E1.M b o with
    | none =>
      cases h2 : E.M b o with
      | none => rfl
      | some v => have := hs.le.M b o v h2; rw [h1] at this; cases this
    | some v =>
      rcases hs.newM b o v h1 with h2 | h2 | ⟨i, hi⟩
      · exact h2.symm
      · omega
      · exact absurd hi M0_blk
  have le : E.Le ⟨E1.M, E.φ, E.loc⟩ := ⟨hs.le.M, fun _ _ h => h, fun _ _ _ h => h⟩
  refine ⟨⟨le, Nat.le_refl _, fun _ _ _ => rfl, fun _ _ _ h => ⟨fun _ => rfl, h⟩, hs.os, hs.tape, hs.output, hs.drawn, hs.size, fun b hb _ => hk b hb, fun i b h _ => ⟨i, h⟩, fun b o v hv => ?_⟩, ⟨hm1.stable, hm.fresh, ?_, ?_, fun i x hi => by
      obtain ⟨b, o, h1, h2, h3⟩ := hm.oth i x hi
      exact ⟨b, o, h1, (hk b (heap_lt h2)).trans h2, HobR.mono le h3⟩, fun i j b hi hj => hm.inj i j b hi hj, hm.sizK (fun i cs t hi => ⟨hi, rfl, fun _ => rfl⟩) fun _ _ _ b _ _ hb => hk b hb⟩⟩
  · rcases hs.newM b o v hv with h2 | h2 | ⟨i, hi⟩
    · exact .inl h2
    · exact .inr (.inl h2)
    · exact absurd hi M0_blk
  · intro i cs t hi
    obtain ⟨b, c, h1, h2, h3, h4⟩ := hm.box i cs t hi
    have hlt := heap_lt h2
    exact ⟨b, c, h1, (hk b hlt).trans h2, VRs.mono le h3, fun o => (hM b o hlt).trans (h4 o)⟩
  · intro i n e size hi
    obtain ⟨A, cap, h1, h2, h3, h4⟩ := hm.row i n e size hi
    refine ⟨A, cap, h1, h2, h3, fun hn => ?_⟩
    obtain ⟨b, c, h5, h6, h7, h8⟩ := h4 hn
    have hlt := heap_lt h6
    exact ⟨b, c, h5, (hk b hlt).trans h6, h7, fun o ho => (hM b o hlt).trans (h8 o ho)⟩

def allS : Nat → Bool := fun _ => true
/-- A CALL THAT ONLY COMPUTES, from an empty memory: its result is read out of its own boxes. -/
theorem Fn.of_empty {P : Program} {G : Ground} {f : FuncId} {args : List V} {r : V} (hp : V.pures args = true) (h : SFn P G f args M0 fun r' m' => Vw m' allS r' r) : Fn P G f args r := by
  intro m E w cargs hG hm hv
  refine (h E.bare w cargs hG hm.hide (VRs.pureM (E := E) (E' := E.bare) (fun _ _ _ x => x) hp hv)).mono ?_
  rintro e w' ⟨v, r', m', E', he, hvw, hs, hm', hr⟩
  obtain ⟨E2, hs2, hm2, hA, _⟩ := hm'.cut allS
  obtain ⟨h1, h2⟩ := hA _ _ _ hvw hr
  obtain ⟨h3, h4⟩ := hm.later (hs.trans hs2) hm2
  exact ⟨v, r, m, _, he, ⟨rfl, rfl⟩, h3, h4, VR.pureM (E := E2) (E' := ⟨E2.M, E.φ, E.loc⟩) (fun _ _ _ x => x) h2 h1⟩

/-- What a function comes to that only computes: its boxes read. -/
def FinV (rs : List VRes) (r : V) (e : VX) (s' : St) : Prop := (e = .nrm ∨ e = .ret) ∧ ∃ r', resV s' rs = some r' ∧ Vw s'.m allS r' r
theorem finV_ret {rs : List VRes} {r r' : V} {s' : St} (h1 : resV s' rs = some r') (h2 : Vw s'.m allS r' r) : FinV rs r .ret s' := ⟨.inr rfl, r', h1, h2⟩
theorem finV_nrm {rs : List VRes} {r r' : V} {s' : St} (h1 : resV s' rs = some r') (h2 : Vw s'.m allS r' r) : FinV rs r .nrm s' := ⟨.inl rfl, r', h1, h2⟩
theorem Fn.of_vx0 {P : Program} {bx : Nat → Bool} {G : Ground} {f : FuncId} {nt : Nat} {c : VC} {rs : List VRes} (hc : Comp P bx G.tab f nt c rs) {args : List V} {r : V} (hn : args.length ≤ nt) (hp : V.pures args = true)
    (h : c.vx P G (FinV rs r) ⟨initT args, M0⟩) : Fn P G f args r :=
  Fn.of_empty hp (SFn.of_vx hc hn (Post := fun r' m' => Vw m' allS r' r) h)

/-- A call that only computes may be handed boxes: they are not written any more. -/
theorem Fn.cut {P : Program} {G : Ground} {f : FuncId} {vs us : List V} {r : V} (h : Fn P G f us r) {m : Mm} (S : Nat → Bool) (hv : Vws m S vs us) : SFn P G f vs m fun r' m' => r' = r ∧ m' = m.freeze S := by
  intro E w cargs hG hm hargs
  obtain ⟨E', hs, hm', _, hB⟩ := hm.cut S
  refine (h (m.freeze S) E' w cargs (G.mono _ _ _ _ _ _ _ hm hs hG) hm' (hB _ _ _ hv hargs).1).mono ?_
  rintro e w' ⟨v, r', m', E2, he, ⟨rfl, rfl⟩, hs2, hm2, hr⟩
  exact ⟨v, _, _, E2, he, ⟨rfl, rfl⟩, hs.trans hs2, hm2, hr⟩

mutual
/-- Nothing but literals: it says nothing of memory. -/
def V.dry : V → Bool
  | .lit _ => true
  | .agg cs => V.drys cs
  | .tup cs => V.drys cs
  | _ => false
def V.drys : List V → Bool
  | [] => true
  | v :: l => V.dry v && V.drys l
end
mutual
theorem VR.dry {E E' : Env} : ∀ {v : V} {c : Value}, v.dry = true → VR E v c → VR E' v c
  | .lit _, _, _, h => by rw [VR] at h ⊢; exact h
  | .agg _, _, hd, h => by rw [VR] at h ⊢; rw [V.dry] at hd; obtain ⟨a, e, h1⟩ := h; exact ⟨a, e, VRs.dry hd h1⟩
  | .tup _, _, hd, h => by rw [VR] at h ⊢; rw [V.dry] at hd; obtain ⟨a, e, h1⟩ := h; exact ⟨a, e, VRs.dry hd h1⟩
  | .sl _ _ _, _, hd, _ => by cases hd
  | .ptr _ _, _, hd, _ => by cases hd
  | .bsl _ _ _ _, _, hd, _ => by cases hd
  | .gsl _ _ _, _, hd, _ => by cases hd
  | .ept _ _, _, hd, _ => by cases hd
  | .fn _ _, _, hd, _ => by cases hd
  | .mp _, _, hd, _ => by cases hd
  | .yld _, _, hd, _ => by cases hd
theorem VRs.dry {E E' : Env} : ∀ {v : List V} {c : List Value}, V.drys v = true → VRs E v c → VRs E' v c
  | [], _, _, h => by rw [VRs] at h ⊢; exact h
  | _ :: _, _, hd, h => by
    rw [VRs] at h ⊢
    rw [V.drys, Bool.and_eq_true] at hd
    obtain ⟨c, cs, e, h1, h2⟩ := h
    exact ⟨c, cs, e, VR.dry hd.1 h1, VRs.dry hd.2 h2⟩
end
/-- BOXES ARE LENT to a call that only computes, where what it gives is made of literals: they are as they were, and may be written again. -/
theorem Fn.lend {P : Program} {G : Ground} {f : FuncId} {vs us : List V} {r : V} (h : Fn P G f us r) (hr : r.dry = true) {m : Mm} (S : Nat → Bool) (hv : Vws m S vs us) : SFn P G f vs m fun r' m' => r' = r ∧ m' = m := by
  intro E w cargs hG hm hargs
  obtain ⟨E', hs, hm', _, hB⟩ := hm.cut S
  obtain ⟨h1, h2⟩ := hB _ _ _ hv hargs
  refine (h M0 E'.bare w cargs (show G.ok E'.M w from G.mono _ E E' _ _ _ _ hm hs hG) hm'.hide (VRs.pureM (E := E') (E' := E'.bare) (fun _ _ _ x => x) h2 h1)).mono ?_
  rintro e w' ⟨v, r', m', E2, he, ⟨rfl, rfl⟩, hs2, hm2, hr2⟩
  have hk : ∀ b, b < w.heap.size → w'.heap[b]? = w.heap[b]? := fun b hb => hs2.kept b hb fun i => M0_blk
  exact ⟨v, _, m, E, he, ⟨rfl, rfl⟩, ⟨.refl E, Nat.le_refl _, fun _ _ _ => rfl, fun _ _ _ h => ⟨fun _ => rfl, h⟩, hs2.os, hs2.tape, hs2.output, hs2.drawn, hs2.size, fun b hb _ => hk b hb, fun i b h _ => ⟨i, h⟩, fun _ _ _ h => .inl h⟩, hm.grow hk, hr2.dry hr⟩

/-! ### Rules of a run -/
theorem M0_next : M0.next = 0 := rfl
theorem M0_obj (i : Nat) : M0.obj i = none := rfl
theorem freeze_obj (m : Mm) (S : Nat → Bool) (i : Nat) : (m.freeze S).obj i = if S i = true then none else m.obj i := rfl
theorem freeze_next (m : Mm) (S : Nat → Bool) : (m.freeze S).next = m.next := rfl
section
variable {P : Program} {G : Ground}
/-- A call that only computes is handed boxes of S, which are not written any more. -/
theorem x_cut {base i : Nat} {d : Option Nat} {f : FuncId} {xs : List Opd} {l : List VI} {s : St} {K : St → Prop} {us : List V} {r : V} (S : Nat → Bool) (hf : Fn P G f us r) (hv : Vws s.m S (xs.map s.ev) us)
    (h : goR P G base (some ⟨putT s.t d r, s.m.freeze S⟩) l (i + 1) K) : vrun P G base i (⟨d, none, .call f, xs, none⟩ :: l) s K := by
  rw [vrun]
  unfold vstep VI.on
  simp only [if_true, sem, callSem]
  exact ⟨_, _, .inl rfl, hf.cut S hv, ⟨r, _, rfl, rfl⟩, by rintro r' m' ⟨rfl, rfl⟩; exact goR_vrun l (i + 1) _ h⟩
/-- A call that only computes literals is lent boxes. -/
theorem x_lend {base i : Nat} {d : Option Nat} {f : FuncId} {xs : List Opd} {l : List VI} {s : St} {K : St → Prop} {us : List V} {r : V} (S : Nat → Bool) (hf : Fn P G f us r) (hr : r.dry = true) (hv : Vws s.m S (xs.map s.ev) us)
    (h : goR P G base (some ⟨putT s.t d r, s.m⟩) l (i + 1) K) : vrun P G base i (⟨d, none, .call f, xs, none⟩ :: l) s K := by
  rw [vrun]
  unfold vstep VI.on
  simp only [if_true, sem, callSem]
  exact ⟨_, _, .inl rfl, hf.lend hr S hv, ⟨r, _, rfl, rfl⟩, by rintro r' m' ⟨rfl, rfl⟩; exact goR_vrun l (i + 1) _ h⟩
theorem x_lendA {base i : Nat} {d : Option Nat} {f : FuncId} {xs : List Opd} {l : List VI} {s : St} {K : St → Prop} {us : List V} {r : V} {anc : List Nat} (S : Nat → Bool) (hf : Fn P G f us r) (hr : r.dry = true)
    (hv : ∀ m', Agree base anc s.m m' → Vws m' S (xs.map s.ev) us) (h : goR P G base (some ⟨putT s.t d r, s.m⟩) l (i + 1) K) : vrun P G base i (⟨d, none, .call f, xs, some anc⟩ :: l) s K := by
  rw [vrun]
  unfold vstep VI.on
  simp only [if_true, sem, callSem]
  exact ⟨_, r, .inl rfl, fun m' ha _ => hf.lend hr S (hv m' ha), goR_vrun l (i + 1) _ h⟩
end
section
variable {P : Program} {G : Ground}
/-! The rules of a run, as equations. -/
theorem vx_skip (Q : VX → St → Prop) (s : St) : VC.vx P G .skip Q s = Q .nrm s := propext ⟨fun h => h, fun h => h⟩
theorem vx_ret (Q : VX → St → Prop) (s : St) : VC.vx P G .ret Q s = Q .ret s := propext ⟨fun h => h, fun h => h⟩
theorem vx_exit (i : Nat) (Q : VX → St → Prop) (s : St) : VC.vx P G (.exit i) Q s = Q (.exit i) s := propext ⟨fun h => h, fun h => h⟩
theorem vx_seq (a b : VC) (Q : VX → St → Prop) (s : St) : VC.vx P G (.seq a b) Q s = VC.vx P G a (VX.then (VC.vx P G b Q) Q) s := propext ⟨fun h => h, fun h => h⟩
theorem vx_block (i : Nat) (b : VC) (Q : VX → St → Prop) (s : St) : VC.vx P G (.block i b) Q s = VC.vx P G b (VX.inBlock i Q) s := propext ⟨fun h => h, fun h => h⟩
theorem vx_scope (b : VC) (Q : VX → St → Prop) (s : St) : VC.vx P G (.scope b) Q s = VC.vx P G b Q s := propext ⟨fun h => h, fun h => h⟩
theorem vx_cond (c : Opd) (a b : VC) (Q : VX → St → Prop) (s : St) : VC.vx P G (.cond c a b) Q s = condR P G (s.ev c) a b Q s := propext ⟨fun h => h, fun h => h⟩
theorem vx_condT (a b : VC) (Q : VX → St → Prop) (s : St) : condR P G (.lit (.bool true)) a b Q s = VC.vx P G a Q s := propext ⟨fun h => h, fun h => h⟩
theorem vx_condF (a b : VC) (Q : VX → St → Prop) (s : St) : condR P G (.lit (.bool false)) a b Q s = VC.vx P G b Q s := propext ⟨fun h => h, fun h => h⟩
/-- A region, by its end: what is run of it ahead of the first operation that has to be looked at. -/
theorem vx_ops {k : Nat} {l : List VI} {Q : VX → St → Prop} {s : St} (h : goR P G s.m.next (some ⟨s.t, ⟨s.m.obj, s.m.next + k⟩⟩) l 0 (Q .nrm)) : VC.vx P G (.ops k l) Q s := x_ops h
end
section
variable {P : Program} {G : Ground}
/-- A call of a function value. -/
theorem x_callv {base i : Nat} {d : Option Nat} {x : Opd} {xs : List Opd} {l : List VI} {s : St} {K : St → Prop} {f : FuncId} {cs : List V} {Post : V → Mm → Prop} (hx : s.ev x = .fn f cs) (hc : callable P f = true) (hf : SFn P G f (xs.map s.ev ++ cs) s.m Post) (hne : ∃ r m', Post r m')
    (h : ∀ r m', Post r m' → goR P G base (some ⟨putT s.t d r, m'⟩) l (i + 1) K) : vrun P G base i (⟨d, none, .callv, x :: xs, none⟩ :: l) s K := by
  rw [vrun]
  unfold vstep VI.on
  simp only [if_true, List.map_cons, hx, sem, callSem]
  exact ⟨hc, _, Post, .inl rfl, hf, hne, fun r m' hP => goR_vrun l (i + 1) _ (h r m' hP)⟩
end
/-- A slice that may grow: it has no room, or a row of this call's own, which is in use. -/
def Apb (m : Mm) (k : Tok) (n : Nat) (e : TypeId) (size : Nat) : Prop := k = .exact ∨ ∃ t, k = .own t ∧ t < m.next ∧ m.obj t = some (.row n e size)
theorem Apb.mono {m m' : Mm} {k : Tok} {n : Nat} {e : TypeId} {size : Nat} (h : Apb m k n e size) (ho : ∀ t, t < m.next → m.obj t = some (.row n e size) → m'.obj t = m.obj t) (hn : m.next ≤ m'.next) : Apb m' k n e size := by
  rcases h with h | ⟨t, h1, h2, h3⟩
  · exact .inl h
  · exact .inr ⟨t, h1, Nat.lt_of_lt_of_le h2 hn, (ho t h2 h3).trans h3⟩
section
variable {P : Program} {G : Ground}
theorem x_appb {base i : Nat} {d : Option Nat} {e : TypeId} {size bytes : Nat} {x y : Opd} {l : List VI} {s : St} {K : St → Prop} {n j : Nat} {xs ys : List V} {k k2 : Tok} (hx : s.ev x = .sl n xs k) (hy : s.ev y = .sl j ys k2) (hap : Apb s.m k n e size)
    (h1 : xs.length = n * size) (h2 : ys.length = j * size) (h3 : (n + j) * bytes ≤ 140737488355328) (h4 : n + j ≤ maxLen) (h0 : base + i < s.m.next)
    (h : ∀ k' m', Apb m' k' (n + j) e size → m'.next = s.m.next → (∀ q cs ty, s.m.obj q = some (.box cs ty) → q ≠ base + i → m'.obj q = some (.box cs ty)) → (∀ q, q ≠ base + i → k ≠ .own q → m'.obj q = s.m.obj q) → goR P G base (some ⟨putT s.t d (.sl (n + j) (xs ++ ys) k'), m'⟩) l (i + 1) K) :
    vrun P G base i (⟨d, none, .app e size bytes, [x, y], none⟩ :: l) s K := by
  rw [vrun]
  unfold vstep VI.on
  simp only [if_true, List.map_cons, List.map_nil, hx, hy, sem]
  refine ⟨h1, h2, h3, h4, ?_⟩
  rcases hap with rfl | ⟨t, rfl, ht, ho⟩
  · exact goR_vrun l (i + 1) _ (h _ _ (.inr ⟨base + i, rfl, h0, if_pos rfl⟩) rfl (fun q cs ty hq hne => (if_neg hne).trans hq) (fun q hne _ => if_neg hne))
  · simp only [ho]
    exact ⟨rfl, trivial, trivial, trivial, goR_vrun l (i + 1) _ (h _ _ (.inr ⟨t, rfl, ht, if_pos rfl⟩) rfl (fun q cs ty hq hne => (if_neg (fun e => by subst e; rw [ho] at hq; cases hq)).trans hq) (fun q _ hne => if_neg fun e => hne (by rw [e])))⟩
end
/-- A pure value is seen as it is. -/
theorem Vws.of_pure {m : Mm} {S : Nat → Bool} {l us : List V} (h : ∀ v ∈ l, Vw m S v v) (e : us = l) : Vws m S l us := by
  subst e
  induction us with
  | nil => exact .nil
  | cons v l ih => exact .cons (h v (List.mem_cons_self ..)) (ih fun u hu => h u (List.mem_cons_of_mem _ hu))
end Go.Proofs.YtdefefeifcdogaaGreat
