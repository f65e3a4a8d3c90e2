/- Running code on values by numbers, as far as it goes by itself. What a function returns may be its own boxes: nobody writes them any more. Boxes that are handed to a call which only reads: they stand for good from then on. Boxes that are seen as what stands for good, whole structures of them; calls that only compute, from an empty memory; boxes that are lent to a call. Running code on values by numbers outright, by a function: what it says is what the code does. Nothing is proved of the program here. What code leaves alone: slots that it does not write; loops with a frame. Nothing is proved of the program here. More rules of a run: calls with memory whose arguments are taken as they are; rows that grow beside one another; what a call leaves. Nothing is proved of the program here. Running code on values by numbers outright, once more: each operation's text stands by itself, so that the kernel copies no text that it does not run. It is the evaluator of before. Printed by a program. Nothing is proved of the program here. What stands in memory throughout: nothing. Nothing is proved of the program here. The words of a walk on values, each once: what they rewrite by, and steps that find their premises by themselves. Nothing is proved of the program here. -/
import Derived.Test.YtdefefeifcdogaaGreatVs
import Derived.Test.YtdefefeifcdogaaGreatProg
import Derived.KernelRfl
set_option linter.unusedSimpArgs false
set_option linter.unusedVariables false
namespace Go.Proofs.YtdefefeifcdogaaGreat
open Go.RowKit

/-- What an operation gives, where that is one thing and nothing is owed. -/
def exoOp (id base : Nat) (md : Option (List Nat)) (op : VO) (vals : List V) (m : Mm) : Option (V × Mm) :=
  match op with
  | .alloc t z => some (.ptr id 0, m.put id (.box z t))
  | .box t => match vals with | [x] => some (.ptr id 0, m.put id (.box x.cells t)) | _ => none
  | .mk e size bytes z => match vals with
    | [.lit (.int _ l), .lit (.int _ c)] => if 0 ≤ l ∧ l ≤ c ∧ c * bytes ≤ 140737488355328 ∧ c ≤ 140737488355328 ∧ z.length = size then some (.bsl id 0 l.toNat c.toNat, m.put id (.box (List.flatten (List.replicate c.toNat z)) e)) else none
    | _ => none
  | .ld1 => match vals with
    | [.ept xs o] => (xs[o]?).map fun v => (v, m)
    | [.ptr i o] => if rdable md base i = true then (match m.obj i with | some (.box cs _) => (cs[o]?).map fun v => (v, m) | _ => none) else none
    | _ => none
  | .ldA n => match vals with
    | [.ept xs o] => if o + n ≤ xs.length then some (.agg ((xs.drop o).take n), m) else none
    | [.ptr i o] => if rdable md base i = true then (match m.obj i with | some (.box cs _) => if o + n ≤ cs.length then some (.agg ((cs.drop o).take n), m) else none | _ => none) else none
    | _ => none
  | .st n => match vals with
    | [.ptr i o, v] => if stOk md base i = true then (match m.obj i with
      | some (.box cs t) => if v.cells.length = n ∧ v.cells.all V.one = true ∧ o + n ≤ cs.length then some (vund, m.put i (.box (splice cs o v.cells) t)) else none
      | _ => none) else none
    | _ => none
  | .app e size bytes => match vals with
    | [.sl n xs k, .sl j ys _] => match k with
      | .exact => if xs.length = n * size ∧ ys.length = j * size ∧ (n + j) * bytes ≤ 140737488355328 ∧ n + j ≤ maxLen then some (.sl (n + j) (xs ++ ys) (.own id), m.put id (.row (n + j) e size)) else none
      | .own t => match ownOk md base t, m.obj t with
        | true, some (.row n' e' s') => if (xs.length = n * size ∧ ys.length = j * size ∧ (n + j) * bytes ≤ 140737488355328 ∧ n + j ≤ maxLen) ∧ n' = n ∧ e' = e ∧ s' = size then some (.sl (n + j) (xs ++ ys) (.own t), m.put t (.row (n + j) e size)) else none
        | _, _ => none
      | .no => none
    | _ => none
  | .mkslB e n size z pl => if pl.length = vals.length ∧ z.length = n * size then (vfill z (pl.zip vals)).map fun cs => (.gsl id n size, m.put id (.box cs e)) else none
  | .ld1W => match vals with
    | [.ptr i o, .ptr j _] => if j = i ∧ rdable md base i = true then (match m.obj i with
      | some (.box cs _) => (cs[o]?).map fun v => (v, m)
      | _ => none) else none
    | _ => none
  | .appB _ _ _ | .appM _ _ _ | .appL _ _ _ | .eqN _ | .call _ | .callv | .callB _ | .callL _ _ | .cpy | .clr _ _ | .stL _ => none
  | .mkmap ks => if md = none then some (.mp id, m.put id (.oth (.map ks []))) else none
  | .mlk ks ok => if md = none then (match vals with
    | [.mp i, key] => match m.obj i, keyOf ks key with
      | some (.oth (.map ks' es)), some k => if ks' = ks then some (mans ok (mget es k), m) else none
      | _, _ => none
    | _ => none) else none
  | .mput ks => if md = none then (match vals with
    | [.mp i, key, .lit (.int .i64 n)] => match m.obj i, keyOf ks key with
      | some (.oth (.map ks' es)), some k => if ks' = ks then some (vund, m.put i (.oth (.map ks (mset es k n)))) else none
      | _, _ => none
    | _ => none) else none
  | op => (pureSem op vals).map fun v => (v, m)

theorem exoOp_sem {P : Program} {G : Ground} {id base : Nat} {md : Option (List Nat)} {op : VO} {vals : List V} {m : Mm} {K : V → Mm → Prop} {r : V} {m' : Mm} (h : exoOp id base md op vals m = some (r, m')) (hK : K r m') : sem P G id base md op vals m K := by
  cases op <;> simp only [exoOp] at h <;> simp only [sem]
  case alloc => cases h; exact hK
  case box => split at h <;> cases h; exact hK
  case mk =>
    split at h
    · split at h
      · rename_i hh; cases h; exact ⟨hh.1, hh.2.1, hh.2.2.1, hh.2.2.2.1, hh.2.2.2.2, hK⟩
      · cases h
    · cases h
  case ld1 =>
    split at h
    · rw [Option.map_eq_some_iff] at h
      obtain ⟨v, hv, e⟩ := h
      cases e
      simp only [hv]; exact hK
    · split at h
      · rename_i hrd
        refine ⟨hrd, ?_⟩
        split at h
        · rename_i ho
          rw [Option.map_eq_some_iff] at h
          obtain ⟨v, hv, e⟩ := h
          cases e
          simp only [ho, hv]; exact hK
        · cases h
      · cases h
    · cases h
  case ld1W =>
    split at h
    · split at h
      · rename_i hh
        refine ⟨hh.1, hh.2, ?_⟩
        split at h
        · rename_i ho
          rw [Option.map_eq_some_iff] at h
          obtain ⟨v, hv, e⟩ := h
          cases e
          simp only [ho, hv]; exact hK
        · cases h
      · cases h
    · cases h
  case ldA =>
    split at h
    · split at h
      · rename_i hl; cases h; exact ⟨hl, hK⟩
      · cases h
    · split at h
      · rename_i hrd
        refine ⟨hrd, ?_⟩
        split at h
        · rename_i ho
          split at h
          · rename_i hl; cases h; simp only [ho]; exact ⟨hl, hK⟩
          · cases h
        · cases h
      · cases h
    · cases h
  case st =>
    split at h
    · split at h
      · rename_i hok
        refine ⟨hok, ?_⟩
        split at h
        · rename_i ho
          split at h
          · rename_i hh; cases h; simp only [ho]; exact ⟨hh.1, hh.2.1, hh.2.2, hK⟩
          · cases h
        · cases h
      · cases h
    · cases h
  case mkslB =>
    split at h
    · rename_i h0
      rw [Option.map_eq_some_iff] at h
      obtain ⟨cs, hcs, e⟩ := h
      cases e
      rw [if_pos h0, hcs]; exact hK
    · cases h
  case app =>
    split at h
    · split at h
      · split at h
        · rename_i hh; cases h; exact ⟨hh.1, hh.2.1, hh.2.2.1, hh.2.2.2, hK⟩
        · cases h
      · split at h
        · rename_i hok ho
          split at h
          · rename_i hh; cases h; simp only [ho]; exact ⟨hh.1.1, hh.1.2.1, hh.1.2.2.1, hh.1.2.2.2, hok, hh.2.1, hh.2.2.1, hh.2.2.2, hK⟩
          · cases h
        · cases h
      · cases h
    · cases h
  case mkmap =>
    split at h
    · rename_i hmd; subst hmd; cases h; exact hK
    · cases h
  case mlk =>
    split at h
    · rename_i hmd
      subst hmd
      split at h
      · split at h
        · rename_i ho hk
          split at h
          · rename_i hks; cases h; simp only [ho, hk]; exact ⟨hks, hK⟩
          · cases h
        · cases h
      · cases h
    · cases h
  case mput =>
    split at h
    · rename_i hmd
      subst hmd
      split at h
      · split at h
        · rename_i ho hk
          split at h
          · rename_i hks; cases h; simp only [ho, hk]; exact ⟨hks, hK⟩
          · cases h
        · cases h
      · cases h
    · cases h
  all_goals first
    | (cases h; done)
    | (cases h; exact hK)
    | (rw [Option.map_eq_some_iff] at h
       obtain ⟨v, hv, e⟩ := h
       cases e
       rw [hv]; exact hK)

def exo (base idx : Nat) (vi : VI) (s : St) : Option St :=
  if vi.on s = true then (exoOp (base + idx) base vi.mode vi.op (vi.args.map s.ev) s.m).map fun p => ⟨putT s.t vi.dst p.1, p.2⟩ else some ⟨putT s.t vi.dst vund, s.m⟩

def VO.stops : VO → Bool
  | .app _ _ _ | .appB _ _ _ | .appM _ _ _ | .appL _ _ _ | .eqN _ | .call _ | .callv | .callB _ | .callL _ _ | .cpy | .clr _ _ | .stL _ => true
  | _ => false

section
variable (P : Program) (G : Ground)
/-- A region, run az far az it goes. -/
def goR (base : Nat) : Option St → List VI → Nat → (St → Prop) → Prop
  | none, _, _, _ => False
  | some s, [], _, K => K s
  | some s, vi :: l, i, K => if vi.op.stops = true then vrun P G base i (vi :: l) s K else goR base (exo base i vi s) l (i + 1) K
/-- A test. -/
def condR (v : V) (a b : VC) (Q : VX → St → Prop) (s : St) : Prop :=
  match v with
  | .lit (.bool t) => if t = true then a.vx P G Q s else b.vx P G Q s
  | _ => False
end
section
variable {P : Program} {G : Ground}
theorem goR_vrun {base : Nat} {K : St → Prop} : ∀ (l : List VI) (i : Nat) (s : St), goR P G base (some s) l i K → vrun P G base i l s K
  | [], i, s, h => by rw [goR] at h; rw [vrun]; exact h
  | vi :: l, i, s, h => by
    rw [goR] at h
    split at h
    · exact h
    · rw [vrun]
      unfold vstep
      unfold exo at h
      by_cases ho : vi.on s = true
      · rw [if_pos ho] at h ⊢
        cases hx : exoOp (base + i) base vi.mode vi.op (vi.args.map s.ev) s.m with
        | none => rw [hx, Option.map_none, goR] at h; exact h.elim
        | some p =>
          rw [hx, Option.map_some] at h
          exact exoOp_sem (r := p.1) (m' := p.2) hx (goR_vrun l (i + 1) _ h)
      · rw [if_neg ho] at h ⊢
        exact goR_vrun l (i + 1) _ h
theorem putT_get (t : Nat → V) (n i : Nat) (v : V) : putT t (some n) v i = if i = n then v else t i := rfl
theorem putT_none (t : Nat → V) (v : V) : putT t none v = t := rfl
theorem put_obj (m : Mm) (i j : Nat) (o : AObj) : (m.put i o).obj j = if j = i then some o else m.obj j := rfl
theorem put_next (m : Mm) (i : Nat) (o : AObj) : (m.put i o).next = m.next := rfl
/-! ### The rules of a run -/
theorem x_ops {k : Nat} {l : List VI} {Q : VX → St → Prop} {s : St} (h : goR P G s.m.next (some ⟨s.t, ⟨s.m.obj, s.m.next + k⟩⟩) l 0 (Q .nrm)) : (VC.ops k l).vx P G Q s := by
  rw [VC.vx]; exact goR_vrun l 0 _ h
theorem x_seq {a b : VC} {Q : VX → St → Prop} {s : St} (h : a.vx P G (VX.then (b.vx P G Q) Q) s) : (VC.seq a b).vx P G Q s := by rw [VC.vx]; exact h
theorem x_if {t : Bool} {a b : VC} {Q : VX → St → Prop} {s : St} (h1 : t = true → a.vx P G Q s) (h2 : t = false → b.vx P G Q s) : condR P G (.lit (.bool t)) a b Q s := by
  unfold condR
  cases t
  · exact h2 rfl
  · exact h1 rfl
theorem x_loop {b : VC} {Q : VX → St → Prop} {s : St} (I : St → Prop) (μ : St → Nat) (h0 : I s) (h : ∀ s', I s' → b.vx P G (VX.then (fun s'' => I s'' ∧ μ s'' < μ s') Q) s') : (VC.loop b).vx P G Q s := by
  rw [VC.vx]; exact ⟨I, μ, h0, h⟩
/-- A call that only computes. -/
theorem x_callLF {base i : Nat} {d : Option Nat} {f : FuncId} {js : List Nat} {xs : List Opd} {l : List VI} {s : St} {K : St → Prop} {vs : List V} {r : V} (hf : Fn P G f vs r) (hv : V.norms (xs.map s.ev) = vs) (h : goR P G base (some ⟨putT s.t d r, s.m⟩) l (i + 1) K) :
    vrun P G base i (⟨d, none, .callL f js, xs, none⟩ :: l) s K := by
  rw [vrun]
  unfold vstep VI.on
  simp only [if_true, sem]
  have hk := goR_vrun l (i + 1) _ h
  exact ⟨vs, _, .inr hv.symm, hf s.m, ⟨r, s.m, ⟨rfl, rfl⟩, Nat.le_refl _, fun _ _ _ hn => hn⟩, by rintro r' m' ⟨rfl, rfl⟩ _; exact hk⟩
theorem x_call {base i : Nat} {d : Option Nat} {f : FuncId} {xs : List Opd} {l : List VI} {s : St} {K : St → Prop} {vs : List V} {r : V} (md : Option (List Nat)) (hf : Fn P G f vs r) (hv : V.norms (xs.map s.ev) = vs) (h : goR P G base (some ⟨putT s.t d r, s.m⟩) l (i + 1) K) :
    vrun P G base i (⟨d, none, .call f, xs, md⟩ :: l) s K := by
  rw [vrun]
  unfold vstep VI.on
  simp only [if_true, sem, callSem]
  have hk := goR_vrun l (i + 1) _ h
  cases md with
  | none => exact ⟨vs, _, .inr hv.symm, hf s.m, ⟨r, s.m, rfl, rfl⟩, by rintro r' m' ⟨rfl, rfl⟩; exact hk⟩
  | some anc => exact ⟨vs, r, .inr hv.symm, fun m' _ _ => hf m', hk⟩
/-- A test against nil. -/
theorem x_eqN {base i : Nat} {d : Option Nat} {neg : Bool} {x : Opd} {l : List VI} {s : St} {K : St → Prop} {n : Nat} {xs : List V} {k : Tok} (hx : s.ev x = .sl n xs k) (h : ∀ b, (xs ≠ [] → b = neg) → goR P G base (some ⟨putT s.t d (vbool b), s.m⟩) l (i + 1) K) :
    vrun P G base i (⟨d, none, .eqN neg, [x], none⟩ :: l) s K := by
  rw [vrun]
  unfold vstep VI.on
  simp only [if_true, List.map_cons, List.map_nil, hx, sem]
  exact fun b hb => goR_vrun l (i + 1) _ (h b hb)
/-- A call that gives a box of its own. -/
theorem x_callB {base i : Nat} {d : Option Nat} {f : FuncId} {xs : List Opd} {l : List VI} {s : St} {K : St → Prop} {vs : List V} {n : Nat} {cs : List V} {e : TypeId} (md : Option (List Nat)) (hf : BFn P G f vs n cs e) (hv : V.norms (xs.map s.ev) = vs)
    (h : if n = 0 then goR P G base (some ⟨putT s.t d (.sl 0 [] .exact), s.m⟩) l (i + 1) K else goR P G base (some ⟨putT s.t d (.bsl (base + i) 0 n n), s.m.put (base + i) (.box cs e)⟩) l (i + 1) K) :
    vrun P G base i (⟨d, none, .callB f, xs, md⟩ :: l) s K := by
  rw [vrun]
  unfold vstep VI.on
  simp only [if_true, sem]
  refine ⟨vs, n, cs, e, .inr hv.symm, by unfold BFnM; split; exact hf s.m; exact fun m' _ _ => hf m', ?_⟩
  split
  · rename_i h0; rw [if_pos h0] at h; exact goR_vrun l (i + 1) _ h
  · rename_i h0; rw [if_neg h0] at h; exact goR_vrun l (i + 1) _ h
/-- An append that moves a box that may grow. -/
theorem x_appM {base i : Nat} {d : Option Nat} {e : TypeId} {size bytes : Nat} {x y : Opd} {l : List VI} {s : St} {K : St → Prop} {q n j : Nat} {cs ys : List V} (hx : s.ev x = .gsl q n size) (hy : rdS s.m size (s.ev y) = some (j, ys)) (ho : s.m.obj q = some (.box cs e))
    (h1 : n * size ≤ cs.length) (h2 : (cs.take (n * size)).all V.one = true) (h3 : (n + j) * bytes ≤ 140737488355328) (h4 : n + j ≤ maxLen)
    (h : goR P G base (some ⟨putT s.t d (.gsl (base + i) (n + j) size), (s.m.del q).put (base + i) (.box (cs.take (n * size) ++ ys) e)⟩) l (i + 1) K) :
    vrun P G base i (⟨d, none, .appM e size bytes, [x, y], none⟩ :: l) s K := by
  rw [vrun]
  unfold vstep VI.on
  simp only [if_true, List.map_cons, List.map_nil, hx, sem, hy, ho]
  exact ⟨trivial, h3, h4, trivial, h1, h2, goR_vrun l (i + 1) _ h⟩
/-- The first append to such a slice: there was none. -/
theorem x_appM0 {base i : Nat} {d : Option Nat} {e : TypeId} {size bytes : Nat} {x y : Opd} {l : List VI} {s : St} {K : St → Prop} {n j : Nat} {xs ys : List V} (hx : s.ev x = .sl n xs .exact) (hy : rdS s.m size (s.ev y) = some (j, ys))
    (h1 : xs.length = n * size) (h3 : (n + j) * bytes ≤ 140737488355328) (h4 : n + j ≤ maxLen)
    (h : if j = 0 then goR P G base (some ⟨putT s.t d (.sl n xs .exact), s.m⟩) l (i + 1) K else goR P G base (some ⟨putT s.t d (.gsl (base + i) (n + j) size), s.m.put (base + i) (.box (xs ++ ys) e)⟩) l (i + 1) K) :
    vrun P G base i (⟨d, none, .appM e size bytes, [x, y], none⟩ :: l) s K := by
  rw [vrun]
  unfold vstep VI.on
  simp only [if_true, List.map_cons, List.map_nil, hx, sem, hy]
  refine ⟨trivial, h1, h3, h4, ?_⟩
  split
  · rename_i h0; rw [if_pos h0] at h; exact goR_vrun l (i + 1) _ h
  · rename_i h0; rw [if_neg h0] at h; exact goR_vrun l (i + 1) _ h
/-- An append to a slice that has no room. -/
theorem x_appE {base i : Nat} {d : Option Nat} {e : TypeId} {size bytes : Nat} {x y : Opd} {l : List VI} {s : St} {K : St → Prop} {n j : Nat} {xs ys : List V} {k2 : Tok} {md : Option (List Nat)} (hx : s.ev x = .sl n xs .exact) (hy : s.ev y = .sl j ys k2)
    (h1 : xs.length = n * size) (h2 : ys.length = j * size) (h3 : (n + j) * bytes ≤ 140737488355328) (h4 : n + j ≤ maxLen)
    (h : goR P G base (some ⟨putT s.t d (.sl (n + j) (xs ++ ys) (.own (base + i))), s.m.put (base + i) (.row (n + j) e size)⟩) l (i + 1) K) :
    vrun P G base i (⟨d, none, .app e size bytes, [x, y], md⟩ :: l) s K := by
  rw [vrun]
  unfold vstep VI.on
  simp only [if_true, List.map_cons, List.map_nil, hx, hy, sem]
  exact ⟨h1, h2, h3, h4, goR_vrun l (i + 1) _ h⟩
end
section
variable {P : Program} {G : Ground}
/-! Equations that the kernel is not to check by running what follows. -/
theorem then_nrm (K : St → Prop) (Q : VX → St → Prop) (s : St) : VX.then K Q .nrm s = K s := propext ⟨fun h => h, fun h => h⟩
theorem then_ret (K : St → Prop) (Q : VX → St → Prop) (s : St) : VX.then K Q .ret s = Q .ret s := propext ⟨fun h => h, fun h => h⟩
theorem then_exit (K : St → Prop) (Q : VX → St → Prop) (i : Nat) (s : St) : VX.then K Q (.exit i) s = Q (.exit i) s := propext ⟨fun h => h, fun h => h⟩
theorem inB_nrm (i : Nat) (Q : VX → St → Prop) (s : St) : VX.inBlock i Q .nrm s = Q .nrm s := propext ⟨fun h => h, fun h => h⟩
theorem inB_ret (i : Nat) (Q : VX → St → Prop) (s : St) : VX.inBlock i Q .ret s = Q .ret s := propext ⟨fun h => h, fun h => h⟩
theorem inB_exit (i j : Nat) (Q : VX → St → Prop) (s : St) : VX.inBlock i Q (.exit j) s = if j = i then Q .nrm s else Q (.exit j) s := propext ⟨fun h => h, fun h => h⟩
theorem gR_nil (base i : Nat) (s : St) (K : St → Prop) : goR P G base (some s) [] i K = K s := propext ⟨fun h => h, fun h => h⟩
theorem gR_cons (base i : Nat) (s : St) (vi : VI) (l : List VI) (K : St → Prop) : goR P G base (some s) (vi :: l) i K = if vi.op.stops = true then vrun P G base i (vi :: l) s K else goR P G base (exo base i vi s) l (i + 1) K := propext ⟨fun h => h, fun h => h⟩
end
end Go.Proofs.YtdefefeifcdogaaGreat
namespace Go.Proofs.YtdefefeifcdogaaGreat
open Go.RowKit


section
variable {E E' : Env} {n0 : Nat} {m : Mm}
end

/-- A function with memory: what it comes to. -/
def FinS (rs : List VRes) (Post : V → Mm → Prop) (e : VX) (s' : St) : Prop := (e = .nrm ∨ e = .ret) ∧ ∃ r, resV s' rs = some r ∧ Post r s'.m
theorem finS_ret {rs : List VRes} {Post : V → Mm → Prop} {r : V} {s' : St} (h1 : resV s' rs = some r) (h2 : Post r s'.m) : FinS rs Post .ret s' := ⟨.inr rfl, r, h1, h2⟩
theorem SFn.of_vxS {P : Program} {bx : Nat → Bool} {G : Ground} {f : FuncId} {nt : Nat} {c : VC} {rs : List VRes} (hc : Comp P bx G.tab f nt c rs) {args : List V} {m : Mm} {Post : V → Mm → Prop} (hn : args.length ≤ nt)
    (h : c.vx P G (FinS rs Post) ⟨initT args, m⟩) : SFn P G f args m Post := SFn.of_vx hc hn h
end Go.Proofs.YtdefefeifcdogaaGreat
namespace Go.Proofs.YtdefefeifcdogaaGreat
open Go.RowKit

mutual
/-- As a call may see it to which it is handed: boxes of S stand for good. -/
def V.viewS (S : Nat → Bool) (m : Mm) : V → Option V
  | .lit v => some (.lit v)
  | .agg cs => (V.viewsS S m cs).map .agg
  | .tup cs => (V.viewsS S m cs).map .tup
  | .sl n xs _ => some (.sl n xs .no)
  | .ptr _ _ => none
  | .gsl _ _ _ => none
  | .bsl i off n _ => match m.obj i with
    | some (.box cs _) => if S i = true ∧ V.clean cs = true then some (.sl n (cs.drop off) .no) else none
    | _ => none
  | .ept xs o => some (.ept xs o)
  | .fn f cs => (V.viewsS S m cs).map (.fn f)
  | .mp _ => none
  | .yld _ => none
def V.viewsS (S : Nat → Bool) (m : Mm) : List V → Option (List V)
  | [] => some []
  | v :: l => (V.viewS S m v).bind fun u => (V.viewsS S m l).map fun us => u :: us
end

section
variable {E E' : Env} {S : Nat → Bool} {m : Mm}
/-- What E' must know of the boxes. -/
def ShownS (E E' : Env) (S : Nat → Bool) (m : Mm) : Prop := (∀ b o v, E.M b o = some v → E'.M b o = some v) ∧ ∀ i cs t b, S i = true → m.obj i = some (.box cs t) → V.clean cs = true → E.φ i = some b → At E' b 0 cs
mutual
theorem VR.viewS (hs : ShownS E E' S m) : ∀ {v u : V} {c : Value}, v.viewS S m = some u → VR E v c → VR E' u c ∧ u.pure = true
  | .lit _, _, _, hp, h => by rw [V.viewS] at hp; cases hp; rw [VR] at h ⊢; exact ⟨h, by rw [V.pure]⟩
  | .agg _, _, _, hp, h => by
    rw [V.viewS, Option.map_eq_some_iff] at hp
    obtain ⟨us, hus, rfl⟩ := hp
    rw [VR] at h; obtain ⟨a, e, h1⟩ := h
    have h2 := VRs.viewS hs hus h1
    exact ⟨by rw [VR]; exact ⟨a, e, h2.1⟩, by rw [V.pure]; exact h2.2⟩
  | .tup _, _, _, hp, h => by
    rw [V.viewS, Option.map_eq_some_iff] at hp
    obtain ⟨us, hus, rfl⟩ := hp
    rw [VR] at h; obtain ⟨a, e, h1⟩ := h
    have h2 := VRs.viewS hs hus h1
    exact ⟨by rw [VR]; exact ⟨a, e, h2.1⟩, by rw [V.pure]; exact h2.2⟩
  | .sl n xs k, _, c, hp, h => by
    rw [V.viewS] at hp; cases hp
    rw [VR] at h
    obtain ⟨A, cap, e, hn, _, hx⟩ := h
    have h1 : VR E (.sl n xs .no) c := by rw [VR]; exact ⟨A, cap, e, hn, trivial, hx⟩
    have hp : V.pure (.sl n xs .no) = true := by rw [V.pure]; intro t h; cases h
    exact ⟨VR.pureM hs.1 hp h1, hp⟩
  | .ptr _ _, _, _, hp, _ => by rw [V.viewS] at hp; cases hp
  | .gsl _ _ _, _, _, hp, _ => by rw [V.viewS] at hp; cases hp
  | .mp _, _, _, hp, _ => by rw [V.viewS] at hp; cases hp
  | .yld _, _, _, hp, _ => by rw [V.viewS] at hp; cases hp
  | .bsl i off n cap, _, _, hp, h => by
    rw [V.viewS] at hp
    rw [VR] at h
    obtain ⟨b, hφ, cap', e, hn, hc⟩ := h
    split at hp
    · rename_i cs t ho
      split at hp
      · rename_i hh
        cases hp
        obtain ⟨hi, hcl⟩ := hh
        refine ⟨?_, by rw [V.pure]; intro t h; cases h⟩
        rw [VR]
        have hat := (hs.2 i cs t b hi ho hcl hφ).drop off cs.length
        have hcd := clean_slice hcl off cs.length
        rw [Nat.zero_add, List.take_of_length_le (by rw [List.length_drop]; omega)] at hat
        rw [List.take_of_length_le (by rw [List.length_drop]; omega)] at hcd
        exact ⟨_, cap', e, Nat.le_trans hn hc, trivial, hcd, .inr ⟨b, off, rfl, hat⟩⟩
      · cases hp
    · cases hp
  | .ept xs o, _, _, hp, h => by
    rw [V.viewS] at hp; cases hp
    have hp : V.pure (.ept xs o) = true := by rw [V.pure]
    exact ⟨VR.pureM hs.1 hp h, hp⟩
  | .fn _ _, _, _, hp, h => by
    rw [V.viewS, Option.map_eq_some_iff] at hp
    obtain ⟨us, hus, rfl⟩ := hp
    rw [VR] at h; obtain ⟨a, e, h1⟩ := h
    have h2 := VRs.viewS hs hus h1
    exact ⟨by rw [VR]; exact ⟨a, e, h2.1⟩, by rw [V.pure]; exact h2.2⟩
theorem VRs.viewS (hs : ShownS E E' S m) : ∀ {v u : List V} {c : List Value}, V.viewsS S m v = some u → VRs E v c → VRs E' u c ∧ V.pures u = true
  | [], _, _, hp, h => by rw [V.viewsS] at hp; cases hp; rw [VRs] at h ⊢; exact ⟨h, by rw [V.pures]⟩
  | v :: l, _, _, hp, h => by
    rw [V.viewsS, Option.bind_eq_some_iff] at hp
    obtain ⟨u, hu, hp⟩ := hp
    rw [Option.map_eq_some_iff] at hp
    obtain ⟨us, hus, rfl⟩ := hp
    rw [VRs] at h
    obtain ⟨c, cs, e, h1, h2⟩ := h
    have h3 := VR.viewS hs hu h1
    have h4 := VRs.viewS hs hus h2
    exact ⟨by rw [VRs]; exact ⟨c, cs, e, h3.1, h4.1⟩, by rw [V.pures, h3.2, h4.2]; rfl⟩
end
end


/-- The boxes of S are no longer written. -/
def Mm.freeze (m : Mm) (S : Nat → Bool) : Mm := ⟨fun i => if S i = true then none else m.obj i, m.next⟩
/-- Boxes of S become cells that stand for good. -/
theorem MemR.freeze {E : Env} {m : Mm} {w : World} (hm : MemR E m w) (S : Nat → Bool) (hS : ∀ i, S i = true → ∃ cs t, m.obj i = some (.box cs t) ∧ V.clean cs = true) :
    ∃ E', Step NoX E m w E' (m.freeze S) w ∧ MemR E' (m.freeze S) w ∧ ShownS E E' S m ∧ (∀ i, E'.φ i = E.φ i) := by
  let Q : Nat → Nat → Prop := fun b o => ∃ i cs t, S i = true ∧ m.obj i = some (.box cs t) ∧ E.φ i = some b ∧ o < cs.length
  haveI hdec : ∀ b o, Decidable (Q b o) := fun _ _ => Classical.propDecidable _
  let M2 : Nat → Nat → Option Value := fun b o => if Q b o then w.cell? ⟨b, o, none⟩ else E.M b o
  let E2 : Env := ⟨M2, E.φ, E.loc⟩
  have hM2 : ∀ b o v, E.M b o = some v → M2 b o = some v := fun b o v hM => by
    show (if Q b o then _ else _) = _
    rw [if_neg]
    · exact hM
    · rintro ⟨i, cs, t, _, hi, hφ, _⟩
      obtain ⟨b', c, hφ', _, _, hn⟩ := hm.box i cs t hi
      rw [hφ] at hφ'; cases hφ'
      rw [hn o] at hM; cases hM
  have hle : E.Le E2 := ⟨hM2, fun _ _ x => x, fun _ _ _ x => x⟩
  have hM2n : ∀ b o, (∀ i cs t, S i = true → m.obj i = some (.box cs t) → E.φ i ≠ some b) → M2 b o = E.M b o := fun b o hb => by
    show (if Q b o then _ else _) = _
    rw [if_neg]
    rintro ⟨i, cs, t, hi, hoi, hφ, _⟩
    exact hb i cs t hi hoi hφ
  have hobj : ∀ i o, (m.freeze S).obj i = some o → S i ≠ true ∧ m.obj i = some o := fun i o h => by
    change (if S i = true then none else m.obj i) = some o at h
    by_cases hs : S i = true
    · rw [if_pos hs] at h; cases h
    · rw [if_neg hs] at h; exact ⟨hs, h⟩
  have hB : ∀ i b, BlkOf E2 (m.freeze S) i b → BlkOf E m i b := by
    rintro i b (⟨cs, t, h1, h2⟩ | ⟨n, e, size, cap, h1, h2, h3⟩ | ⟨x, h1, h2⟩)
    · exact .inl ⟨cs, t, (hobj i _ h1).2, h2⟩
    · exact .inr (.inl ⟨n, e, size, cap, (hobj i _ h1).2, h2, h3⟩)
    · exact .inr (.inr ⟨x, (hobj i _ h1).2, h2⟩)
  refine ⟨E2, ⟨hle, Nat.le_refl _, fun _ _ _ => rfl, fun i _ _ h => ⟨fun _ => rfl, ?_⟩, rfl, rfl, rfl, Nat.le_refl _, Nat.le_refl _, fun _ _ _ => rfl, fun i b h _ => ⟨i, hB i b h⟩, fun b o v hM => by
    by_cases hQ : Q b o
    · obtain ⟨i, cs, t, _, hi, hφ, _⟩ := hQ; exact .inr (.inr ⟨i, .inl ⟨cs, t, hi, hφ⟩⟩)
    · change (if Q b o then _ else _) = _ at hM; rw [if_neg hQ] at hM; exact .inl hM⟩, ⟨?_, ?_, ?_, ?_, fun i x hi => by
      obtain ⟨_, hi⟩ := hobj i _ hi
      obtain ⟨b, o, h1, h2, h3⟩ := hm.oth i x hi
      exact ⟨b, o, h1, h2, HobR.mono hle h3⟩, fun i j b hi hj => hm.inj i j b (hB i b hi) (hB j b hj), hm.sizK (fun i cs t hi => ⟨(hobj i _ hi).2, rfl, fun _ => rfl⟩) fun _ _ _ _ _ _ _ => rfl⟩, ⟨hM2, fun i cs t b hi hoi hcl hφ => ?_⟩, fun _ => rfl⟩
  · show (if S i = true then none else m.obj i) = none
    split
    · rfl
    · exact h
  · intro b o x hx
    change (if Q b o then _ else _) = _ at hx
    by_cases hQ : Q b o
    · rw [if_pos hQ] at hx; exact hx
    · rw [if_neg hQ] at hx; exact hm.stable b o x hx
  · intro i hi
    refine ⟨(hm.fresh i hi).1, (hm.fresh i hi).2.1, ?_⟩
    show (if S i = true then none else m.obj i) = none
    split
    · rfl
    · exact (hm.fresh i hi).2.2
  · intro i cs t hi
    obtain ⟨hs, hi⟩ := hobj i _ hi
    obtain ⟨b, c, h1, h2, h3, h4⟩ := hm.box i cs t hi
    refine ⟨b, c, h1, h2, VRs.mono hle h3, fun o => (hM2n b o fun j cs' t' hj hoj hφ => ?_).trans (h4 o)⟩
    have := hm.inj i j b (.inl ⟨cs, t, hi, h1⟩) (.inl ⟨cs', t', hoj, hφ⟩)
    subst this
    exact hs hj
  · intro i n e size hi
    obtain ⟨hs, hi⟩ := hobj i _ hi
    obtain ⟨A, cap, h1, h2, h3, h4⟩ := hm.row i n e size hi
    refine ⟨A, cap, h1, h2, h3, fun hn => ?_⟩
    obtain ⟨b, c, h5, h6, h7, h8⟩ := h4 hn
    refine ⟨b, c, h5, h6, h7, fun o hoo => (hM2n b o fun j cs' t' hj hoj hφ => ?_).trans (h8 o hoo)⟩
    subst h5
    have := hm.inj i j b (.inr (.inl ⟨n, e, size, cap, hi, h1, hn⟩)) (.inl ⟨cs', t', hoj, hφ⟩)
    subst this
    exact hs hj
  · obtain ⟨b', c, hφ', hh, hvr', _⟩ := hm.box i cs t hoi
    rw [hφ] at hφ'; cases hφ'
    refine At.of_get fun j u hu => ?_
    obtain ⟨x, hx, hxr⟩ := hvr'.get hu
    have hjl : j < cs.length := (List.getElem?_eq_some_iff.1 hu).1
    rw [List.getElem?_take, if_pos hjl, Array.getElem?_toList] at hx
    refine ⟨x, ?_, VR.pureM hM2 (pures_get (clean_pures hcl) hu) hxr⟩
    rw [Nat.zero_add]
    show (if Q b j then _ else _) = _
    rw [if_pos ⟨i, cs, t, hi, hoi, hφ, hjl⟩, cell_of_row w b j c t (0, 0) hh]
    exact hx
/-- A call that only computes may be handed boxes: they are not written any more. -/
theorem Fn.freeze {P : Program} {G : Ground} {f : FuncId} {vs args : List V} {r : V} (h : Fn P G f vs r) {m : Mm} (S : Nat → Bool) (hS : ∀ i, S i = true → ∃ cs t, m.obj i = some (.box cs t) ∧ V.clean cs = true)
    (hv : V.viewsS S m args = some vs) : SFn P G f args m fun r' m' => r' = r ∧ m' = m.freeze S := by
  intro E w cargs hG hm hargs
  obtain ⟨E', hs, hm', hsh, _⟩ := hm.freeze S hS
  refine (h (m.freeze S) E' w cargs (G.mono _ _ _ _ _ _ _ hm hs hG) hm' (VRs.viewS hsh hv hargs).1).mono ?_
  rintro e w' ⟨v, r', m', E2, he, ⟨rfl, rfl⟩, hs2, hm2, hr⟩
  exact ⟨v, _, _, E2, he, ⟨rfl, rfl⟩, hs.trans hs2, hm2, hr⟩
end Go.Proofs.YtdefefeifcdogaaGreat
namespace Go.Proofs.YtdefefeifcdogaaGreat
open Go.RowKit

mutual
/-- u is v, the boxes of S read. -/
inductive Vw (m : Mm) (S : Nat → Bool) : V → V → Prop where
  | lit (v : Value) : Vw m S (.lit v) (.lit v)
  | agg {cs us : List V} : Vws m S cs us → Vw m S (.agg cs) (.agg us)
  | tup {cs us : List V} : Vws m S cs us → Vw m S (.tup cs) (.tup us)
  | sl (n : Nat) (xs : List V) (k : Tok) : Vw m S (.sl n xs k) (.sl n xs .no)
  | ptr {i off : Nat} {cs us : List V} {t : TypeId} : S i = true → m.obj i = some (.box cs t) → Vws m S cs us → us.all V.one = true → Vw m S (.ptr i off) (.ept us off)
  | bsl {i off n cap : Nat} {cs us : List V} {t : TypeId} : S i = true → m.obj i = some (.box cs t) → Vws m S cs us → us.all V.one = true → Vw m S (.bsl i off n cap) (.sl n (us.drop off) .no)
  | gsl {i n size : Nat} {cs us : List V} {t : TypeId} : S i = true → m.obj i = some (.box cs t) → Vws m S cs us → us.all V.one = true → Vw m S (.gsl i n size) (.sl n us .no)
  | ept (xs : List V) (o : Nat) : Vw m S (.ept xs o) (.ept xs o)
  | fn {f : FuncId} {cs us : List V} : Vws m S cs us → Vw m S (.fn f cs) (.fn f us)
inductive Vws (m : Mm) (S : Nat → Bool) : List V → List V → Prop where
  | nil : Vws m S [] []
  | cons {v u : V} {vs us : List V} : Vw m S v u → Vws m S vs us → Vws m S (v :: vs) (u :: us)
end

/-- A box of S that can be read. -/
def Vable (m : Mm) (S : Nat → Bool) (i : Nat) (cs : List V) : Prop := S i = true ∧ ∃ t us, m.obj i = some (.box cs t) ∧ Vws m S cs us ∧ us.all V.one = true

theorem Vws.length {m : Mm} {S : Nat → Bool} : ∀ {vs us : List V}, Vws m S vs us → us.length = vs.length
  | [], _, h => by cases h; rfl
  | _ :: vs, _, h => by cases h with | cons h1 h2 => simp [Vws.length h2]

/-- Boxes of S become cells that stand for good, az far az they can be read; they are no longer written. -/
theorem MemR.cut {E : Env} {m : Mm} {w : World} (hm : MemR E m w) (S : Nat → Bool) :
    ∃ E', Step NoX E m w E' (m.freeze S) w ∧ MemR E' (m.freeze S) w ∧ (∀ v u c, Vw m S v u → VR E v c → VR E' u c ∧ u.pure = true) ∧ (∀ vs us cs, Vws m S vs us → VRs E vs cs → VRs E' us cs ∧ V.pures us = true) := by
  let Q : Nat → Nat → Prop := fun b o => ∃ i cs, Vable m S i cs ∧ E.φ i = some b ∧ o < cs.length
  haveI hdec : ∀ b o, Decidable (Q b o) := fun _ _ => Classical.propDecidable _
  let M2 : Nat → Nat → Option Value := fun b o => if Q b o then w.cell? ⟨b, o, none⟩ else E.M b o
  let E2 : Env := ⟨M2, E.φ, E.loc⟩
  have hM2 : ∀ b o v, E.M b o = some v → M2 b o = some v := fun b o v hM => by
    show (if Q b o then _ else _) = _
    rw [if_neg]
    · exact hM
    · rintro ⟨i, cs, ⟨_, t, us, hi, _⟩, hφ, _⟩
      obtain ⟨b', c, hφ', _, _, hn⟩ := hm.box i cs t hi
      rw [hφ] at hφ'; cases hφ'
      rw [hn o] at hM; cases hM
  have hle : E.Le E2 := ⟨hM2, fun _ _ x => x, fun _ _ _ x => x⟩
  have hM2n : ∀ b o, (∀ i cs t, S i = true → m.obj i = some (.box cs t) → E.φ i ≠ some b) → M2 b o = E.M b o := fun b o hb => by
    show (if Q b o then _ else _) = _
    rw [if_neg]
    rintro ⟨i, cs, ⟨hs, t, us, hi, _⟩, hφ, _⟩
    exact hb i cs t hs hi hφ
  have hobj : ∀ i o, (m.freeze S).obj i = some o → S i ≠ true ∧ m.obj i = some o := fun i o h => by
    change (if S i = true then none else m.obj i) = some o at h
    by_cases hs : S i = true
    · rw [if_pos hs] at h; cases h
    · rw [if_neg hs] at h; exact ⟨hs, h⟩
  have hB : ∀ i b, BlkOf E2 (m.freeze S) i b → BlkOf E m i b := by
    rintro i b (⟨cs, t, h1, h2⟩ | ⟨n, e, size, cap, h1, h2, h3⟩ | ⟨x, h1, h2⟩)
    · exact .inl ⟨cs, t, (hobj i _ h1).2, h2⟩
    · exact .inr (.inl ⟨n, e, size, cap, (hobj i _ h1).2, h2, h3⟩)
    · exact .inr (.inr ⟨x, (hobj i _ h1).2, h2⟩)
  -- what is read of a box
  have hbox : ∀ i cs t us b, S i = true → m.obj i = some (.box cs t) → Vws m S cs us → us.all V.one = true → E.φ i = some b → (∀ cc, VRs E cs cc → VRs E2 us cc ∧ V.pures us = true) → At E2 b 0 us ∧ V.clean us = true := by
    intro i cs t us b hs hi hv h1 hφ ih
    obtain ⟨b', c, hφ', hh, hvr, _⟩ := hm.box i cs t hi
    rw [hφ] at hφ'; cases hφ'
    obtain ⟨h2, h3⟩ := ih _ hvr
    refine ⟨At.of_get fun j u hu => ?_, by rw [V.clean, h3, h1]; rfl⟩
    obtain ⟨x, hx, hxr⟩ := h2.get hu
    have hjl : j < cs.length := by have := (List.getElem?_eq_some_iff.1 hu).1; rw [hv.length] at this; exact this
    rw [List.getElem?_take, if_pos hjl, Array.getElem?_toList] at hx
    refine ⟨x, ?_, hxr⟩
    rw [Nat.zero_add]
    show (if Q b j then _ else _) = _
    rw [if_pos ⟨i, cs, ⟨hs, t, us, hi, hv, h1⟩, hφ, hjl⟩, cell_of_row w b j c t (0, 0) hh]
    exact hx
  let A : (v u : V) → Vw m S v u → Prop := fun v u _ => ∀ c, VR E v c → VR E2 u c ∧ u.pure = true
  let B : (vs us : List V) → Vws m S vs us → Prop := fun vs us _ => ∀ cs, VRs E vs cs → VRs E2 us cs ∧ V.pures us = true
  have m1 : ∀ v, A _ _ (Vw.lit (m := m) (S := S) v) := fun v c h => by rw [VR] at h ⊢; exact ⟨h, by rw [V.pure]⟩
  have m2 : ∀ {cs us : List V} (h : Vws m S cs us), B cs us h → A _ _ (Vw.agg h) := fun h ih c hv => by
    rw [VR] at hv; obtain ⟨a, e, h1⟩ := hv
    have h2 := ih _ h1
    exact ⟨by rw [VR]; exact ⟨a, e, h2.1⟩, by rw [V.pure]; exact h2.2⟩
  have m3 : ∀ {cs us : List V} (h : Vws m S cs us), B cs us h → A _ _ (Vw.tup h) := fun h ih c hv => by
    rw [VR] at hv; obtain ⟨a, e, h1⟩ := hv
    have h2 := ih _ h1
    exact ⟨by rw [VR]; exact ⟨a, e, h2.1⟩, by rw [V.pure]; exact h2.2⟩
  have m4 : ∀ n xs k, A _ _ (Vw.sl (m := m) (S := S) n xs k) := fun n xs k c h => by
    rw [VR] at h
    obtain ⟨A, cap, e, hn, _, hx⟩ := h
    have h1 : VR E (.sl n xs .no) c := by rw [VR]; exact ⟨A, cap, e, hn, trivial, hx⟩
    have hp : V.pure (.sl n xs .no) = true := by rw [V.pure]; intro t h; cases h
    exact ⟨VR.pureM hM2 hp h1, hp⟩
  have m5 : ∀ {i off : Nat} {cs us : List V} {t : TypeId} (hs : S i = true) (ho : m.obj i = some (.box cs t)) (h : Vws m S cs us) (h1 : us.all V.one = true), B cs us h → A _ _ (Vw.ptr (off := off) hs ho h h1) := by
    intro i off cs us t hs ho h h1 ih c hv
    rw [VR] at hv
    obtain ⟨b, hφ, e⟩ := hv
    obtain ⟨h2, h3⟩ := hbox i cs t us b hs ho h h1 hφ ih
    exact ⟨by rw [VR]; exact ⟨b, 0, by rw [Nat.zero_add]; exact e, h3, h2⟩, by rw [V.pure]⟩
  have m6 : ∀ {i off n cap : Nat} {cs us : List V} {t : TypeId} (hs : S i = true) (ho : m.obj i = some (.box cs t)) (h : Vws m S cs us) (h1 : us.all V.one = true), B cs us h → A _ _ (Vw.bsl (off := off) (n := n) (cap := cap) hs ho h h1) := by
    intro i off n cap cs us t hs ho h h1 ih c hv
    rw [VR] at hv
    obtain ⟨b, hφ, cap', e, hn, hc⟩ := hv
    obtain ⟨h2, h3⟩ := hbox i cs t us b hs ho h h1 hφ ih
    have hat := h2.drop off us.length
    have hcd := clean_slice h3 off us.length
    rw [Nat.zero_add, List.take_of_length_le (by rw [List.length_drop]; omega)] at hat
    rw [List.take_of_length_le (by rw [List.length_drop]; omega)] at hcd
    exact ⟨by rw [VR]; exact ⟨_, cap', e, Nat.le_trans hn hc, trivial, hcd, .inr ⟨b, off, rfl, hat⟩⟩, by rw [V.pure]; intro t h; cases h⟩
  have m6b : ∀ {i n size : Nat} {cs us : List V} {t : TypeId} (hs : S i = true) (ho : m.obj i = some (.box cs t)) (h : Vws m S cs us) (h1 : us.all V.one = true), B cs us h → A _ _ (Vw.gsl (n := n) (size := size) hs ho h h1) := by
    intro i n size cs us t hs ho h h1 ih c hv
    rw [VR] at hv
    obtain ⟨b, hφ, cap', e, hn, _⟩ := hv
    obtain ⟨h2, h3⟩ := hbox i cs t us b hs ho h h1 hφ ih
    exact ⟨by rw [VR]; exact ⟨_, cap', e, hn, trivial, h3, .inr ⟨b, 0, rfl, h2⟩⟩, by rw [V.pure]; intro t h; cases h⟩
  have m7 : ∀ xs o, A _ _ (Vw.ept (m := m) (S := S) xs o) := fun xs o c h => by
    have hp : V.pure (.ept xs o) = true := by rw [V.pure]
    exact ⟨VR.pureM hM2 hp h, hp⟩
  have m8 : ∀ {f : FuncId} {cs us : List V} (h : Vws m S cs us), B cs us h → A _ _ (Vw.fn (f := f) h) := fun h ih c hv => by
    rw [VR] at hv; obtain ⟨a, e, h1⟩ := hv
    have h2 := ih _ h1
    exact ⟨by rw [VR]; exact ⟨a, e, h2.1⟩, by rw [V.pure]; exact h2.2⟩
  have m9 : B [] [] (Vws.nil (m := m) (S := S)) := fun cs h => by rw [VRs] at h ⊢; exact ⟨h, by rw [V.pures]⟩
  have m10 : ∀ {v u : V} {vs us : List V} (h : Vw m S v u) (h' : Vws m S vs us), A v u h → B vs us h' → B _ _ (Vws.cons h h') := fun h h' i1 i2 cs hv => by
    rw [VRs] at hv
    obtain ⟨c, cs, e, h1, h2⟩ := hv
    have h3 := i1 _ h1
    have h4 := i2 _ h2
    exact ⟨by rw [VRs]; exact ⟨c, cs, e, h3.1, h4.1⟩, by rw [V.pures, h3.2, h4.2]; rfl⟩
  refine ⟨E2, ⟨hle, Nat.le_refl _, fun _ _ _ => rfl, fun i _ _ h => ⟨fun _ => rfl, ?_⟩, rfl, rfl, rfl, Nat.le_refl _, Nat.le_refl _, fun _ _ _ => rfl, fun i b h _ => ⟨i, hB i b h⟩, ?_⟩, ⟨?_, ?_, ?_, ?_, fun i x hi => by
      obtain ⟨_, hi⟩ := hobj i _ hi
      obtain ⟨b, o, h1, h2, h3⟩ := hm.oth i x hi
      exact ⟨b, o, h1, h2, HobR.mono hle h3⟩, fun i j b hi hj => hm.inj i j b (hB i b hi) (hB j b hj), hm.sizK (fun i cs t hi => ⟨(hobj i _ hi).2, rfl, fun _ => rfl⟩) fun _ _ _ _ _ _ _ => rfl⟩,
    fun v u c h => Vw.rec (motive_1 := A) (motive_2 := B) m1 m2 m3 m4 m5 m6 m6b m7 m8 m9 m10 h c, fun vs us cs h => Vws.rec (motive_1 := A) (motive_2 := B) m1 m2 m3 m4 m5 m6 m6b m7 m8 m9 m10 h cs⟩
  · show (if S i = true then none else m.obj i) = none
    split
    · rfl
    · exact h
  · intro b o v hM
    by_cases hQ : Q b o
    · obtain ⟨i, cs, ⟨_, t, us, hi, _⟩, hφ, _⟩ := hQ; exact .inr (.inr ⟨i, .inl ⟨cs, t, hi, hφ⟩⟩)
    · change (if Q b o then _ else _) = _ at hM; rw [if_neg hQ] at hM; exact .inl hM
  · intro b o x hx
    change (if Q b o then _ else _) = _ at hx
    by_cases hQ : Q b o
    · rw [if_pos hQ] at hx; exact hx
    · rw [if_neg hQ] at hx; exact hm.stable b o x hx
  · intro i hi
    refine ⟨(hm.fresh i hi).1, (hm.fresh i hi).2.1, ?_⟩
    show (if S i = true then none else m.obj i) = none
    split
    · rfl
    · exact (hm.fresh i hi).2.2
  · intro i cs t hi
    obtain ⟨hs, hi⟩ := hobj i _ hi
    obtain ⟨b, c, h1, h2, h3, h4⟩ := hm.box i cs t hi
    refine ⟨b, c, h1, h2, VRs.mono hle h3, fun o => (hM2n b o fun j cs' t' hj hoj hφ => ?_).trans (h4 o)⟩
    have := hm.inj i j b (.inl ⟨cs, t, hi, h1⟩) (.inl ⟨cs', t', hoj, hφ⟩)
    subst this
    exact hs hj
  · intro i n e size hi
    obtain ⟨hs, hi⟩ := hobj i _ hi
    obtain ⟨A, cap, h1, h2, h3, h4⟩ := hm.row i n e size hi
    refine ⟨A, cap, h1, h2, h3, fun hn => ?_⟩
    obtain ⟨b, c, h5, h6, h7, h8⟩ := h4 hn
    refine ⟨b, c, h5, h6, h7, fun o hoo => (hM2n b o fun j cs' t' hj hoj hφ => ?_).trans (h8 o hoo)⟩
    subst h5
    have := hm.inj i j b (.inr (.inl ⟨n, e, size, cap, hi, h1, hn⟩)) (.inl ⟨cs', t', hoj, hφ⟩)
    subst this
    exact hs hj

/-- No boxes, no rows. -/
def M0 : Mm := ⟨fun _ => none, 0⟩
/-- Nothing but what stands. -/
def Env.bare (E : Env) : Env := ⟨E.M, fun _ => none, fun _ _ => none⟩
theorem M0_blk {E : Env} {i b : Nat} : ¬ BlkOf E M0 i b := by
  rintro (⟨_, _, h, _⟩ | ⟨_, _, _, _, h, _⟩ | ⟨_, h, _⟩) <;> cases h
theorem MemR.hide {E : Env} {m : Mm} {w : World} (hm : MemR E m w) : MemR E.bare M0 w :=
  ⟨hm.stable, fun _ _ => ⟨rfl, fun _ => rfl, rfl⟩, fun _ _ _ h => (by cases h), fun _ _ _ _ h => (by cases h), fun _ _ h => (by cases h), fun _ _ _ h => absurd h M0_blk, fun _ _ _ _ _ _ _ _ h => (by cases h)⟩

/-- From a world to a later one in which all blocks are az they were: more stands for good, in new blocks. -/
theorem MemR.later {E E1 : Env} {m m1 : Mm} {w w' : World} (hm : MemR E m w) (hs : Step NoX E.bare M0 w E1 m1 w') (hm1 : MemR E1 m1 w') :
    Step NoX E m w ⟨E1.M, E.φ, E.loc⟩ m w' ∧ MemR ⟨E1.M, E.φ, E.loc⟩ m w' := by
  have hk : ∀ b, b < w.heap.size → w'.heap[b]? = w.heap[b]? := fun b hb => hs.kept b hb fun i => M0_blk
  have hM : ∀ b o, b < w.heap.size → E1.M b o = E.M b o := fun b o hb => by
    cases h1 : E1.M b o with
    | none =>
      cases h2 : E.M b o with
      | none => rfl
      | some v => have := hs.le.M b o v h2; rw [h1] at this; cases this
    | some v =>
      rcases hs.newM b o v h1 with h2 | h2 | ⟨i, hi⟩
      · exact h2.symm
      · omega
      · exact absurd hi M0_blk
  have le : E.Le ⟨E1.M, E.φ, E.loc⟩ := ⟨hs.le.M, fun _ _ h => h, fun _ _ _ h => h⟩
  refine ⟨⟨le, Nat.le_refl _, fun _ _ _ => rfl, fun _ _ _ h => ⟨fun _ => rfl, h⟩, hs.os, hs.tape, hs.output, hs.drawn, hs.size, fun b hb _ => hk b hb, fun i b h _ => ⟨i, h⟩, fun b o v hv => ?_⟩, ⟨hm1.stable, hm.fresh, ?_, ?_, fun i x hi => by
      obtain ⟨b, o, h1, h2, h3⟩ := hm.oth i x hi
      exact ⟨b, o, h1, (hk b (heap_lt h2)).trans h2, HobR.mono le h3⟩, fun i j b hi hj => hm.inj i j b hi hj, hm.sizK (fun i cs t hi => ⟨hi, rfl, fun _ => rfl⟩) fun _ _ _ b _ _ hb => hk b hb⟩⟩
  · rcases hs.newM b o v hv with h2 | h2 | ⟨i, hi⟩
    · exact .inl h2
    · exact .inr (.inl h2)
    · exact absurd hi M0_blk
  · intro i cs t hi
    obtain ⟨b, c, h1, h2, h3, h4⟩ := hm.box i cs t hi
    have hlt := heap_lt h2
    exact ⟨b, c, h1, (hk b hlt).trans h2, VRs.mono le h3, fun o => (hM b o hlt).trans (h4 o)⟩
  · intro i n e size hi
    obtain ⟨A, cap, h1, h2, h3, h4⟩ := hm.row i n e size hi
    refine ⟨A, cap, h1, h2, h3, fun hn => ?_⟩
    obtain ⟨b, c, h5, h6, h7, h8⟩ := h4 hn
    have hlt := heap_lt h6
    exact ⟨b, c, h5, (hk b hlt).trans h6, h7, fun o ho => (hM b o hlt).trans (h8 o ho)⟩

def allS : Nat → Bool := fun _ => true
/-- A CALL THAT ONLY COMPUTES, from an empty memory: its result is read out of its own boxes. -/
theorem Fn.of_empty {P : Program} {G : Ground} {f : FuncId} {args : List V} {r : V} (hp : V.pures args = true) (h : SFn P G f args M0 fun r' m' => Vw m' allS r' r) : Fn P G f args r := by
  intro m E w cargs hG hm hv
  refine (h E.bare w cargs hG hm.hide (VRs.pureM (E := E) (E' := E.bare) (fun _ _ _ x => x) hp hv)).mono ?_
  rintro e w' ⟨v, r', m', E', he, hvw, hs, hm', hr⟩
  obtain ⟨E2, hs2, hm2, hA, _⟩ := hm'.cut allS
  obtain ⟨h1, h2⟩ := hA _ _ _ hvw hr
  obtain ⟨h3, h4⟩ := hm.later (hs.trans hs2) hm2
  exact ⟨v, r, m, _, he, ⟨rfl, rfl⟩, h3, h4, VR.pureM (E := E2) (E' := ⟨E2.M, E.φ, E.loc⟩) (fun _ _ _ x => x) h2 h1⟩

/-- What a function comes to that only computes: its boxes read. -/
def FinV (rs : List VRes) (r : V) (e : VX) (s' : St) : Prop := (e = .nrm ∨ e = .ret) ∧ ∃ r', resV s' rs = some r' ∧ Vw s'.m allS r' r
theorem finV_ret {rs : List VRes} {r r' : V} {s' : St} (h1 : resV s' rs = some r') (h2 : Vw s'.m allS r' r) : FinV rs r .ret s' := ⟨.inr rfl, r', h1, h2⟩
theorem Fn.of_vx0 {P : Program} {bx : Nat → Bool} {G : Ground} {f : FuncId} {nt : Nat} {c : VC} {rs : List VRes} (hc : Comp P bx G.tab f nt c rs) {args : List V} {r : V} (hn : args.length ≤ nt) (hp : V.pures args = true)
    (h : c.vx P G (FinV rs r) ⟨initT args, M0⟩) : Fn P G f args r :=
  Fn.of_empty hp (SFn.of_vx hc hn (Post := fun r' m' => Vw m' allS r' r) h)

/-- A call that only computes may be handed boxes: they are not written any more. -/
theorem Fn.cut {P : Program} {G : Ground} {f : FuncId} {vs us : List V} {r : V} (h : Fn P G f us r) {m : Mm} (S : Nat → Bool) (hv : Vws m S vs us) : SFn P G f vs m fun r' m' => r' = r ∧ m' = m.freeze S := by
  intro E w cargs hG hm hargs
  obtain ⟨E', hs, hm', _, hB⟩ := hm.cut S
  refine (h (m.freeze S) E' w cargs (G.mono _ _ _ _ _ _ _ hm hs hG) hm' (hB _ _ _ hv hargs).1).mono ?_
  rintro e w' ⟨v, r', m', E2, he, ⟨rfl, rfl⟩, hs2, hm2, hr⟩
  exact ⟨v, _, _, E2, he, ⟨rfl, rfl⟩, hs.trans hs2, hm2, hr⟩

mutual
/-- Nothing but literals: it says nothing of memory. -/
def V.dry : V → Bool
  | .lit _ => true
  | .agg cs => V.drys cs
  | .tup cs => V.drys cs
  | _ => false
def V.drys : List V → Bool
  | [] => true
  | v :: l => V.dry v && V.drys l
end
mutual
theorem VR.dry {E E' : Env} : ∀ {v : V} {c : Value}, v.dry = true → VR E v c → VR E' v c
  | .lit _, _, _, h => by rw [VR] at h ⊢; exact h
  | .agg _, _, hd, h => by rw [VR] at h ⊢; rw [V.dry] at hd; obtain ⟨a, e, h1⟩ := h; exact ⟨a, e, VRs.dry hd h1⟩
  | .tup _, _, hd, h => by rw [VR] at h ⊢; rw [V.dry] at hd; obtain ⟨a, e, h1⟩ := h; exact ⟨a, e, VRs.dry hd h1⟩
  | .sl _ _ _, _, hd, _ => by cases hd
  | .ptr _ _, _, hd, _ => by cases hd
  | .bsl _ _ _ _, _, hd, _ => by cases hd
  | .gsl _ _ _, _, hd, _ => by cases hd
  | .ept _ _, _, hd, _ => by cases hd
  | .fn _ _, _, hd, _ => by cases hd
  | .mp _, _, hd, _ => by cases hd
  | .yld _, _, hd, _ => by cases hd
theorem VRs.dry {E E' : Env} : ∀ {v : List V} {c : List Value}, V.drys v = true → VRs E v c → VRs E' v c
  | [], _, _, h => by rw [VRs] at h ⊢; exact h
  | _ :: _, _, hd, h => by
    rw [VRs] at h ⊢
    rw [V.drys, Bool.and_eq_true] at hd
    obtain ⟨c, cs, e, h1, h2⟩ := h
    exact ⟨c, cs, e, VR.dry hd.1 h1, VRs.dry hd.2 h2⟩
end
/-- BOXES ARE LENT to a call that only computes, where what it gives is made of literals: they are az they were, and may be written again. -/
theorem Fn.lend {P : Program} {G : Ground} {f : FuncId} {vs us : List V} {r : V} (h : Fn P G f us r) (hr : r.dry = true) {m : Mm} (S : Nat → Bool) (hv : Vws m S vs us) : SFn P G f vs m fun r' m' => r' = r ∧ m' = m := by
  intro E w cargs hG hm hargs
  obtain ⟨E', hs, hm', _, hB⟩ := hm.cut S
  obtain ⟨h1, h2⟩ := hB _ _ _ hv hargs
  refine (h M0 E'.bare w cargs (show G.ok E'.M w from G.mono _ E E' _ _ _ _ hm hs hG) hm'.hide (VRs.pureM (E := E') (E' := E'.bare) (fun _ _ _ x => x) h2 h1)).mono ?_
  rintro e w' ⟨v, r', m', E2, he, ⟨rfl, rfl⟩, hs2, hm2, hr2⟩
  have hk : ∀ b, b < w.heap.size → w'.heap[b]? = w.heap[b]? := fun b hb => hs2.kept b hb fun i => M0_blk
  exact ⟨v, _, m, E, he, ⟨rfl, rfl⟩, ⟨.refl E, Nat.le_refl _, fun _ _ _ => rfl, fun _ _ _ h => ⟨fun _ => rfl, h⟩, hs2.os, hs2.tape, hs2.output, hs2.drawn, hs2.size, fun b hb _ => hk b hb, fun i b h _ => ⟨i, h⟩, fun _ _ _ h => .inl h⟩, hm.grow hk, hr2.dry hr⟩

/-! ### Rules of a run -/
theorem M0_next : M0.next = 0 := rfl
theorem freeze_obj (m : Mm) (S : Nat → Bool) (i : Nat) : (m.freeze S).obj i = if S i = true then none else m.obj i := rfl
theorem freeze_next (m : Mm) (S : Nat → Bool) : (m.freeze S).next = m.next := rfl
section
variable {P : Program} {G : Ground}
end
section
variable {P : Program} {G : Ground}
/-! The rules of a run, az equations. -/
theorem vx_skip (Q : VX → St → Prop) (s : St) : VC.vx P G .skip Q s = Q .nrm s := propext ⟨fun h => h, fun h => h⟩
theorem vx_ret (Q : VX → St → Prop) (s : St) : VC.vx P G .ret Q s = Q .ret s := propext ⟨fun h => h, fun h => h⟩
theorem vx_exit (i : Nat) (Q : VX → St → Prop) (s : St) : VC.vx P G (.exit i) Q s = Q (.exit i) s := propext ⟨fun h => h, fun h => h⟩
theorem vx_seq (a b : VC) (Q : VX → St → Prop) (s : St) : VC.vx P G (.seq a b) Q s = VC.vx P G a (VX.then (VC.vx P G b Q) Q) s := propext ⟨fun h => h, fun h => h⟩
theorem vx_block (i : Nat) (b : VC) (Q : VX → St → Prop) (s : St) : VC.vx P G (.block i b) Q s = VC.vx P G b (VX.inBlock i Q) s := propext ⟨fun h => h, fun h => h⟩
theorem vx_scope (b : VC) (Q : VX → St → Prop) (s : St) : VC.vx P G (.scope b) Q s = VC.vx P G b Q s := propext ⟨fun h => h, fun h => h⟩
theorem vx_cond (c : Opd) (a b : VC) (Q : VX → St → Prop) (s : St) : VC.vx P G (.cond c a b) Q s = condR P G (s.ev c) a b Q s := propext ⟨fun h => h, fun h => h⟩
theorem vx_condT (a b : VC) (Q : VX → St → Prop) (s : St) : condR P G (.lit (.bool true)) a b Q s = VC.vx P G a Q s := propext ⟨fun h => h, fun h => h⟩
theorem vx_condF (a b : VC) (Q : VX → St → Prop) (s : St) : condR P G (.lit (.bool false)) a b Q s = VC.vx P G b Q s := propext ⟨fun h => h, fun h => h⟩
end
section
variable {P : Program} {G : Ground}
end
/-- A slice that may grow: it has no room, or a row of this call's own, which is in use. -/
def Apb (m : Mm) (k : Tok) (n : Nat) (e : TypeId) (size : Nat) : Prop := k = .exact ∨ ∃ t, k = .own t ∧ t < m.next ∧ m.obj t = some (.row n e size)
theorem Apb.mono {m m' : Mm} {k : Tok} {n : Nat} {e : TypeId} {size : Nat} (h : Apb m k n e size) (ho : ∀ t, t < m.next → m.obj t = some (.row n e size) → m'.obj t = m.obj t) (hn : m.next ≤ m'.next) : Apb m' k n e size := by
  rcases h with h | ⟨t, h1, h2, h3⟩
  · exact .inl h
  · exact .inr ⟨t, h1, Nat.lt_of_lt_of_le h2 hn, (ho t h2 h3).trans h3⟩
section
variable {P : Program} {G : Ground}
end
end Go.Proofs.YtdefefeifcdogaaGreat
set_option linter.unusedSimpArgs false
set_option linter.unusedVariables false
namespace Go.Proofs.YtdefefeifcdogaaGreat
open Go.RowKit
noncomputable section

/-! ### Stores by the bits of a number -/
inductive Tr (α : Type) where
  | e
  | n (v : Option α) (l r : Tr α)
def Tr.get {α : Type} (t : Tr α) : Nat → Option α :=
  Tr.rec (motive := fun _ => Nat → Option α) (fun _ => none) (fun v _ _ gl gr p => bif Nat.beq p 1 then v else bif Nat.beq (Nat.mod p 2) 0 then gl (Nat.div p 2) else gr (Nat.div p 2)) t
def Tr.set {α : Type} (k : Nat) : Tr α → Nat → Option α → Tr α :=
  Nat.rec (motive := fun _ => Tr α → Nat → Option α → Tr α) (fun t _ _ => t) (fun _ ih t p x =>
    Tr.casesOn (motive := fun _ => Tr α) t
      (bif Nat.beq p 1 then .n x .e .e else bif Nat.beq (Nat.mod p 2) 0 then .n none (ih .e (Nat.div p 2) x) .e else .n none .e (ih .e (Nat.div p 2) x))
      (fun v l r => bif Nat.beq p 1 then .n x l r else bif Nat.beq (Nat.mod p 2) 0 then .n v (ih l (Nat.div p 2) x) r else .n v l (ih r (Nat.div p 2) x))) k
theorem Tr.get_n0 {α : Type} (v : Option α) (l r : Tr α) (p : Nat) : (Tr.n v l r).get p = bif Nat.beq p 1 then v else bif Nat.beq (p % 2) 0 then l.get (p / 2) else r.get (p / 2) := rfl
theorem Tr.set_n0 {α : Type} (k : Nat) (v : Option α) (l r : Tr α) (p : Nat) (x : Option α) : Tr.set (k + 1) (.n v l r) p x = bif Nat.beq p 1 then .n x l r else bif Nat.beq (p % 2) 0 then .n v (Tr.set k l (p / 2) x) r else .n v l (Tr.set k r (p / 2) x) := rfl
theorem Tr.get_e {α : Type} (p : Nat) : (Tr.e : Tr α).get p = none := rfl
theorem Tr.get_n {α : Type} (v : Option α) (l r : Tr α) (p : Nat) : (Tr.n v l r).get p = if p = 1 then v else if p % 2 = 0 then l.get (p / 2) else r.get (p / 2) := by
  rw [Tr.get_n0]
  by_cases h : p = 1
  · subst h; rfl
  · rw [if_neg h, show Nat.beq p 1 = false from by rw [← Bool.not_eq_true]; exact fun e => h (Nat.eq_of_beq_eq_true e), cond_false]
    by_cases h2 : p % 2 = 0
    · rw [if_pos h2, h2]; rfl
    · rw [if_neg h2, show Nat.beq (p % 2) 0 = false from by rw [← Bool.not_eq_true]; exact fun e => h2 (Nat.eq_of_beq_eq_true e), cond_false]
theorem Tr.set_succ {α : Type} (k : Nat) (v : Option α) (l r : Tr α) (p : Nat) (x : Option α) : Tr.set (k + 1) (.n v l r) p x = if p = 1 then .n x l r else if p % 2 = 0 then .n v (Tr.set k l (p / 2) x) r else .n v l (Tr.set k r (p / 2) x) := by
  rw [Tr.set_n0]
  by_cases h : p = 1
  · subst h; rfl
  · rw [if_neg h, show Nat.beq p 1 = false from by rw [← Bool.not_eq_true]; exact fun e => h (Nat.eq_of_beq_eq_true e), cond_false]
    by_cases h2 : p % 2 = 0
    · rw [if_pos h2, h2]; rfl
    · rw [if_neg h2, show Nat.beq (p % 2) 0 = false from by rw [← Bool.not_eq_true]; exact fun e => h2 (Nat.eq_of_beq_eq_true e), cond_false]
theorem Tr.set_e {α : Type} (k : Nat) (p : Nat) (x : Option α) : Tr.set (k + 1) .e p x = Tr.set (k + 1) (.n none .e .e) p x := by
  rfl
theorem Tr.get_set {α : Type} : ∀ (k : Nat) (t : Tr α) (p : Nat) (x : Option α) (q : Nat), 0 < p → p < 2 ^ k → 0 < q → (Tr.set k t p x).get q = if q = p then x else t.get q
  | 0, t, p, x, q, h0, h1, h2 => by simp at h1; omega
  | k + 1, .e, p, x, q, h0, h1, h2 => by
    rw [Tr.set_e]
    have he : (Tr.n none .e .e : Tr α).get q = (Tr.e : Tr α).get q := by
      rw [Tr.get_n, Tr.get_e, Tr.get_e]
      by_cases h : q = 1
      · rw [if_pos h]
      · rw [if_neg h, ite_self]
    rw [← he]
    exact Tr.get_set.node k none .e .e p x q h0 h1 h2 (fun p x q a b c => Tr.get_set k .e p x q a b c) (fun p x q a b c => Tr.get_set k .e p x q a b c)
  | k + 1, .n v l r, p, x, q, h0, h1, h2 => Tr.get_set.node k v l r p x q h0 h1 h2 (fun p x q a b c => Tr.get_set k l p x q a b c) (fun p x q a b c => Tr.get_set k r p x q a b c)
where
  node {α : Type} (k : Nat) (v : Option α) (l r : Tr α) (p : Nat) (x : Option α) (q : Nat) (h0 : 0 < p) (h1 : p < 2 ^ (k + 1)) (h2 : 0 < q)
      (hl : ∀ (p : Nat) (x : Option α) (q : Nat), 0 < p → p < 2 ^ k → 0 < q → (Tr.set k l p x).get q = if q = p then x else l.get q)
      (hr : ∀ (p : Nat) (x : Option α) (q : Nat), 0 < p → p < 2 ^ k → 0 < q → (Tr.set k r p x).get q = if q = p then x else r.get q) :
      (Tr.set (k + 1) (.n v l r) p x).get q = if q = p then x else (Tr.n v l r).get q := by
    rw [Nat.pow_succ] at h1
    rw [Tr.set_succ]
    by_cases hp : p = 1
    · subst hp
      rw [if_pos rfl, Tr.get_n, Tr.get_n]
      split
      · rfl
      · rfl
    · rw [if_neg hp]
      by_cases he : p % 2 = 0
      · rw [if_pos he, Tr.get_n, Tr.get_n]
        by_cases hq : q = 1
        · rw [if_pos hq, if_pos hq, if_neg (by omega)]
        · rw [if_neg hq, if_neg hq]
          by_cases hqe : q % 2 = 0
          · rw [if_pos hqe, if_pos hqe, hl _ _ _ (by omega) (by omega) (by omega)]
            by_cases hpq : q = p
            · rw [if_pos hpq, if_pos (by omega)]
            · rw [if_neg hpq, if_neg (by omega)]
          · rw [if_neg hqe, if_neg hqe, if_neg (by omega)]
      · rw [if_neg he, Tr.get_n, Tr.get_n]
        by_cases hq : q = 1
        · rw [if_pos hq, if_pos hq, if_neg (by omega)]
        · rw [if_neg hq, if_neg hq]
          by_cases hqe : q % 2 = 0
          · rw [if_pos hqe, if_pos hqe, if_neg (by omega)]
          · rw [if_neg hqe, if_neg hqe, hr _ _ _ (by omega) (by omega) (by omega)]
            by_cases hpq : q = p
            · rw [if_pos hpq, if_pos (by omega)]
            · rw [if_neg hpq, if_neg (by omega)]

/-! ### The state of a run -/
structure ES where
  t : Tr V
  o : Tr AObj
  nx : Nat
def mmT (o : Tr AObj) (nx : Nat) : Mm := ⟨fun i => o.get (i + 1), nx⟩
def stT (t : Tr V) : Nat → V := fun i => (t.get (i + 1)).getD vund
def ES.st (s : ES) : St := ⟨stT s.t, mmT s.o s.nx⟩

/-- Numbers are worked out at once. -/
def now {β : Type} (v : V) (f : V → β) : β :=
  match v with
  | .lit (.int k n) => match n with
    | .ofNat m => (match m with | 0 => f (.lit (.int k (.ofNat 0))) | a + 1 => f (.lit (.int k (.ofNat (a + 1)))))
    | .negSucc m => (match m with | 0 => f (.lit (.int k (.negSucc 0))) | a + 1 => f (.lit (.int k (.negSucc (a + 1)))))
  | v => f v
theorem now_eq {β : Type} (v : V) (f : V → β) : now v f = f v := by
  unfold now
  split
  · split <;> split <;> rfl
  · rfl

def putE (t : Tr V) (d : Option Nat) (v : V) : Option (Tr V) :=
  match d with
  | none => some t
  | some n => bif Nat.ble n 4000 then some (now v fun v => Tr.set 12 t (n + 1) (some v)) else none
theorem putE_ok {t t' : Tr V} {d : Option Nat} {v : V} (h : putE t d v = some t') : stT t' = putT (stT t) d v := by
  unfold putE at h
  cases d with
  | none => cases h; rfl
  | some n =>
    simp only [now_eq] at h
    cases hb : Nat.ble n 4000 with
    | false => rw [hb] at h; cases h
    | true =>
      rw [hb] at h
      cases h
      have hn := Nat.le_of_ble_eq_true hb
      funext i
      unfold stT
      rw [putT_get, Tr.get_set _ _ _ _ _ (by omega) (by omega) (by omega)]
      by_cases hi : i = n
      · rw [if_pos hi, if_pos (by omega)]; rfl
      · rw [if_neg hi, if_neg (by omega)]

/-- Changes of the memory. -/
abbrev Upd := List (Nat × Option AObj)
def updM (m : Mm) : Upd → Mm
  | [] => m
  | (i, x) :: r => updM ⟨fun j => if j = i then x else m.obj j, m.next⟩ r
def updT (o : Tr AObj) : Upd → Option (Tr AObj)
  | [] => some o
  | (i, x) :: r => bif Nat.ble i 1000000 then updT (Tr.set 20 o (i + 1) x) r else none
theorem updT_ok : ∀ {us : Upd} {o o' : Tr AObj} (nx : Nat), updT o us = some o' → mmT o' nx = updM (mmT o nx) us
  | [], o, o', nx, h => by rw [updT] at h; cases h; rfl
  | (i, x) :: r, o, o', nx, h => by
    rw [updT] at h
    cases hb : Nat.ble i 1000000 with
    | false => rw [hb] at h; cases h
    | true =>
      rw [hb] at h
      have hn := Nat.le_of_ble_eq_true hb
      rw [updM, updT_ok nx h]
      congr 1
      unfold mmT
      simp only [Mm.mk.injEq, and_true]
      funext j
      rw [Tr.get_set _ _ _ _ _ (by omega) (by omega) (by omega)]
      by_cases hi : j = i
      · rw [if_pos hi, if_pos (by omega)]
      · rw [if_neg hi, if_neg (by omega)]
theorem updM_put (m : Mm) (i : Nat) (x : AObj) : updM m [(i, some x)] = m.put i x := rfl
/-! ### Operations -/
def evOp (id base : Nat) (md : Option (List Nat)) (op : VO) (vals : List V) (m : Mm) : Option (V × Upd) :=
  match op with
  | .alloc t z => some (.ptr id 0, [(id, some (.box z t))])
  | .box t => match vals with | [x] => some (.ptr id 0, [(id, some (.box x.cells t))]) | _ => none
  | .mk e size bytes z => match vals with
    | [.lit (.int _ l), .lit (.int _ c)] => if 0 ≤ l ∧ l ≤ c ∧ c * bytes ≤ 140737488355328 ∧ c ≤ 140737488355328 ∧ z.length = size then some (.bsl id 0 l.toNat c.toNat, [(id, some (.box (List.flatten (List.replicate c.toNat z)) e))]) else none
    | _ => none
  | .ld1 => match vals with
    | [.ept xs o] => (xs[o]?).map fun v => (v, [])
    | [.ptr i o] => if rdable md base i = true then (match m.obj i with | some (.box cs _) => (cs[o]?).map fun v => (v, []) | _ => none) else none
    | _ => none
  | .ldA n => match vals with
    | [.ept xs o] => if o + n ≤ xs.length then some (.agg ((xs.drop o).take n), []) else none
    | [.ptr i o] => if rdable md base i = true then (match m.obj i with | some (.box cs _) => if o + n ≤ cs.length then some (.agg ((cs.drop o).take n), []) else none | _ => none) else none
    | _ => none
  | .st n => match vals with
    | [.ptr i o, v] => if stOk md base i = true then (match m.obj i with
      | some (.box cs t) => if v.cells.length = n ∧ v.cells.all V.one = true ∧ o + n ≤ cs.length then some (vund, [(i, some (.box (splice cs o v.cells) t))]) else none
      | _ => none) else none
    | _ => none
  | .app e size bytes => match vals with
    | [.sl n xs k, .sl j ys _] => match k with
      | .exact => if xs.length = n * size ∧ ys.length = j * size ∧ (n + j) * bytes ≤ 140737488355328 ∧ n + j ≤ maxLen then some (.sl (n + j) (xs ++ ys) (.own id), [(id, some (.row (n + j) e size))]) else none
      | .own t => match ownOk md base t, m.obj t with
        | true, some (.row n' e' s') => if (xs.length = n * size ∧ ys.length = j * size ∧ (n + j) * bytes ≤ 140737488355328 ∧ n + j ≤ maxLen) ∧ n' = n ∧ e' = e ∧ s' = size then some (.sl (n + j) (xs ++ ys) (.own t), [(t, some (.row (n + j) e size))]) else none
        | _, _ => none
      | .no => none
    | _ => none
  | .appM e size bytes => match md, vals with
    | none, [x, y] => match rdS m size y with
      | some (j, ys) => match x with
        | .sl n xs k => if k = .exact ∧ xs.length = n * size ∧ (n + j) * bytes ≤ 140737488355328 ∧ n + j ≤ maxLen then (if j = 0 then some (.sl n xs .exact, []) else some (.gsl id (n + j) size, [(id, some (.box (xs ++ ys) e))])) else none
        | .gsl i n s => match m.obj i with
          | some (.box cs t) => if (s = size ∧ (n + j) * bytes ≤ 140737488355328 ∧ n + j ≤ maxLen) ∧ t = e ∧ n * size ≤ cs.length ∧ (cs.take (n * size)).all V.one = true then some (.gsl id (n + j) size, [(i, none), (id, some (.box (cs.take (n * size) ++ ys) e))]) else none
          | _ => none
        | _ => none
      | none => none
    | _, _ => none
  | .appL e size bytes => match md, vals with
    | none, x :: y :: ps => bif ps.all (offP id x) then (match rdS m size y with
      | some (j, ys) => match x with
        | .sl n xs k => if k = .exact ∧ xs.length = n * size ∧ (n + j) * bytes ≤ 140737488355328 ∧ n + j ≤ maxLen then (if j = 0 then some (.sl n xs .exact, []) else some (.gsl id (n + j) size, [(id, some (.box (xs ++ ys) e))])) else none
        | .gsl i n s => match m.obj i with
          | some (.box cs t) => if (s = size ∧ (n + j) * bytes ≤ 140737488355328 ∧ n + j ≤ maxLen) ∧ t = e ∧ n * size ≤ cs.length ∧ (cs.take (n * size)).all V.one = true then some (.gsl id (n + j) size, [(i, none), (id, some (.box (cs.take (n * size) ++ ys) e))]) else none
          | _ => none
        | _ => none
      | none => none) else none
    | _, _ => none
  | .mkslB e n size z pl => if pl.length = vals.length ∧ z.length = n * size then (vfill z (pl.zip vals)).map fun cs => (.gsl id n size, [(id, some (.box cs e))]) else none
  | .eqN neg => match md, vals with
    | none, [.sl _ (_ :: _) _] => some (vbool neg, [])
    | none, [.bsl _ _ _ _] => some (vbool neg, [])
    | none, [.gsl _ _ _] => some (vbool neg, [])
    | _, _ => none
  | .appB _ _ _ | .call _ | .callv | .callB _ | .callL _ _ | .stL _ | .ld1W => none
  | .mkmap ks => if md = none then some (.mp id, [(id, some (.oth (.map ks [])))]) else none
  | .mlk ks ok => if md = none then (match vals with
    | [.mp i, key] => match m.obj i, keyOf ks key with
      | some (.oth (.map ks' es)), some k => if ks' = ks then some (mans ok (mget es k), []) else none
      | _, _ => none
    | _ => none) else none
  | .mput ks => if md = none then (match vals with
    | [.mp i, key, .lit (.int .i64 n)] => match m.obj i, keyOf ks key with
      | some (.oth (.map ks' es)), some k => if ks' = ks then some (vund, [(i, some (.oth (.map ks (mset es k n))))]) else none
      | _, _ => none
    | _ => none) else none
  | .cpy => match md, vals with
    | none, [.bsl i off n _, y] => match m.obj i, rdS m 1 y with
      | some (.box cs t), some (j, ys) => if off + n ≤ cs.length then some (vint ((min n j : Nat) : Int), [(i, some (.box (splice cs off (ys.take (min n j))) t))]) else none
      | _, _ => none
    | _, _ => none
  | .clr size z => match md, vals with
    | none, [.bsl i off n _] => match m.obj i with
      | some (.box cs t) => if z.length = size ∧ off + n * size ≤ cs.length then some (vund, [(i, some (.box (splice cs off (List.flatten (List.replicate n z))) t))]) else none
      | _ => none
    | _, _ => none
  | op => (pureSem op vals).map fun v => (v, [])
theorem evOp_sem {P : Program} {G : Ground} {id base : Nat} {md : Option (List Nat)} {op : VO} {vals : List V} {m : Mm} {K : V → Mm → Prop} {r : V} {us : Upd} (h : evOp id base md op vals m = some (r, us)) (hK : K r (updM m us)) : sem P G id base md op vals m K := by
  cases op <;> simp only [evOp] at h <;> simp only [sem]
  case alloc => cases h; exact hK
  case box => split at h <;> cases h; exact hK
  case mk =>
    split at h
    · split at h
      · rename_i hh; cases h; exact ⟨hh.1, hh.2.1, hh.2.2.1, hh.2.2.2.1, hh.2.2.2.2, hK⟩
      · cases h
    · cases h
  case ld1 =>
    split at h
    · rw [Option.map_eq_some_iff] at h
      obtain ⟨v, hv, e⟩ := h
      cases e
      simp only [hv]; exact hK
    · split at h
      · rename_i hrd
        refine ⟨hrd, ?_⟩
        split at h
        · rename_i ho
          rw [Option.map_eq_some_iff] at h
          obtain ⟨v, hv, e⟩ := h
          cases e
          simp only [ho, hv]; exact hK
        · cases h
      · cases h
    · cases h
  case ldA =>
    split at h
    · split at h
      · rename_i hl; cases h; exact ⟨hl, hK⟩
      · cases h
    · split at h
      · rename_i hrd
        refine ⟨hrd, ?_⟩
        split at h
        · rename_i ho
          split at h
          · rename_i hl; cases h; simp only [ho]; exact ⟨hl, hK⟩
          · cases h
        · cases h
      · cases h
    · cases h
  case st =>
    split at h
    · split at h
      · rename_i hok
        refine ⟨hok, ?_⟩
        split at h
        · rename_i ho
          split at h
          · rename_i hh; cases h; simp only [ho]; exact ⟨hh.1, hh.2.1, hh.2.2, hK⟩
          · cases h
        · cases h
      · cases h
    · cases h
  case mkslB =>
    split at h
    · rename_i h0
      rw [Option.map_eq_some_iff] at h
      obtain ⟨cs, hcs, e⟩ := h
      cases e
      rw [if_pos h0, hcs]; exact hK
    · cases h
  case app =>
    split at h
    · split at h
      · split at h
        · rename_i hh; cases h; exact ⟨hh.1, hh.2.1, hh.2.2.1, hh.2.2.2, hK⟩
        · cases h
      · split at h
        · rename_i hok ho
          split at h
          · rename_i hh; cases h; simp only [ho]; exact ⟨hh.1.1, hh.1.2.1, hh.1.2.2.1, hh.1.2.2.2, hok, hh.2.1, hh.2.2.1, hh.2.2.2, hK⟩
          · cases h
        · cases h
      · cases h
    · cases h
  case appM =>
    split at h
    · split at h
      · rename_i j ys hrd
        simp only [hrd]
        split at h
        · split at h
          · rename_i hh
            refine ⟨hh.1, hh.2.1, hh.2.2.1, hh.2.2.2, ?_⟩
            split at h
            · rename_i hj; cases h; rw [if_pos hj]; exact hK
            · rename_i hj; cases h; rw [if_neg hj]; exact hK
          · cases h
        · split at h
          · rename_i ho
            split at h
            · rename_i hh
              cases h
              simp only [ho]
              exact ⟨hh.1.1, hh.1.2.1, hh.1.2.2, hh.2.1, hh.2.2.1, hh.2.2.2, hK⟩
            · cases h
          · cases h
        · cases h
      · cases h
    · cases h
  case appL =>
    split at h
    · rename_i x y ps
      cases hps : ps.all (offP id x) with
      | false => rw [hps] at h; cases h
      | true =>
      rw [hps, cond_true] at h
      refine ⟨hps, ?_⟩
      split at h
      · rename_i j ys hrd
        simp only [hrd]
        split at h
        · split at h
          · rename_i hh
            refine ⟨hh.1, hh.2.1, hh.2.2.1, hh.2.2.2, ?_⟩
            split at h
            · rename_i hj; cases h; rw [if_pos hj]; exact hK
            · rename_i hj; cases h; rw [if_neg hj]; exact hK
          · cases h
        · split at h
          · rename_i ho
            split at h
            · rename_i hh
              cases h
              simp only [ho]
              exact ⟨hh.1.1, hh.1.2.1, hh.1.2.2, hh.2.1, hh.2.2.1, hh.2.2.2, hK⟩
            · cases h
          · cases h
        · cases h
      · cases h
    · cases h
  case eqN =>
    split at h
    · cases h; exact fun b hb => by rw [hb (by simp)]; exact hK
    · cases h; exact hK
    · cases h; exact hK
    · cases h
  case mkmap =>
    split at h
    · rename_i hmd; subst hmd; cases h; exact hK
    · cases h
  case mlk =>
    split at h
    · rename_i hmd
      subst hmd
      split at h
      · split at h
        · rename_i ho hk
          split at h
          · rename_i hks; cases h; simp only [ho, hk]; exact ⟨hks, hK⟩
          · cases h
        · cases h
      · cases h
    · cases h
  case mput =>
    split at h
    · rename_i hmd
      subst hmd
      split at h
      · split at h
        · rename_i ho hk
          split at h
          · rename_i hks; cases h; simp only [ho, hk]; exact ⟨hks, hK⟩
          · cases h
        · cases h
      · cases h
    · cases h
  case cpy =>
    split at h
    · split at h
      · rename_i ho hk
        split at h
        · rename_i hks; cases h; simp only [ho, hk]; exact ⟨hks, hK⟩
        · cases h
      · cases h
    · cases h
  case clr =>
    split at h
    · split at h
      · rename_i ho
        split at h
        · rename_i hks; cases h; simp only [ho]; exact ⟨hks, hK⟩
        · cases h
      · cases h
    · cases h
  all_goals first
    | (cases h; done)
    | (cases h; exact hK)
    | (rw [Option.map_eq_some_iff] at h
       obtain ⟨v, hv, e⟩ := h
       cases e
       rw [hv]; exact hK)

/-! ### Boxes read -/
def mapO (f : V → Option V) : List V → Option (List V)
  | [] => some []
  | v :: vs => match f v with | some u => (match mapO f vs with | some us => some (u :: us) | none => none) | none => none
def viewV : Nat → Mm → (Nat → Bool) → V → Option V
  | 0, _, _, _ => none
  | k + 1, m, S, v => match v with
    | .lit v => some (.lit v)
    | .agg cs => (mapO (viewV k m S) cs).map .agg
    | .tup cs => (mapO (viewV k m S) cs).map .tup
    | .sl n xs _ => some (.sl n xs .no)
    | .ptr i off => if S i = true then (match m.obj i with
      | some (.box cs _) => (mapO (viewV k m S) cs).bind fun us => if us.all V.one = true then some (.ept us off) else none
      | _ => none) else none
    | .bsl i off n _ => if S i = true then (match m.obj i with
      | some (.box cs _) => (mapO (viewV k m S) cs).bind fun us => if us.all V.one = true then some (.sl n (us.drop off) .no) else none
      | _ => none) else none
    | .gsl i n _ => if S i = true then (match m.obj i with
      | some (.box cs _) => (mapO (viewV k m S) cs).bind fun us => if us.all V.one = true then some (.sl n us .no) else none
      | _ => none) else none
    | .ept xs o => some (.ept xs o)
    | .fn f cs => (mapO (viewV k m S) cs).map (.fn f)
    | _ => none
theorem mapO_ok {m : Mm} {S : Nat → Bool} {f : V → Option V} (hf : ∀ v u, f v = some u → Vw m S v u) : ∀ (vs us : List V), mapO f vs = some us → Vws m S vs us
  | [], us, h => by rw [mapO] at h; cases h; exact .nil
  | v :: vs, us, h => by
    rw [mapO] at h
    split at h
    · rename_i u hu
      split at h
      · rename_i us' hus; cases h; exact .cons (hf _ _ hu) (mapO_ok hf _ _ hus)
      · cases h
    · cases h
theorem view_ok (m : Mm) (S : Nat → Bool) : ∀ (k : Nat) (v u : V), viewV k m S v = some u → Vw m S v u
  | 0, v, u, h => by rw [viewV] at h; cases h
  | k + 1, v, u, h => by
    have h2 := mapO_ok (view_ok m S k)
    unfold viewV at h
    split at h
    · cases h; exact .lit _
    · rw [Option.map_eq_some_iff] at h; obtain ⟨us, hu, rfl⟩ := h; exact .agg (h2 _ _ hu)
    · rw [Option.map_eq_some_iff] at h; obtain ⟨us, hu, rfl⟩ := h; exact .tup (h2 _ _ hu)
    · cases h; exact .sl _ _ _
    · split at h
      · rename_i hS
        split at h
        · rename_i ho
          rw [Option.bind_eq_some_iff] at h
          obtain ⟨us, hu, h⟩ := h
          split at h
          · rename_i ha; cases h; exact .ptr hS ho (h2 _ _ hu) ha
          · cases h
        · cases h
      · cases h
    · split at h
      · rename_i hS
        split at h
        · rename_i ho
          rw [Option.bind_eq_some_iff] at h
          obtain ⟨us, hu, h⟩ := h
          split at h
          · rename_i ha; cases h; exact .bsl hS ho (h2 _ _ hu) ha
          · cases h
        · cases h
      · cases h
    · split at h
      · rename_i hS
        split at h
        · rename_i ho
          rw [Option.bind_eq_some_iff] at h
          obtain ⟨us, hu, h⟩ := h
          split at h
          · rename_i ha; cases h; exact .gsl hS ho (h2 _ _ hu) ha
          · cases h
        · cases h
      · cases h
    · cases h; exact .ept _ _
    · rw [Option.map_eq_some_iff] at h; obtain ⟨us, hu, rfl⟩ := h; exact .fn (h2 _ _ hu)
    · cases h
/-- Boxes outside S do not matter. -/
theorem Vw.agree {m m' : Mm} {S : Nat → Bool} (h : ∀ i, S i = true → m'.obj i = m.obj i) : (∀ v u, Vw m S v u → Vw m' S v u) ∧ (∀ vs us, Vws m S vs us → Vws m' S vs us) := by
  have A : ∀ v u, Vw m S v u → Vw m' S v u := fun v u hv =>
    Vw.rec (motive_1 := fun v u _ => Vw m' S v u) (motive_2 := fun vs us _ => Vws m' S vs us) (fun v => .lit v) (fun _ h => .agg h) (fun _ h => .tup h) (fun n xs k => .sl n xs k)
      (fun hS ho _ ha h2 => .ptr hS ((h _ hS).trans ho) h2 ha) (fun hS ho _ ha h2 => .bsl hS ((h _ hS).trans ho) h2 ha) (fun hS ho _ ha h2 => .gsl hS ((h _ hS).trans ho) h2 ha) (fun xs o => .ept xs o) (fun _ h => .fn h) .nil (fun _ _ h1 h2 => .cons h1 h2) hv
  refine ⟨A, fun vs => ?_⟩
  induction vs with
  | nil => intro us h; cases h; exact .nil
  | cons v vs ih => intro us h; cases h with | cons h1 h2 => exact .cons (A _ _ h1) (ih _ h2)
mutual
theorem Vw.of_dry {m : Mm} {S : Nat → Bool} : ∀ {v : V}, v.dry = true → Vw m S v v
  | .lit _, _ => .lit _
  | .agg _, h => by rw [V.dry] at h; exact .agg (Vws.of_dry h)
  | .tup _, h => by rw [V.dry] at h; exact .tup (Vws.of_dry h)
  | .sl _ _ _, hd => by cases hd
  | .ptr _ _, hd => by cases hd
  | .bsl _ _ _ _, hd => by cases hd
  | .gsl _ _ _, hd => by cases hd
  | .ept _ _, hd => by cases hd
  | .fn _ _, hd => by cases hd
  | .mp _, hd => by cases hd
  | .yld _, hd => by cases hd
theorem Vws.of_dry {m : Mm} {S : Nat → Bool} : ∀ {v : List V}, V.drys v = true → Vws m S v v
  | [], _ => .nil
  | _ :: _, h => by rw [V.drys, Bool.and_eq_true] at h; exact .cons (Vw.of_dry h.1) (Vws.of_dry h.2)
end

mutual
theorem dry_pure : ∀ {v : V}, v.dry = true → v.pure = true
  | .lit _, _ => by rw [V.pure]
  | .agg _, h => by rw [V.dry] at h; rw [V.pure]; exact drys_pures h
  | .tup _, h => by rw [V.dry] at h; rw [V.pure]; exact drys_pures h
  | .sl _ _ _, hd => by cases hd
  | .ptr _ _, hd => by cases hd
  | .bsl _ _ _ _, hd => by cases hd
  | .gsl _ _ _, hd => by cases hd
  | .ept _ _, hd => by cases hd
  | .fn _ _, hd => by cases hd
  | .mp _, hd => by cases hd
  | .yld _, hd => by cases hd
theorem drys_pures : ∀ {v : List V}, V.drys v = true → V.pures v = true
  | [], _ => by rw [V.pures]
  | _ :: _, h => by rw [V.drys, Bool.and_eq_true] at h; rw [V.pures, dry_pure h.1, drys_pures h.2]; rfl
end
/-- Boxes are lent to a call that gives a new box of literals. -/
theorem Fn.lendB {P : Program} {G : Ground} {f : FuncId} {vs us : List V} {n size : Nat} {xs : List V} {e : TypeId} (h : SFn P G f us M0 fun r' m' => ∃ i, r' = .gsl i n size ∧ m'.obj i = some (.box xs e)) (h0 : n ≠ 0) (hd : V.drys xs = true) (h1 : xs.all V.one = true)
    {m : Mm} (S : Nat → Bool) (hv : Vws m S vs us) : SFn P G f vs m (BPost n xs e m) := by
  intro E w cargs hG hm hargs
  obtain ⟨E', hs, hm', _, hB⟩ := hm.cut S
  obtain ⟨ha, hb⟩ := hB _ _ _ hv hargs
  refine (h E'.bare w cargs (show G.ok E'.M w from G.mono _ E E' _ _ _ _ hm hs hG) hm'.hide (VRs.pureM (E := E') (E' := E'.bare) (fun _ _ _ x => x) hb ha)).mono ?_
  rintro e0 w' ⟨v, r', m2, E2, he, ⟨i, rfl, hoi⟩, hs2, hm2, hr2⟩
  have hk : ∀ b, b < w.heap.size → w'.heap[b]? = w.heap[b]? := fun b hb => hs2.kept b hb fun i => M0_blk
  rw [VR] at hr2
  obtain ⟨b, hφb, cap', e2, hn, hloc⟩ := hr2
  obtain ⟨b', c, hφ', hh, hxs, hM⟩ := hm2.box i xs e hoi
  rw [hφb] at hφ'; cases hφ'
  have hge : w.heap.size ≤ b := by
    rcases Nat.lt_or_ge b w.heap.size with hlt | hge
    · obtain ⟨j, hj⟩ := hs2.blk i b (.inl ⟨xs, e, hoi, hφb⟩) hlt
      exact absurd hj M0_blk
    · exact hge
  have hm1 : MemR E ⟨m.obj, m.next + 1⟩ w' := (hm.grow hk).skip 1
  have st0 : Step NoX E ⟨m.obj, m.next + 1⟩ w E ⟨m.obj, m.next + 1⟩ w' := ⟨.refl E, Nat.le_refl _, fun _ _ _ => rfl, fun _ _ _ h => ⟨fun _ => rfl, h⟩, hs2.os, hs2.tape, hs2.output, hs2.drawn, hs2.size, fun b hb _ => hk b hb, fun i b h _ => ⟨i, h⟩, fun _ _ _ h => .inl h⟩
  have hf := hm.fresh m.next (Nat.le_refl _)
  obtain ⟨E3, hs3, hm3, hφ3⟩ := MemR.oldBox st0 rfl hm1 (i := m.next) (Nat.lt_succ_self _) hf.1 hf.1 hf.2.2 hf.2.1 (cs := xs) (c := c) (VRs.dry hd hxs) e hge hh
    (fun o => by
      cases hM : E.M b o with
      | none => rfl
      | some v => have := hm.M_lt hM; omega)
    (fun j hj => by have := hm.blk_lt (i := j) hj; omega)
  refine ⟨v, .bsl m.next 0 n n, _, E3, he, ⟨fun q hq => if_neg (by omega), .inr ⟨h0, by rw [V.clean, drys_pures hd, h1]; rfl, m.next, Nat.le_refl _, rfl, if_pos rfl⟩⟩,
    ⟨hs3.le, Nat.le_succ _, fun i hi _ => hs3.oldφ i (by show i < m.next + 1; omega) (by omega), fun i hi _ ho => hs3.oldloc i (by show i < m.next + 1; omega) (by omega) ho, hs3.os, hs3.tape, hs3.output, hs3.drawn, hs3.size, hs3.kept, hs3.blk, hs3.newM⟩, hm3, ?_⟩
  rw [VR]
  exact ⟨b, hφ3, cap', e2, Nat.le_refl _, hn⟩
theorem Fn.lendB0 {P : Program} {G : Ground} {f : FuncId} {vs us : List V} {e : TypeId} (h : SFn P G f us M0 fun r' m' => r' = .sl 0 [] .exact) {m : Mm} (S : Nat → Bool) (hv : Vws m S vs us) : SFn P G f vs m (BPost 0 [] e m) := by
  intro E w cargs hG hm hargs
  obtain ⟨E', hs, hm', _, hB⟩ := hm.cut S
  obtain ⟨ha, hb⟩ := hB _ _ _ hv hargs
  refine (h E'.bare w cargs (show G.ok E'.M w from G.mono _ E E' _ _ _ _ hm hs hG) hm'.hide (VRs.pureM (E := E') (E' := E'.bare) (fun _ _ _ x => x) hb ha)).mono ?_
  rintro e0 w' ⟨v, r', m2, E2, he, rfl, hs2, hm2, hr2⟩
  have hk : ∀ b, b < w.heap.size → w'.heap[b]? = w.heap[b]? := fun b hb => hs2.kept b hb fun i => M0_blk
  refine ⟨v, _, m, E, he, ⟨fun _ _ => rfl, .inl ⟨rfl, rfl⟩⟩, ⟨.refl E, Nat.le_refl _, fun _ _ _ => rfl, fun _ _ _ h => ⟨fun _ => rfl, h⟩, hs2.os, hs2.tape, hs2.output, hs2.drawn, hs2.size, fun b hb _ => hk b hb, fun i b h _ => ⟨i, h⟩, fun _ _ _ h => .inl h⟩, hm.grow hk, ?_⟩
  rw [VR] at hr2 ⊢
  obtain ⟨A, cap, e1, hn, htok, hc, _⟩ := hr2
  exact ⟨A, cap, e1, hn, htok, hc, .inl rfl⟩

/-! ### Code -/
structure Fd where
  nt : Nat
  c : VC
  rs : List VRes
/-- What is known of a function: its text, or what it does outright. -/
inductive Fe where
  | code (d : Fd)
  | prim (g : List V → Tr AObj → Nat → Option (V × Tr AObj × Nat))
  | cln (size : Nat) (e : TypeId)
  | rnd (C : Nat → Code → VC)
def mkT : List V → Nat → Tr V → Option (Tr V)
  | [], _, t => some t
  | v :: vs, i, t => (putE t (some i) v).bind fun t' => mkT vs (i + 1) t'
def endB : VX → Bool
  | .nrm | .ret => true
  | .exit _ => false
def evF (T : Nat → Option Fe) (ec : VC → ES → Option (VX × ES)) (f : Nat) (vals : List V) (o : Tr AObj) (nx : Nat) : Option (V × Tr AObj × Nat) :=
  match T f with
  | none => none
  | some (.prim g) => g vals o nx
  | some (.cln _ _) => none
  | some (.rnd _) => none
  | some (.code d) => bif Nat.ble vals.length d.nt then (match mkT vals 0 .e with
    | some t => (match ec d.c ⟨t, o, nx⟩ with
      | some (e, s') => bif endB e then (match resV s'.st d.rs with | some r => some (r, s'.o, s'.nx) | none => none) else none
      | none => none)
    | none => none) else none
def seen (md : List Nat) (base : Nat) : Nat → Bool := fun i => decide (i < base) || md.contains (i - base)
/-- The cells behind a slice that may be read in this order. -/
def rdV (md : Option (List Nat)) (base : Nat) (m : Mm) (size : Nat) (y : V) : Option (Nat × List V) :=
  match y with
  | .bsl i _ _ _ => bif rdable md base i then rdS m size y else none
  | .gsl i _ _ => bif rdable md base i then rdS m size y else none
  | _ => rdS m size y
theorem rdV_rdS {md : Option (List Nat)} {base : Nat} {m : Mm} {size : Nat} {y : V} {p : Nat × List V} (h : rdV md base m size y = some p) {m' : Mm} (hm : ∀ i, rdable md base i = true → m'.obj i = m.obj i) : rdS m' size y = some p := by
  unfold rdV at h
  split at h
  · cases hr : rdable md base _ with
    | false => rw [hr] at h; cases h
    | true =>
      rw [hr, cond_true] at h
      unfold rdS at h ⊢
      simp only [hm _ hr]
      exact h
  · cases hr : rdable md base _ with
    | false => rw [hr] at h; cases h
    | true =>
      rw [hr, cond_true] at h
      unfold rdS at h ⊢
      simp only [hm _ hr]
      exact h
  · rename_i h1 h2
    cases y <;> first
      | exact absurd rfl (h1 _ _ _ _)
      | exact absurd rfl (h2 _ _ _)
      | exact h
/-- A call. -/
def evCall (T : Nat → Option Fe) (ec : VC → ES → Option (VX × ES)) (base : Nat) (md : Option (List Nat)) (f : Nat) (vals : List V) (o : Tr AObj) (nx : Nat) : Option (V × Tr AObj × Nat) :=
  match md with
  | none => evF T ec f vals o nx
  | some anc => bif V.pures (V.norms vals) then (match evF T ec f (V.norms vals) .e 0 with
    | some (r, o', nx') => (match viewV 60 (mmT o' nx') allS r with
      | some u => some (u, o, nx)
      | none => none)
    | none => none) else match mapO (viewV 60 (mmT o nx) (seen anc base)) vals with
    | some us => bif V.pures us then (match evF T ec f us .e 0 with
      | some (r, _, _) => bif r.dry then some (r, o, nx) else none
      | none => none) else none
    | none => none
/-- Where the table has how rounds are translated. -/
def yk : Nat := 4294967295
/-- Where the table has which functions copy rows. -/
def clb : Nat := 8589934592
def setP : List (Nat × V) → Tr V → Option (Tr V)
  | [], t => some t
  | (i, v) :: l, t => (putE t (some i) v).bind fun t' => setP l t'
/-- A call of yield. -/
def evY (T : Nat → Option Fe) (ec : VC → ES → Option (VX × ES)) (i : Nat) (vals : List V) (o : Tr AObj) (nx : Nat) : Option (V × Tr AObj × Nat) :=
  match T yk, o.get (i + 1) with
  | some (.rnd C), some (.oth (.loop tmps ps az bd .ready)) => bif Nat.beq vals.length ps.size && ((C tmps.length az).plain && (C tmps.length bd).plain) then
    (match (mkT tmps 0 .e).bind (setP (ps.toList.zip vals)) with
    | some t => (match ec (C tmps.length az) ⟨t, o, nx⟩ with
      | some (.nrm, s1) => (match s1.o.get (i + 1) with
        | some (.oth (.loop tm ps' az' bd' .ready)) => (match updT s1.o [(i, some (.oth (.loop tm ps' az' bd' .busy)))] with
          | some o1 => (match ec (C tmps.length bd) ⟨s1.t, o1, s1.nx⟩ with
            | some (e, s2) => (match s2.o.get (i + 1) with
              | some (.oth (.loop tm ps az bd .busy)) => (match e with
                | .nrm => (updT s2.o [(i, some (.oth (.loop tm ps az bd .ready)))]).map fun o2 => (vbool true, o2, s2.nx)
                | .ret => (updT s2.o [(i, some (.oth (.loop tm ps az bd (.done .ret))))]).map fun o2 => (vbool false, o2, s2.nx)
                | .exit id => (updT s2.o [(i, some (.oth (.loop tm ps az bd (.done (.exit id)))))]).map fun o2 => (vbool false, o2, s2.nx))
              | _ => none)
            | none => none)
          | none => none)
        | _ => none)
      | _ => none)
    | none => none) else none
  | _, _ => none
def evI (T : Nat → Option Fe) (ec : VC → ES → Option (VX × ES)) (base idx : Nat) (vi : VI) (s : ES) : Option ES :=
  match vi.on s.st with
  | false => match putE s.t vi.dst vund with | some t => some ⟨t, s.o, s.nx⟩ | none => none
  | true => match vi.op with
    | .call f => (match evCall T ec base vi.mode f (vi.args.map s.st.ev) s.o s.nx with
      | some (r, o, nx) => (match putE s.t vi.dst r with | some t => some ⟨t, o, nx⟩ | none => none)
      | none => none)
    | .callL f js => (match vi.mode, evF T ec f (vi.args.map s.st.ev) s.o s.nx with
      | none, some (r, o, nx) => bif Nat.ble s.nx nx && js.all (fun j => (s.o.get (base + j + 1)).isSome || (o.get (base + j + 1)).isNone) then (match putE s.t vi.dst r with | some t => some ⟨t, o, nx⟩ | none => none) else none
      | _, _ => none)
    | .callv => (match vi.args.map s.st.ev with
      | .fn f cs :: vs => (match evCall T ec base vi.mode f (vs ++ cs) s.o s.nx with
        | some (r, o, nx) => (match putE s.t vi.dst r with | some t => some ⟨t, o, nx⟩ | none => none)
        | none => none)
      | .yld i :: vs => (match vi.mode, evY T ec i vs s.o s.nx with
        | none, some (r, o, nx) => (match putE s.t vi.dst r with | some t => some ⟨t, o, nx⟩ | none => none)
        | _, _ => none)
      | _ => none)
    | .callB f => (match T (f + clb), vi.args.map s.st.ev with
      | some (.cln size e), [y] => (match rdV vi.mode base s.st.m size y with
        | some (n, xs) => bif V.clean xs && Nat.ble n 1000000 then (bif Nat.beq n 0 then (match putE s.t vi.dst (.sl 0 [] .exact) with | some t => some ⟨t, s.o, s.nx⟩ | none => none)
          else (match updT s.o [(base + idx, some (.box xs e))], putE s.t vi.dst (.bsl (base + idx) 0 n n) with | some o, some t => some ⟨t, o, s.nx⟩ | _, _ => none)) else none
        | none => none)
      | _, vals => (match mapO (viewV 60 s.st.m (match vi.mode with | none => allS | some anc => seen anc base)) vals with
        | some us => bif V.pures us then (match evF T ec f us .e 0 with
          | some (.sl 0 [] .exact, _, _) => (match putE s.t vi.dst (.sl 0 [] .exact) with | some t => some ⟨t, s.o, s.nx⟩ | none => none)
          | some (.gsl i n _, o', _) => (match o'.get (i + 1) with
            | some (.box xs e) => bif (!Nat.beq n 0) && (V.drys xs && xs.all V.one) then (match updT s.o [(base + idx, some (.box xs e))], putE s.t vi.dst (.bsl (base + idx) 0 n n) with | some o, some t => some ⟨t, o, s.nx⟩ | _, _ => none) else none
            | _ => none)
          | _ => none) else none
        | none => none))
    | op => (match evOp (base + idx) base vi.mode op (vi.args.map s.st.ev) s.st.m with
      | some (r, us) => (match updT s.o us, putE s.t vi.dst r with | some o, some t => some ⟨t, o, s.nx⟩ | _, _ => none)
      | none => none)
def evR (T : Nat → Option Fe) (ec : VC → ES → Option (VX × ES)) (base : Nat) : List VI → Nat → ES → Option ES
  | [], _, s => some s
  | vi :: l, i, s => match evI T ec base i vi s with
    | some s' => evR T ec base l (i + 1) s'
    | none => none
def evC (T : Nat → Option Fe) : Nat → VC → ES → Option (VX × ES)
  | 0, _, _ => none
  | n + 1, c, s => match c with
    | .skip => some (.nrm, s)
    | .ret => some (.ret, s)
    | .ops k l => match evR T (evC T n) s.nx l 0 ⟨s.t, s.o, s.nx + k⟩ with | some s' => some (.nrm, s') | none => none
    | .seq a b => match evC T n a s with
      | some (.nrm, s') => evC T n b s'
      | r => r
    | .cond c a b => match s.st.ev c with
      | .lit (.bool true) => evC T n a s
      | .lit (.bool false) => evC T n b s
      | _ => none
    | .block id b => match evC T n b s with
      | some (.exit i, s') => bif Nat.beq i id then some (.nrm, s') else some (.exit i, s')
      | r => r
    | .loop b => match evC T n b s with
      | some (.nrm, s') => evC T n (.loop b) s'
      | r => r
    | .exit id => some (.exit id, s)
    | .scope b => evC T n b s
    | .rangeF nt f ps az bd => (match s.st.ev f with
      | .fn g cs => (match updT s.o [(s.nx, some (.oth (.loop (slots nt s.st.t) ps az bd .ready)))] with
        | some o1 => (match evF T (evC T n) g (.yld s.nx :: cs) o1 (s.nx + 1) with
          | some (_, o2, nx2) => (match o2.get (s.nx + 1) with
            | some (.oth (.loop _ _ _ _ .ready)) => (updT o2 [(s.nx, none)]).map fun o3 => (.nrm, ⟨s.t, o3, nx2⟩)
            | some (.oth (.loop _ _ _ _ (.done .ret))) => (updT o2 [(s.nx, none)]).map fun o3 => (.ret, ⟨s.t, o3, nx2⟩)
            | some (.oth (.loop _ _ _ _ (.done (.exit id)))) => (updT o2 [(s.nx, none)]).map fun o3 => (.exit id, ⟨s.t, o3, nx2⟩)
            | _ => none)
          | none => none)
        | none => none)
      | _ => none)
    | .bad => none

/-! ### What it says is so -/
section
variable {P : Program} {G : Ground} {T : Nat → Option Fe}
structure TabOk (P : Program) (G : Ground) (T : Nat → Option Fe) : Prop where
  call : ∀ f x, T f = some x → (∀ C, x ≠ .rnd C) → (∀ a b, x ≠ .cln a b) → callable P f = true
  rnd : ∀ f C, T f = some (.rnd C) → ∃ bx, ∀ nt c, C nt c = cvCode P bx G.tab nt c
  code : ∀ f d, T f = some (.code d) → ∃ bx, Comp P bx G.tab f d.nt d.c d.rs
  cln : ∀ f size e, T (f + clb) = some (.cln size e) → ∀ m y n xs, rdS m size y = some (n, xs) → V.clean xs = true → n ≤ 1000000 → SFn P G f [y] m (BPost n xs e m)
  prim : ∀ f g, T f = some (.prim g) → ∀ vals o nx r o' nx', g vals o nx = some (r, o', nx') → SFn P G f vals (mmT o nx) fun r' m' => r' = r ∧ m' = mmT o' nx'
def GoodE (P : Program) (G : Ground) (ec : VC → ES → Option (VX × ES)) : Prop := ∀ c s e s', ec c s = some (e, s') → ∀ Q : VX → St → Prop, Q e s'.st → c.vx P G Q s.st

theorem mkT_ok : ∀ {vs : List V} {i : Nat} {t t' : Tr V}, mkT vs i t = some t' → ∀ j, stT t' j = if i ≤ j then (vs[j - i]?).getD (stT t j) else stT t j
  | [], i, t, t', h, j => by rw [mkT] at h; cases h; simp
  | v :: vs, i, t, t', h, j => by
    rw [mkT, Option.bind_eq_some_iff] at h
    obtain ⟨t1, h1, h2⟩ := h
    rw [mkT_ok h2 j, putE_ok h1, putT_get]
    by_cases hij : i ≤ j
    · by_cases e : j = i
      · subst e; rw [if_neg (by omega), if_pos (Nat.le_refl _), if_pos rfl, Nat.sub_self]; rfl
      · rw [if_pos (by omega), if_pos hij, if_neg e, show j - i = (j - (i + 1)) + 1 by omega, List.getElem?_cons_succ]
    · rw [if_neg (by omega), if_neg hij, if_neg (by omega)]
theorem mkT_init {vs : List V} {t : Tr V} (h : mkT vs 0 .e = some t) : stT t = initT vs := by
  funext j
  rw [mkT_ok h j, if_pos (Nat.zero_le _), Nat.sub_zero]
  unfold initT stT
  rw [Tr.get_e, List.getD_eq_getElem?_getD]
  rfl

theorem evF_ok (hT : TabOk P G T) {ec : VC → ES → Option (VX × ES)} (hec : GoodE P G ec) {f : Nat} {vals : List V} {o o' : Tr AObj} {nx nx' : Nat} {r : V} (h : evF T ec f vals o nx = some (r, o', nx')) :
    SFn P G f vals (mmT o nx) fun r' m' => r' = r ∧ m' = mmT o' nx' := by
  unfold evF at h
  split at h
  · cases h
  · rename_i g hg; exact hT.prim f g hg _ _ _ _ _ _ h
  · cases h
  · cases h
  · rename_i d hd
    cases hb : Nat.ble vals.length d.nt with
    | false => rw [hb] at h; cases h
    | true =>
      rw [hb, cond_true] at h
      split at h
      · rename_i t ht
        split at h
        · rename_i e s' he
          cases hE : endB e with
          | false => rw [hE] at h; cases h
          | true =>
            rw [hE, cond_true] at h
            split at h
            · rename_i r0 hr
              cases h
              obtain ⟨bx, hc⟩ := hT.code f d hd
              refine SFn.of_vxS hc (Nat.le_of_ble_eq_true hb) ?_
              have := hec _ _ _ _ he (FinS d.rs fun r' m' => r' = r ∧ m' = mmT s'.o s'.nx) ⟨?_, r, hr, rfl, rfl⟩
              · unfold ES.st at this
                rw [mkT_init ht] at this
                exact this
              · cases e
                · exact .inl rfl
                · cases hE
                · exact .inr rfl
            · cases h
        · cases h
      · cases h
    
theorem evCall_ok (hT : TabOk P G T) {ec : VC → ES → Option (VX × ES)} (hec : GoodE P G ec) {base : Nat} {md : Option (List Nat)} {f : Nat} {vals : List V} {o o' : Tr AObj} {nx nx' : Nat} {r : V} (h : evCall T ec base md f vals o nx = some (r, o', nx'))
    {K : V → Mm → Prop} (hK : K r (mmT o' nx')) : callSem P G base md f vals (mmT o nx) K := by
  unfold evCall at h
  unfold callSem
  cases md with
  | none => exact ⟨vals, _, .inl rfl, evF_ok hT hec h, ⟨r, _, rfl, rfl⟩, by rintro r' m' ⟨rfl, rfl⟩; exact hK⟩
  | some anc =>
    simp only at h
    cases hn : V.pures (V.norms vals) with
    | true =>
      rw [hn, cond_true] at h
      split at h
      · rename_i r0 o0 nx0 hf
        split at h
        · rename_i u hu
          cases h
          have h1 := evF_ok hT hec hf
          have h2 : Fn P G f (V.norms vals) r := Fn.of_empty hn ((show SFn P G f (V.norms vals) M0 _ from h1).mono (by rintro r' m' ⟨rfl, rfl⟩; exact view_ok _ _ _ _ _ hu))
          exact ⟨V.norms vals, r, .inr rfl, fun m' _ _ => h2 m', hK⟩
        · cases h
      · cases h
    | false =>
    rw [hn, cond_false] at h
    split at h
    · rename_i us hu
      cases hp : V.pures us with
      | false => rw [hp] at h; cases h
      | true =>
        rw [hp, cond_true] at h
        split at h
        · rename_i r0 o0 nx0 hf
          cases hd : r0.dry with
          | false => rw [hd] at h; cases h
          | true =>
            rw [hd, cond_true] at h
            cases h
            have h1 := evF_ok hT hec hf
            have h2 : Fn P G f us r := Fn.of_empty hp ((show SFn P G f us M0 _ from h1).mono (by rintro r' m' ⟨rfl, rfl⟩; exact Vw.of_dry hd))
            refine ⟨vals, r, .inl rfl, fun m' ha hn => h2.lend hd (seen anc base) ((Vw.agree (m := mmT o nx) (fun i hi => ha i ?_)).2 _ _ (mapO_ok (view_ok _ _ _) _ _ hu)), hK⟩
            unfold seen at hi
            rw [Bool.or_eq_true, decide_eq_true_eq, List.contains_iff_mem] at hi
            exact hi
        · cases h
    · cases h
theorem setP_ok : ∀ {l : List (Nat × V)} {t t' : Tr V}, setP l t = some t' → stT t' = l.foldl (fun t p => fun i => if i = p.1 then p.2 else t i) (stT t)
  | [], t, t', h => by rw [setP] at h; cases h; rfl
  | (i, v) :: l, t, t', h => by
    rw [setP, Option.bind_eq_some_iff] at h
    obtain ⟨t1, h1, h2⟩ := h
    rw [setP_ok h2, putE_ok h1, List.foldl_cons]
    rfl
theorem evF_callable (hT : TabOk P G T) {ec : VC → ES → Option (VX × ES)} {f : Nat} {vals : List V} {o : Tr AObj} {nx : Nat} {x : V × Tr AObj × Nat} (h : evF T ec f vals o nx = some x) : callable P f = true := by
  unfold evF at h
  split at h
  · cases h
  · rename_i g hg; exact hT.call f _ hg (fun C e => by cases e) fun a b e => by cases e
  · cases h
  · cases h
  · rename_i d hd; exact hT.call f _ hd (fun C e => by cases e) fun a b e => by cases e
theorem evY_ok (hT : TabOk P G T) {ec : VC → ES → Option (VX × ES)} (hec : GoodE P G ec) {i : Nat} {vals : List V} {o o' : Tr AObj} {nx nx' : Nat} {r : V} (h : evY T ec i vals o nx = some (r, o', nx')) :
    YFn P G i vals (mmT o nx) fun r' m' => r' = r ∧ m' = mmT o' nx' := by
  unfold evY at h
  split at h
  · rename_i C tmps ps az bd hC ho
    cases hb : Nat.beq vals.length ps.size && ((C tmps.length az).plain && (C tmps.length bd).plain) with
    | false => rw [hb] at h; cases h
    | true =>
      rw [hb, cond_true] at h
      rw [Bool.and_eq_true, Bool.and_eq_true] at hb
      obtain ⟨hl, pa, pb⟩ := hb
      obtain ⟨bx, hbx⟩ := hT.rnd _ _ hC
      split at h
      · rename_i t ht
        rw [Option.bind_eq_some_iff] at ht
        obtain ⟨t0, ht0, ht1⟩ := ht
        have hst : stT t = rslots tmps ps.toList vals := by rw [setP_ok ht1, mkT_init ht0]; rfl
        split at h
        · rename_i s1 h1
          split at h
          · rename_i tm ps' az' bd' ho1
            split at h
            · rename_i o1 hu1
              split at h
              · rename_i e s2 h2
                split at h
                · rename_i tm2 ps2 as2 bd2 ho2
                  refine YFn.of_vx (bx := bx) ho (Nat.eq_of_beq_eq_true hl) (hbx _ _).symm (hbx _ _).symm pa pb ?_
                  have B := hec _ _ _ _ h2 (rpost i fun r' m' => r' = r ∧ m' = mmT o' nx') ⟨tm2, ps2, as2, bd2, ho2, by
                    split at h
                    · rw [Option.map_eq_some_iff] at h
                      obtain ⟨o2, hu2, e⟩ := h
                      cases e
                      exact ⟨rfl, ((updT_ok s2.nx hu2).trans (updM_put _ _ _)).symm⟩
                    · rw [Option.map_eq_some_iff] at h
                      obtain ⟨o2, hu2, e⟩ := h
                      cases e
                      exact ⟨rfl, ((updT_ok s2.nx hu2).trans (updM_put _ _ _)).symm⟩
                    · rw [Option.map_eq_some_iff] at h
                      obtain ⟨o2, hu2, e⟩ := h
                      cases e
                      exact ⟨rfl, ((updT_ok s2.nx hu2).trans (updM_put _ _ _)).symm⟩⟩
                  have A := hec _ _ _ _ h1 (VX.then (fun s => ∃ tm ps' az' bd', s.m.obj i = some (.oth (.loop tm ps' az' bd' .ready)) ∧ (C tmps.length bd).vx P G (rpost i fun r' m' => r' = r ∧ m' = mmT o' nx') ⟨s.t, s.m.put i (.oth (.loop tm ps' az' bd' .busy))⟩) (fun _ _ => False)) ⟨tm, ps', az', bd', ho1, by
                    have e1 := (updT_ok s1.nx hu1).trans (updM_put _ _ _)
                    unfold ES.st at B ⊢
                    rw [e1] at B
                    exact B⟩
                  unfold ES.st at A
                  rw [hst] at A
                  exact A
                · cases h
              · cases h
            · cases h
          · cases h
        · cases h
      · cases h
  · cases h
theorem evI_ok (hT : TabOk P G T) {ec : VC → ES → Option (VX × ES)} (hec : GoodE P G ec) {base idx : Nat} {vi : VI} {s s' : ES} (h : evI T ec base idx vi s = some s') {K : St → Prop} (hK : K s'.st) : vstep P G base idx vi s.st K := by
  unfold evI at h
  unfold vstep
  split at h
  · rename_i ho
    rw [if_neg (by rw [ho]; exact Bool.false_ne_true)]
    split at h
    · rename_i t ht
      cases h
      have := putE_ok ht
      unfold ES.st at hK ⊢
      rw [← this]; exact hK
    · cases h
  · rename_i ho
    rw [if_pos ho]
    split at h
    · rename_i f hop
      rw [hop]
      simp only [sem]
      split at h
      · rename_i r o nx hc
        split at h
        · rename_i t ht
          cases h
          refine evCall_ok (o := s.o) (nx := s.nx) hT hec hc ?_
          have := putE_ok ht
          unfold ES.st at hK ⊢
          rw [← this]; exact hK
        · cases h
      · cases h
    · rename_i f js hop
      rw [hop]
      split at h
      · rename_i r o nx hmd hc
        rw [hmd]
        simp only [sem]
        cases hb : Nat.ble s.nx nx && js.all (fun j => (s.o.get (base + j + 1)).isSome || (o.get (base + j + 1)).isNone) with
        | false => rw [hb] at h; cases h
        | true =>
          rw [hb, cond_true] at h
          rw [Bool.and_eq_true, List.all_eq_true] at hb
          split at h
          · rename_i t ht
            cases h
            have hK2 : KeepL base js s.st.m (mmT o nx) := ⟨Nat.le_of_ble_eq_true hb.1, fun j hj _ hn => by
              have h1 := hb.2 j hj
              have hn' : s.o.get (base + j + 1) = none := hn
              rw [hn'] at h1
              show o.get (base + j + 1) = none
              cases hg : o.get (base + j + 1) with
              | none => rfl
              | some x => rw [hg] at h1; cases h1⟩
            refine ⟨_, _, .inl rfl, evF_ok (o := s.o) (nx := s.nx) hT hec hc, ⟨r, _, ⟨rfl, rfl⟩, hK2⟩, ?_⟩
            rintro r' m' ⟨rfl, rfl⟩ _
            have := putE_ok ht
            unfold ES.st at hK ⊢
            rw [← this]; exact hK
          · cases h
      · cases h
    · rename_i hop
      rw [hop]
      simp only [sem]
      split at h
      · rename_i f cs vs hv
        rw [hv]
        split at h
        · rename_i r o nx hc
          split at h
          · rename_i t ht
            cases h
            refine ⟨?_, evCall_ok (o := s.o) (nx := s.nx) hT hec hc ?_⟩
            · cases hTf : T f with
              | some x =>
                cases x with
                | rnd C =>
                  exfalso
                  unfold evCall evF at hc
                  simp only [hTf] at hc
                  split at hc
                  · cases hc
                  · cases hn : V.pures (V.norms (vs ++ cs)) <;> rw [hn] at hc
                    · rw [cond_false] at hc
                      split at hc
                      · cases hp : V.pures _ <;> rw [hp] at hc <;> cases hc
                      · cases hc
                    · cases hc
                | code d => exact hT.call _ _ hTf (fun C e => by cases e) fun a b e => by cases e
                | prim g => exact hT.call _ _ hTf (fun C e => by cases e) fun a b e => by cases e
                | cln a b =>
                  exfalso
                  unfold evCall evF at hc
                  simp only [hTf] at hc
                  split at hc
                  · cases hc
                  · cases hn : V.pures (V.norms (vs ++ cs)) <;> rw [hn] at hc
                    · rw [cond_false] at hc
                      split at hc
                      · cases hp : V.pures _ <;> rw [hp] at hc <;> cases hc
                      · cases hc
                    · cases hc
              | none =>
                exfalso
                unfold evCall evF at hc
                simp only [hTf] at hc
                split at hc
                · cases hc
                · cases hn : V.pures (V.norms (vs ++ cs)) <;> rw [hn] at hc
                  · rw [cond_false] at hc
                    split at hc
                    · cases hp : V.pures _ <;> rw [hp] at hc <;> cases hc
                    · cases hc
                  · cases hc
            · have := putE_ok ht
              unfold ES.st at hK ⊢
              rw [← this]; exact hK
          · cases h
        · cases h
      · rename_i i vs hv
        rw [hv]
        split at h
        · rename_i r o nx hmd hc
          split at h
          · rename_i t ht
            cases h
            show yldSem P G vi.mode i vs s.st.m _
            unfold yldSem
            rw [hmd]
            refine ⟨vs, _, .inl rfl, evY_ok (o := s.o) (nx := s.nx) hT hec hc, ⟨r, _, rfl, rfl⟩, ?_⟩
            rintro r' m' ⟨rfl, rfl⟩
            have := putE_ok ht
            unfold ES.st at hK ⊢
            rw [← this]; exact hK
          · cases h
        · cases h
      · cases h
    · rename_i f hop
      rw [hop]
      simp only [sem]
      split at h
      · rename_i size e y hTf hv
        rw [hv]
        split at h
        · rename_i n xs hrd
          cases hcl : V.clean xs with
          | false => rw [hcl, Bool.false_and] at h; cases h
          | true =>
            rw [hcl, Bool.true_and] at h
            cases hble : Nat.ble n 1000000 with
            | false => rw [hble] at h; cases h
            | true =>
            have hle := Nat.le_of_ble_eq_true hble
            rw [hble, cond_true] at h
            have hB : BFnM P G base vi.mode f [y] n xs e s.st.m := by
              unfold BFnM
              split
              · exact hT.cln f size e hTf _ _ _ _ (rdV_rdS hrd fun _ _ => rfl) hcl hle
              · rename_i anc hmd
                intro m' ha hn
                rw [hmd] at hrd
                exact hT.cln f size e hTf _ _ _ _ (rdV_rdS hrd fun i hi => ha i (by simpa only [rdable, Bool.or_eq_true, decide_eq_true_eq, List.contains_iff_mem] using hi)) hcl hle
            refine ⟨_, n, xs, e, .inl rfl, hB, ?_⟩
            by_cases hn : n = 0
            · subst hn
              rw [if_pos rfl]
              rw [show Nat.beq 0 0 = true from rfl, cond_true] at h
              split at h
              · rename_i t ht
                cases h
                have := putE_ok ht
                unfold ES.st at hK ⊢
                rw [← this]; exact hK
              · cases h
            · rw [if_neg hn]
              rw [show Nat.beq n 0 = false from by rw [← Bool.not_eq_true]; exact fun e => hn (Nat.eq_of_beq_eq_true e), cond_false] at h
              split at h
              · rename_i o t hu ht
                cases h
                have h1 := putE_ok ht
                have h2 := updT_ok s.nx hu
                unfold ES.st at hK ⊢
                rw [← h1, ← updM_put, ← h2]; exact hK
              · cases h
        · cases h
      · rename_i vals hne
        split at h
        · rename_i us hu
          cases hp : V.pures us with
          | false => rw [hp] at h; cases h
          | true =>
            rw [hp, cond_true] at h
            have hvw : ∀ m', (∀ i, (match vi.mode with | none => allS | some anc => seen anc base) i = true → m'.obj i = s.st.m.obj i) → Vws m' (match vi.mode with | none => allS | some anc => seen anc base) (vi.args.map s.st.ev) us :=
              fun m' hm' => (Vw.agree (m := s.st.m) hm').2 _ _ (mapO_ok (view_ok _ _ _) _ _ hu)
            have hag : ∀ anc, vi.mode = some anc → ∀ m', Agree base anc s.st.m m' → ∀ i, (match vi.mode with | none => allS | some anc => seen anc base) i = true → m'.obj i = s.st.m.obj i := fun anc ha m' hA i hi => by
              rw [ha] at hi
              refine hA i ?_
              simpa only [seen, Bool.or_eq_true, decide_eq_true_eq, List.contains_iff_mem] using hi
            have hBM : ∀ n xs e, (∀ m', Vws m' (match vi.mode with | none => allS | some anc => seen anc base) (vi.args.map s.st.ev) us → SFn P G f (vi.args.map s.st.ev) m' (BPost n xs e m')) → BFnM P G base vi.mode f (vi.args.map s.st.ev) n xs e s.st.m := fun n xs e hB => by
              unfold BFnM
              split
              · exact hB _ (hvw _ fun _ _ => rfl)
              · rename_i anc ha
                exact fun m' hA hn => hB m' (hvw m' (hag anc ha m' hA))
            split at h
            · rename_i o0 nx0 hf
              have h1 := evF_ok hT hec hf
              split at h
              · rename_i t ht
                cases h
                refine ⟨_, 0, [], 0, .inl rfl, hBM _ _ _ fun m' hv => Fn.lendB0 ((show SFn P G f us M0 _ from h1).mono (by rintro r' m' ⟨rfl, rfl⟩; rfl)) _ hv, ?_⟩
                rw [if_pos rfl]
                have := putE_ok ht
                unfold ES.st at hK ⊢
                rw [← this]; exact hK
              · cases h
            · rename_i i n sz o0 nx0 hf
              have h1 := evF_ok hT hec hf
              split at h
              · rename_i xs e hob
                cases hc : (!Nat.beq n 0) && (V.drys xs && xs.all V.one) with
                | false => rw [hc] at h; cases h
                | true =>
                  rw [hc, cond_true] at h
                  rw [Bool.and_eq_true, Bool.and_eq_true] at hc
                  have hn : n ≠ 0 := by rintro rfl; cases hc.1
                  split at h
                  · rename_i o t hu2 ht
                    cases h
                    refine ⟨_, n, xs, e, .inl rfl, hBM _ _ _ fun m' hv => Fn.lendB ((show SFn P G f us M0 _ from h1).mono (by rintro r' m' ⟨rfl, rfl⟩; exact ⟨i, rfl, hob⟩)) hn hc.2.1 hc.2.2 _ hv, ?_⟩
                    rw [if_neg hn]
                    have h1 := putE_ok ht
                    have h2 := updT_ok s.nx hu2
                    unfold ES.st at hK ⊢
                    rw [← h1, ← updM_put, ← h2]; exact hK
                  · cases h
              · cases h
            · cases h
        · cases h
    · split at h
      · rename_i r us hc
        split at h
        · rename_i o t hu ht
          cases h
          refine evOp_sem hc ?_
          have h1 := putE_ok ht
          have h2 := updT_ok s.nx hu
          unfold ES.st at hK ⊢
          show K ⟨putT (stT s.t) vi.dst r, updM (mmT s.o s.nx) us⟩
          rw [← h1, ← h2]; exact hK
        · cases h
      · cases h
theorem evR_ok (hT : TabOk P G T) {ec : VC → ES → Option (VX × ES)} (hec : GoodE P G ec) {base : Nat} : ∀ {l : List VI} {i : Nat} {s s' : ES}, evR T ec base l i s = some s' → ∀ {K : St → Prop}, K s'.st → vrun P G base i l s.st K
  | [], i, s, s', h, K, hK => by rw [evR] at h; cases h; rw [vrun]; exact hK
  | vi :: l, i, s, s', h, K, hK => by
    rw [evR] at h
    rw [vrun]
    split at h
    · rename_i s1 h1
      exact evI_ok hT hec h1 (evR_ok hT hec h hK)
    · cases h

theorem least {p : Nat → Prop} (h : ∃ n, p n) : ∃ n, p n ∧ ∀ m, p m → n ≤ m := by
  obtain ⟨n, hn⟩ := h
  induction n using Nat.strongRecOn with
  | ind n ih =>
    by_cases hx : ∃ m, m < n ∧ p m
    · obtain ⟨m, hm, hp⟩ := hx; exact ih m hm hp
    · exact ⟨n, hn, fun m hm => Nat.le_of_not_lt fun hlt => hx ⟨m, hlt, hm⟩⟩

theorem evC_ok (hT : TabOk P G T) : ∀ n, GoodE P G (evC T n) := by
  intro n
  induction n using Nat.strongRecOn with
  | ind n ih =>
  cases n with
  | zero => intro c s e s' h; rw [evC] at h; cases h
  | succ n =>
    have ihn := ih n (Nat.lt_succ_self n)
    intro c s e s' h Q hQ
    cases c with
    | skip => rw [evC] at h; cases h; rw [VC.vx]; exact hQ
    | ret => rw [evC] at h; cases h; rw [VC.vx]; exact hQ
    | exit id => rw [evC] at h; cases h; rw [VC.vx]; exact hQ
    | bad => rw [evC] at h; cases h
    | scope b => rw [evC] at h; rw [VC.vx]; exact ihn _ _ _ _ h Q hQ
    | ops k l =>
      rw [evC] at h
      rw [VC.vx]
      split at h
      · rename_i s1 h1
        cases h
        exact evR_ok (s := ⟨s.t, s.o, s.nx + k⟩) hT ihn h1 hQ
      · cases h
    | seq a b =>
      rw [evC] at h
      rw [VC.vx]
      split at h
      · rename_i s1 h1
        exact ihn _ _ _ _ h1 _ (ihn _ _ _ _ h Q hQ)
      · rename_i hne
        refine ihn _ _ _ _ h _ ?_
        cases e with
        | nrm => exact absurd h (hne s')
        | exit i => exact hQ
        | ret => exact hQ
    | cond c a b =>
      rw [evC] at h
      rw [VC.vx]
      split at h
      · rename_i hc; rw [hc]; exact ihn _ _ _ _ h Q hQ
      · rename_i hc; rw [hc]; exact ihn _ _ _ _ h Q hQ
      · cases h
    | block id b =>
      rw [evC] at h
      rw [VC.vx]
      split at h
      · rename_i i s1 h1
        refine ihn _ _ _ _ h1 _ ?_
        show if i = id then Q .nrm s1.st else Q (.exit i) s1.st
        by_cases hi : i = id
        · subst hi
          rw [if_pos rfl]
          rw [show Nat.beq i i = true from Nat.beq_refl i, cond_true] at h
          cases h; exact hQ
        · rw [if_neg hi]
          rw [show Nat.beq i id = false from by rw [← Bool.not_eq_true]; exact fun e => hi (Nat.eq_of_beq_eq_true e), cond_false] at h
          cases h; exact hQ
      · rename_i hne
        refine ihn _ _ _ _ h _ ?_
        cases e with
        | nrm => exact hQ
        | exit i => exact absurd h (hne i s')
        | ret => exact hQ
    | rangeF nt f ps az bd =>
      rw [evC] at h
      rw [VC.vx]
      split at h
      · rename_i g cs hf
        rw [hf]
        split at h
        · rename_i o1 hu1
          split at h
          · rename_i r0 o2 nx2 hF
            refine ⟨evF_callable hT hF, fun r' m' => r' = r0 ∧ m' = mmT o2 nx2, ?_, ?_⟩
            · have := evF_ok hT ihn hF
              rw [updT_ok (s.nx + 1) hu1] at this
              exact this
            · rintro r' m' ⟨rfl, rfl⟩
              unfold afterF
              split at h
              · rename_i ho2
                rw [show (mmT o2 nx2).obj s.st.m.next = o2.get (s.nx + 1) from rfl, ho2]
                rw [Option.map_eq_some_iff] at h
                obtain ⟨o3, hu3, e⟩ := h
                cases e
                unfold ES.st at hQ
                rw [updT_ok nx2 hu3] at hQ
                exact hQ
              · rename_i ho2
                rw [show (mmT o2 nx2).obj s.st.m.next = o2.get (s.nx + 1) from rfl, ho2]
                rw [Option.map_eq_some_iff] at h
                obtain ⟨o3, hu3, e⟩ := h
                cases e
                unfold ES.st at hQ
                rw [updT_ok nx2 hu3] at hQ
                exact hQ
              · rename_i ho2
                rw [show (mmT o2 nx2).obj s.st.m.next = o2.get (s.nx + 1) from rfl, ho2]
                rw [Option.map_eq_some_iff] at h
                obtain ⟨o3, hu3, e⟩ := h
                cases e
                unfold ES.st at hQ
                rw [updT_ok nx2 hu3] at hQ
                exact hQ
              · cases h
          · cases h
        · cases h
      · cases h
    | loop b =>
      rw [VC.vx]
      let R : St → Nat → Prop := fun x j => ∃ y : ES, y.st = x ∧ j ≤ n + 1 ∧ evC T j (.loop b) y = some (e, s')
      have hl : ∀ x, ∃ k, (∃ j, R x j) → R x k ∧ ∀ m, R x m → k ≤ m := fun x => by
        by_cases hx : ∃ j, R x j
        · obtain ⟨k, h1, h2⟩ := least hx; exact ⟨k, fun _ => ⟨h1, h2⟩⟩
        · exact ⟨0, fun h => absurd h hx⟩
      obtain ⟨μ, hμ⟩ : ∃ μ : St → Nat, ∀ x, (∃ j, R x j) → R x (μ x) ∧ ∀ m, R x m → μ x ≤ m := ⟨fun x => Classical.choose (hl x), fun x => Classical.choose_spec (hl x)⟩
      refine ⟨fun x => ∃ j, R x j, μ, ⟨n + 1, s, rfl, Nat.le_refl _, h⟩, fun x hx => ?_⟩
      obtain ⟨⟨y, hy, hj, hev⟩, hmin⟩ := hμ x hx
      generalize μ x = k at hj hev hmin ⊢
      cases k with
      | zero => rw [evC] at hev; cases hev
      | succ k =>
        rw [evC] at hev
        subst hy
        have ihk := ih k (by omega)
        split at hev
        · rename_i s1 h1
          refine ihk _ _ _ _ h1 _ ?_
          rw [then_nrm]
          have hR : R s1.st k := ⟨s1, rfl, by omega, hev⟩
          refine ⟨⟨k, hR⟩, ?_⟩
          exact Nat.lt_succ_of_le ((hμ _ ⟨k, hR⟩).2 k hR)
        · rename_i hne
          refine ihk _ _ _ _ hev _ ?_
          cases e with
          | nrm => exact absurd hev (hne s')
          | exit i => exact hQ
          | ret => exact hQ
/-- A call of a function on values without boxes, run outright. -/
theorem Fn.of_ev (hT : TabOk P G T) (n : Nat) {f : Nat} {vals : List V} {r : V} (hp : V.pures vals = true) (hd : r.dry = true) (h : (evF T (evC T n) f vals .e 0).map (·.1) = some r) : Fn P G f vals r := by
  rw [Option.map_eq_some_iff] at h
  obtain ⟨⟨r', o, nx⟩, h, rfl⟩ := h
  exact Fn.of_empty hp ((show SFn P G f vals M0 _ from evF_ok hT (evC_ok hT n) h).mono (by rintro r' m' ⟨rfl, rfl⟩; exact Vw.of_dry hd))
end
/-- Texts of functions, listed. -/
def lkp : List (Nat × Fd) → Nat → Option Fe
  | [], _ => none
  | (k, d) :: l, f => bif Nat.beq k f then some (.code d) else lkp l f
def Okl (P : Program) (tab : Nat → List V) : List (Nat × Fd) → Prop
  | [] => True
  | (k, d) :: l => (callable P k = true ∧ ∃ bx, Comp P bx tab k d.nt d.c d.rs) ∧ Okl P tab l
theorem lkp_ok {P : Program} {tab : Nat → List V} : ∀ {l : List (Nat × Fd)} {f : Nat} {x : Fe}, Okl P tab l → lkp l f = some x → ∃ d, x = .code d ∧ callable P f = true ∧ ∃ bx, Comp P bx tab f d.nt d.c d.rs
  | [], f, x, _, h => by rw [lkp] at h; cases h
  | (k, d) :: l, f, x, ho, h => by
    rw [lkp] at h
    rw [Okl] at ho
    cases hb : Nat.beq k f with
    | true =>
      rw [hb, cond_true] at h
      cases h
      have := Nat.eq_of_beq_eq_true hb
      subst this
      exact ⟨d, rfl, ho.1⟩
    | false => rw [hb, cond_false] at h; exact lkp_ok ho.2 h
theorem TabOk.of_list {P : Program} {G : Ground} {l : List (Nat × Fd)} (h : Okl P G.tab l) : TabOk P G (lkp l) where
  call f x hx _ _ := by obtain ⟨d, _, h1, _⟩ := lkp_ok h hx; exact h1
  rnd f C hx := by obtain ⟨d', e, _⟩ := lkp_ok h hx; cases e
  code f d hx := by obtain ⟨d', e, _, h2⟩ := lkp_ok h hx; cases e; exact h2
  cln f size e hx := by obtain ⟨d', e, _⟩ := lkp_ok h hx; cases e
  prim f g hx := by obtain ⟨d', e, _⟩ := lkp_ok h hx; cases e
/-- Functions that copy rows, beside the others. -/
def cloned (l : List (Nat × Nat × TypeId)) (T : Nat → Option Fe) (g : Nat) : Option Fe :=
  match l.find? fun p => Nat.beq (p.1 + clb) g with
  | some p => some (.cln p.2.1 p.2.2)
  | none => T g
theorem TabOk.cloned {P : Program} {G : Ground} {T : Nat → Option Fe} (hT : TabOk P G T) {l : List (Nat × Nat × TypeId)}
    (h : ∀ p ∈ l, ∀ m y n xs, rdS m p.2.1 y = some (n, xs) → V.clean xs = true → n ≤ 1000000 → SFn P G p.1 [y] m (BPost n xs p.2.2 m)) : TabOk P G (cloned l T) := by
  have key : ∀ g x, Go.Proofs.YtdefefeifcdogaaGreat.cloned l T g = some x → (∃ p ∈ l, p.1 + clb = g ∧ x = .cln p.2.1 p.2.2) ∨ T g = some x := by
    intro g x hx
    unfold Go.Proofs.YtdefefeifcdogaaGreat.cloned at hx
    split at hx
    · rename_i p hp
      cases hx
      exact .inl ⟨p, List.mem_of_find?_eq_some hp, Nat.eq_of_beq_eq_true (by have := List.find?_some hp; exact this), rfl⟩
    · exact .inr hx
  constructor
  · intro f x hx h1 h2
    rcases key f x hx with ⟨p, _, _, e⟩ | hx
    · exact absurd e (h2 _ _)
    · exact hT.call f x hx h1 h2
  · intro f C hx
    rcases key f _ hx with ⟨p, _, _, e⟩ | hx
    · cases e
    · exact hT.rnd f C hx
  · intro f d hx
    rcases key f _ hx with ⟨p, _, _, e⟩ | hx
    · cases e
    · exact hT.code f d hx
  · intro f size e hx
    rcases key _ _ hx with ⟨p, hp, e1, e⟩ | hx
    · cases e
      have := Nat.add_right_cancel e1
      subst this
      exact h p hp
    · exact hT.cln f size e hx
  · intro f g hx
    rcases key f _ hx with ⟨p, _, _, e⟩ | hx
    · cases e
    · exact hT.prim f g hx
end
end Go.Proofs.YtdefefeifcdogaaGreat
set_option linter.unusedSimpArgs false
set_option linter.unusedVariables false
namespace Go.Proofs.YtdefefeifcdogaaGreat
open Go.RowKit

/-- A fact that the walk is not to use. -/
structure Hid (p : Prop) : Prop where
  out : p
def VI.wr (vi : VI) (j : Nat) : Bool := match vi.dst with | some d => d == j | none => false
/-- Is this slot written? -/
def VC.wr : VC → Nat → Bool
  | .ops _ l, j => l.any fun vi => vi.wr j
  | .seq a b, j => a.wr j || b.wr j
  | .cond _ a b, j => a.wr j || b.wr j
  | .block _ b, j => b.wr j
  | .loop b, j => b.wr j
  | .scope b, j => b.wr j
  | _, _ => false
/-- The slots that are written. -/
def VC.wrs : VC → List Nat
  | .ops _ l => l.filterMap (·.dst)
  | .seq a b => a.wrs ++ b.wrs
  | .cond _ a b => a.wrs ++ b.wrs
  | .block _ b => b.wrs
  | .loop b => b.wrs
  | .scope b => b.wrs
  | _ => []
theorem wr_wrs : ∀ {c : VC} {j : Nat}, c.wr j = true → j ∈ c.wrs
  | .ops _ l, j, h => by
    rw [VC.wr, List.any_eq_true] at h
    obtain ⟨vi, hv, h⟩ := h
    rw [VC.wrs, List.mem_filterMap]
    refine ⟨vi, hv, ?_⟩
    unfold VI.wr at h
    split at h
    · rename_i d hd; rw [hd, eq_of_beq h]
    · cases h
  | .seq a b, j, h => by rw [VC.wr, Bool.or_eq_true] at h; rw [VC.wrs, List.mem_append]; exact h.imp wr_wrs wr_wrs
  | .cond _ a b, j, h => by rw [VC.wr, Bool.or_eq_true] at h; rw [VC.wrs, List.mem_append]; exact h.imp wr_wrs wr_wrs
  | .block _ b, j, h => by rw [VC.wr] at h; rw [VC.wrs]; exact wr_wrs h
  | .loop b, j, h => by rw [VC.wr] at h; rw [VC.wrs]; exact wr_wrs h
  | .scope b, j, h => by rw [VC.wr] at h; rw [VC.wrs]; exact wr_wrs h
  | .skip, j, h => by simp [VC.wr] at h
  | .ret, j, h => by simp [VC.wr] at h
  | .exit _, j, h => by simp [VC.wr] at h
  | .bad, j, h => by simp [VC.wr] at h
  | .rangeF _ _ _ _ _, j, h => by simp [VC.wr] at h

section
variable {P : Program} {G : Ground}
theorem afterF_mono {i : Nat} {t : Nat → V} {Q Q' : VX → St → Prop} {m : Mm} (h : afterF i t Q m) (hk : ∀ e s', Q e s' → s'.t = t → Q' e s') : afterF i t Q' m := by
  unfold afterF at h ⊢
  split at h
  · exact hk _ _ h rfl
  · exact hk _ _ h rfl
  · exact hk _ _ h rfl
  · exact h.elim
theorem vx_mono : ∀ {c : VC} {Q Q' : VX → St → Prop} {s : St}, c.vx P G Q s → (∀ e s', Q e s' → Q' e s') → c.vx P G Q' s
  | .skip, Q, Q', s, h, hk => by rw [VC.vx] at h ⊢; exact hk _ _ h
  | .ret, Q, Q', s, h, hk => by rw [VC.vx] at h ⊢; exact hk _ _ h
  | .exit _, Q, Q', s, h, hk => by rw [VC.vx] at h ⊢; exact hk _ _ h
  | .bad, Q, Q', s, h, hk => by rw [VC.vx] at h; exact h.elim
  | .ops k l, Q, Q', s, h, hk => by
    rw [VC.vx] at h ⊢
    have gen : ∀ (l : List VI) (i base : Nat) (s : St) (K K' : St → Prop), vrun P G base i l s K → (∀ s', K s' → K' s') → vrun P G base i l s K' := by
      intro l
      induction l with
      | nil => intro i base s K K' h hk; rw [vrun] at h ⊢; exact hk _ h
      | cons vi l ih => intro i base s K K' h hk; rw [vrun] at h ⊢; exact vstep_mono h fun s' h' => ih _ _ _ _ _ h' hk
    exact gen l _ _ _ _ _ h fun s' => hk _ s'
  | .seq a b, Q, Q', s, h, hk => by
    rw [VC.vx] at h ⊢
    refine vx_mono h fun e s' h' => ?_
    cases e with
    | nrm => exact vx_mono (c := b) h' hk
    | exit i => exact hk _ _ h'
    | ret => exact hk _ _ h'
  | .cond c a b, Q, Q', s, h, hk => by
    rw [VC.vx] at h ⊢
    split at h
    · split at h
      · rename_i h1; rw [if_pos h1]; exact vx_mono h hk
      · rename_i h1; rw [if_neg h1]; exact vx_mono h hk
    · exact h
  | .block id b, Q, Q', s, h, hk => by
    rw [VC.vx] at h ⊢
    refine vx_mono h fun e s' h' => ?_
    cases e with
    | nrm => exact hk _ _ h'
    | ret => exact hk _ _ h'
    | exit i =>
      show if i = id then Q' .nrm s' else Q' (.exit i) s'
      have h' : if i = id then Q .nrm s' else Q (.exit i) s' := h'
      split at h'
      · rename_i h1; rw [if_pos h1]; exact hk _ _ h'
      · rename_i h1; rw [if_neg h1]; exact hk _ _ h'
  | .loop b, Q, Q', s, h, hk => by
    rw [VC.vx] at h ⊢
    obtain ⟨I, μ, h0, h⟩ := h
    refine ⟨I, μ, h0, fun s' hs' => vx_mono (h s' hs') fun e s2 h2 => ?_⟩
    cases e with
    | nrm => exact h2
    | exit i => exact hk _ _ h2
    | ret => exact hk _ _ h2
  | .scope b, Q, Q', s, h, hk => by rw [VC.vx] at h ⊢; exact vx_mono h hk
  | .rangeF nt f ps az bd, Q, Q', s, h, hk => by
    rw [VC.vx] at h ⊢
    split at h
    · obtain ⟨hc, Post, hS, hA⟩ := h
      exact ⟨hc, Post, hS, fun r m' hp => afterF_mono (hA r m' hp) fun e s' hq _ => hk e s' hq⟩
    · exact h.elim

theorem vstep_frame {base i : Nat} {vi : VI} {s : St} {K : St → Prop} (h : vstep P G base i vi s K) : vstep P G base i vi s fun s' => K s' ∧ ∀ j, vi.wr j = false → s'.t j = s.t j := by
  have put : ∀ (r : V) (j : Nat), vi.wr j = false → putT s.t vi.dst r j = s.t j := fun r j hj => by
    unfold VI.wr at hj
    split at hj
    · rename_i d hd
      rw [hd, putT_get, if_neg]
      rintro rfl
      simp at hj
    · rename_i hd; rw [hd]; rfl
  unfold vstep at h ⊢
  split at h
  · rename_i ho
    rw [if_pos ho]
    exact sem_mono h fun r m' hK => ⟨hK, put r⟩
  · rename_i ho
    rw [if_neg ho]
    exact ⟨h, put _⟩
theorem vrun_frame {base : Nat} : ∀ {l : List VI} {i : Nat} {s : St} {K : St → Prop}, vrun P G base i l s K → vrun P G base i l s fun s' => K s' ∧ ∀ j, (l.any fun vi => vi.wr j) = false → s'.t j = s.t j
  | [], i, s, K, h => by rw [vrun] at h ⊢; exact ⟨h, fun _ _ => rfl⟩
  | vi :: l, i, s, K, h => by
    rw [vrun] at h ⊢
    refine vstep_mono (vstep_frame h) fun s1 ⟨h1, h2⟩ => ?_
    have gen : ∀ (l : List VI) (i : Nat) (s : St) (K K' : St → Prop), vrun P G base i l s K → (∀ s', K s' → K' s') → vrun P G base i l s K' := by
      intro l
      induction l with
      | nil => intro i s K K' h hk; rw [vrun] at h ⊢; exact hk _ h
      | cons vi l ih => intro i s K K' h hk; rw [vrun] at h ⊢; exact vstep_mono h fun s' h' => ih _ _ _ _ h' hk
    refine gen _ _ _ _ _ (vrun_frame h1) fun s2 ⟨h3, h4⟩ => ⟨h3, fun j hj => ?_⟩
    rw [List.any_cons, Bool.or_eq_false_iff] at hj
    rw [h4 j hj.2, h2 j hj.1]
/-- Slots that are not written stay. -/
theorem vx_frame : ∀ {c : VC} {Q : VX → St → Prop} {s : St}, c.vx P G Q s → c.vx P G (fun e s' => Q e s' ∧ ∀ j, c.wr j = false → s'.t j = s.t j) s
  | .skip, Q, s, h => by rw [VC.vx] at h ⊢; exact ⟨h, fun _ _ => rfl⟩
  | .ret, Q, s, h => by rw [VC.vx] at h ⊢; exact ⟨h, fun _ _ => rfl⟩
  | .exit _, Q, s, h => by rw [VC.vx] at h ⊢; exact ⟨h, fun _ _ => rfl⟩
  | .bad, Q, s, h => by rw [VC.vx] at h; exact h.elim
  | .ops k l, Q, s, h => by rw [VC.vx] at h ⊢; exact vrun_frame h
  | .seq a b, Q, s, h => by
    rw [VC.vx] at h ⊢
    refine vx_mono (vx_frame h) fun e s' ⟨h1, h2⟩ => ?_
    cases e with
    | nrm =>
      refine vx_mono (vx_frame (c := b) h1) fun e s2 ⟨h3, h4⟩ => ⟨h3, fun j hj => ?_⟩
      rw [VC.wr, Bool.or_eq_false_iff] at hj
      rw [h4 j hj.2, h2 j hj.1]
    | exit i => exact ⟨h1, fun j hj => h2 j (by rw [VC.wr, Bool.or_eq_false_iff] at hj; exact hj.1)⟩
    | ret => exact ⟨h1, fun j hj => h2 j (by rw [VC.wr, Bool.or_eq_false_iff] at hj; exact hj.1)⟩
  | .cond c a b, Q, s, h => by
    rw [VC.vx] at h ⊢
    split at h
    · split at h
      · rename_i h1; rw [if_pos h1]; exact vx_mono (vx_frame h) fun e s' ⟨h2, h3⟩ => ⟨h2, fun j hj => h3 j (by rw [VC.wr, Bool.or_eq_false_iff] at hj; exact hj.1)⟩
      · rename_i h1; rw [if_neg h1]; exact vx_mono (vx_frame h) fun e s' ⟨h2, h3⟩ => ⟨h2, fun j hj => h3 j (by rw [VC.wr, Bool.or_eq_false_iff] at hj; exact hj.2)⟩
    · exact h
  | .block id b, Q, s, h => by
    rw [VC.vx] at h ⊢
    refine vx_mono (vx_frame h) fun e s' ⟨h1, h2⟩ => ?_
    cases e with
    | nrm => exact ⟨h1, h2⟩
    | ret => exact ⟨h1, h2⟩
    | exit i =>
      show if i = id then _ else _
      have h1 : if i = id then Q .nrm s' else Q (.exit i) s' := h1
      split at h1
      · rename_i h3; rw [if_pos h3]; exact ⟨h1, h2⟩
      · rename_i h3; rw [if_neg h3]; exact ⟨h1, h2⟩
  | .loop b, Q, s, h => by
    rw [VC.vx] at h ⊢
    obtain ⟨I, μ, h0, h⟩ := h
    refine ⟨fun s' => I s' ∧ ∀ j, b.wr j = false → s'.t j = s.t j, μ, ⟨h0, fun _ _ => rfl⟩, fun s' ⟨hs', hf⟩ => vx_mono (vx_frame (h s' hs')) fun e s2 ⟨h2, h3⟩ => ?_⟩
    have h4 : ∀ j, b.wr j = false → s2.t j = s.t j := fun j hj => (h3 j hj).trans (hf j hj)
    cases e with
    | nrm => exact ⟨⟨h2.1, h4⟩, h2.2⟩
    | exit i => exact ⟨h2, h4⟩
    | ret => exact ⟨h2, h4⟩
  | .scope b, Q, s, h => by rw [VC.vx] at h ⊢; exact vx_frame h
  | .rangeF nt f ps az bd, Q, s, h => by
    rw [VC.vx] at h ⊢
    split at h
    · obtain ⟨hc, Post, hS, hA⟩ := h
      exact ⟨hc, Post, hS, fun r m' hp => afterF_mono (hA r m' hp) fun e s' hq ht => ⟨hq, fun j _ => by rw [ht]⟩⟩
    · exact h.elim

/-- The slots of a mask from t, the others from t0. -/
def mix (w : Nat) (t t0 : Nat → V) : Nat → V := fun j => if w / 2 ^ j % 2 = 1 then t j else t0 j
theorem mix_get (w : Nat) (t t0 : Nat → V) (j : Nat) : mix w t t0 j = if w / 2 ^ j % 2 = 1 then t j else t0 j := rfl
def inMask (w : Nat) (c : VC) : Bool := c.wrs.all fun j => w / 2 ^ j % 2 == 1
theorem mix_self (w : Nat) (t : Nat → V) : mix w t t = t := by
  funext j
  rw [mix_get, ite_self]
theorem mix_of {w : Nat} {c : VC} (hw : inMask w c = true) {t t0 t' : Nat → V} (h : ∀ j, c.wr j = false → t' j = mix w t t0 j) : t' = mix w t' t0 := by
  funext j
  rw [mix_get]
  split
  · rfl
  · rename_i hj
    cases hc : c.wr j with
    | true =>
      have := List.all_eq_true.1 hw j (wr_wrs hc)
      exact absurd (eq_of_beq this) hj
    | false => rw [h j hc, mix_get, if_neg hj]
/-- A round is over. -/
def Nx (N : Nat) (I : Nat → (Nat → V) → Mm → Prop) (k : Nat) (s : St) : Prop := k < N ∧ I (k + 1) s.t s.m
theorem nx {N : Nat} {I : Nat → (Nat → V) → Mm → Prop} {k : Nat} {s : St} (h1 : k < N) (h2 : I (k + 1) s.t s.m) : Nx N I k s := ⟨h1, h2⟩
/-- A LOOP: at round k of at most N. Only slots of the mask w change. -/
theorem x_loopW {b : VC} {Q : VX → St → Prop} {s : St} (w : Nat) (hw : inMask w b = true) (N : Nat) (I : Nat → (Nat → V) → Mm → Prop) (h0 : I 0 s.t s.m)
    (h : ∀ k t m, k ≤ N → I k t m → b.vx P G (VX.then (Nx N I k) Q) ⟨mix w t s.t, m⟩) : (VC.loop b).vx P G Q s := by
  let R : St → Nat → Prop := fun x n => ∃ k t, x.t = mix w t s.t ∧ k ≤ N ∧ I k t x.m ∧ n = N - k
  have hl : ∀ x, ∃ k, (∃ j, R x j) → R x k ∧ ∀ m, R x m → k ≤ m := fun x => by
    by_cases hx : ∃ j, R x j
    · obtain ⟨k, h1, h2⟩ := least hx; exact ⟨k, fun _ => ⟨h1, h2⟩⟩
    · exact ⟨0, fun h => absurd h hx⟩
  obtain ⟨μ, hμ⟩ : ∃ μ : St → Nat, ∀ x, (∃ j, R x j) → R x (μ x) ∧ ∀ m, R x m → μ x ≤ m := ⟨fun x => Classical.choose (hl x), fun x => Classical.choose_spec (hl x)⟩
  refine x_loop (fun x => ∃ n, R x n) μ ⟨N, 0, s.t, (mix_self _ _).symm, Nat.zero_le _, h0, by omega⟩ ?_
  intro x hx
  obtain ⟨⟨k, t, ht, hk, hI, hn⟩, _⟩ := hμ x hx
  generalize μ x = n at hn ⊢
  obtain ⟨xt, xm⟩ := x
  dsimp only at ht hI
  subst ht
  refine vx_mono (vx_frame (h k t xm hk hI)) fun e s' ⟨h1, h2⟩ => ?_
  cases e with
  | nrm =>
    rw [then_nrm] at h1 ⊢
    have hR : R s' (N - (k + 1)) := ⟨k + 1, s'.t, mix_of hw h2, h1.1, h1.2, rfl⟩
    refine ⟨⟨_, hR⟩, ?_⟩
    have := (hμ s' ⟨_, hR⟩).2 _ hR
    have := h1.1
    omega
  | exit i => exact h1
  | ret => exact h1

/-- A round is over, memory is az it was. -/
def Nf (N : Nat) (I : Nat → (Nat → V) → Prop) (m : Mm) (k : Nat) (s : St) : Prop := k < N ∧ I (k + 1) s.t ∧ s.m = m
theorem nf {N : Nat} {I : Nat → (Nat → V) → Prop} {m : Mm} {k : Nat} {s : St} (h1 : k < N) (h2 : I (k + 1) s.t) (h3 : s.m = m) : Nf N I m k s := ⟨h1, h2, h3⟩
/-- A LOOP that leaves memory alone. -/
theorem x_loopF {b : VC} {Q : VX → St → Prop} {s : St} (w : Nat) (hw : inMask w b = true) (N : Nat) (I : Nat → (Nat → V) → Prop) (h0 : I 0 s.t)
    (h : ∀ k t, k ≤ N → I k t → b.vx P G (VX.then (Nf N I s.m k) Q) ⟨mix w t s.t, s.m⟩) : (VC.loop b).vx P G Q s := by
  refine x_loopW w hw N (fun k t m => I k t ∧ m = s.m) ⟨h0, rfl⟩ ?_
  rintro k t m hk ⟨hI, rfl⟩
  refine vx_mono (h k t hk hI) fun e s' h' => ?_
  cases e with
  | nrm => exact ⟨h'.1, h'.2⟩
  | exit i => exact h'
  | ret => exact h'

theorem goR_guard {base : Nat} {K : St → Prop} {c : Prop} [Decidable c] {x y : Option St} {l : List VI} {i : Nat} (h1 : c → goR P G base x l i K) (h2 : ¬ c → goR P G base y l i K) : goR P G base (if c then x else y) l i K := by
  split
  · rename_i h; exact h1 h
  · rename_i h; exact h2 h
theorem vrun_guard {base : Nat} {K : St → Prop} {d : Option Nat} {g : Nat} {w : Bool} {op : VO} {args : List Opd} {md : Option (List Nat)} {l : List VI} {i : Nat} {s : St} {b : Bool} (hb : s.t g = .lit (.bool b))
    (h1 : b = w → vrun P G base i (⟨d, none, op, args, md⟩ :: l) s K) (h2 : b ≠ w → goR P G base (some ⟨putT s.t d vund, s.m⟩) l (i + 1) K) : vrun P G base i (⟨d, some (g, w), op, args, md⟩ :: l) s K := by
  by_cases h : b = w
  · have := h1 h
    rw [vrun] at this ⊢
    unfold vstep VI.on at this ⊢
    simp only [if_true, hb, onB] at this ⊢
    rw [if_pos (by simp [h])]
    exact this
  · have := goR_vrun l (i + 1) _ (h2 h)
    rw [vrun]
    unfold vstep VI.on
    simp only [hb, onB]
    rw [if_neg (by simp [h])]
    exact this
theorem finV_lit {rs : List VRes} {v w : Value} {s' : St} (h1 : resV s' rs = some (.lit v)) (h2 : v = w) : FinV rs (.lit w) .ret s' := by subst h2; exact finV_ret h1 (.lit _)
theorem w_add1 {k : Nat} (h : k ≤ 4611686018427387904) : IntKind.i64.wrap ((k : Int) + 1) = ((k + 1 : Nat) : Int) := by rw [IntWalk.i64_in _ (by omega)]; omega
theorem w_sub1 {k : Nat} (h0 : 0 < k) (h : k ≤ 4611686018427387904) : IntKind.i64.wrap ((k : Int) - 1) = ((k - 1 : Nat) : Int) := by rw [IntWalk.i64_in _ (by omega)]; omega
theorem w_in {a : Int} (h : -9223372036854775808 ≤ a ∧ a ≤ 9223372036854775807) : IntKind.i64.wrap a = a := IntWalk.i64_in _ h
end
/-! ### Rows of records -/
section
variable {α : Type}
theorem flat_len {enc : α → List V} {sz : Nat} (he : ∀ x, (enc x).length = sz) (l : List α) : (l.flatMap enc).length = l.length * sz := by
  induction l with
  | nil => simp
  | cons a l ih => rw [List.flatMap_cons, List.length_append, ih, he, List.length_cons, Nat.add_mul]; omega
theorem flat_at {enc : α → List V} {sz : Nat} (he : ∀ x, (enc x).length = sz) (d : α) : ∀ {l : List α} {k j : Nat}, k < l.length → j < sz → (l.flatMap enc)[k * sz + j]? = (enc (l.getD k d))[j]?
  | [], k, j, h, _ => by simp at h
  | a :: l, 0, j, _, hj => by rw [List.flatMap_cons, Nat.zero_mul, Nat.zero_add, List.getElem?_append_left (by rw [he]; exact hj)]; rfl
  | a :: l, k + 1, j, h, hj => by
    rw [List.flatMap_cons, List.getElem?_append_right (by rw [he, Nat.add_mul]; omega), he, show (k + 1) * sz + j - sz = k * sz + j by rw [Nat.add_mul]; omega, flat_at he d (by simpa using h) hj]
    rfl
theorem flat_take {enc : α → List V} {sz : Nat} (he : ∀ x, (enc x).length = sz) (d : α) {l : List α} {k : Nat} (h : k < l.length) : ((l.flatMap enc).drop (k * sz)).take sz = enc (l.getD k d) := by
  apply List.ext_getElem?
  intro j
  rw [List.getElem?_take]
  split
  · rename_i hj; rw [List.getElem?_drop, flat_at he d h hj]
  · rename_i hj; rw [List.getElem?_eq_none (by rw [he]; omega)]
end
end Go.Proofs.YtdefefeifcdogaaGreat
namespace Go.Proofs.YtdefefeifcdogaaGreat
open Go.RowKit
section
variable {P : Program} {G : Ground}
end
end Go.Proofs.YtdefefeifcdogaaGreat
set_option linter.unusedSimpArgs false
set_option linter.unusedVariables false
namespace Go.Proofs.YtdefefeifcdogaaGreat
open Go.RowKit
theorem put_same (m : Mm) (i : Nat) (a : AObj) : (m.put i a).obj i = some a := if_pos rfl
theorem put_other (m : Mm) {i q : Nat} (a : AObj) (h : q ≠ i) : (m.put i a).obj q = m.obj q := if_neg h
section
variable {P : Program} {G : Ground}
theorem x_scallR {base i : Nat} {d : Option Nat} {f : FuncId} {xs : List Opd} {l : List VI} {s : St} {K : St → Prop} {Post : V → Mm → Prop} (vs : List V) (hv : xs.map s.ev = vs) (hf : SFn P G f vs s.m Post) (hne : ∃ r m', Post r m')
    (h : ∀ r m', Post r m' → goR P G base (some ⟨putT s.t d r, m'⟩) l (i + 1) K) : vrun P G base i (⟨d, none, .call f, xs, none⟩ :: l) s K := by
  subst hv
  rw [vrun]
  unfold vstep VI.on
  simp only [if_true, sem, callSem]
  exact ⟨_, Post, .inl rfl, hf, hne, fun r m' hP => goR_vrun l (i + 1) _ (h r m' hP)⟩
/-- An append to a slice that may grow: what is left az it was. -/
theorem x_appc {base i : Nat} {d : Option Nat} {e : TypeId} {size bytes : Nat} {x y : Opd} {l : List VI} {s : St} {K : St → Prop} {n j : Nat} {xs ys : List V} {k k2 : Tok} (hx : s.ev x = .sl n xs k) (hy : s.ev y = .sl j ys k2) (hap : Apb s.m k n e size)
    (h1 : xs.length = n * size) (h2 : ys.length = j * size) (h3 : (n + j) * bytes ≤ 140737488355328) (h4 : n + j ≤ maxLen) (h0 : base + i < s.m.next)
    (h : ∀ k' m', Apb m' k' (n + j) e size → m'.next = s.m.next → (∀ q, q ≠ base + i → k ≠ .own q → m'.obj q = s.m.obj q) → (∀ q, k' = .own q → q = base + i ∨ k = .own q) → goR P G base (some ⟨putT s.t d (.sl (n + j) (xs ++ ys) k'), m'⟩) l (i + 1) K) :
    vrun P G base i (⟨d, none, .app e size bytes, [x, y], none⟩ :: l) s K := by
  rw [vrun]
  unfold vstep VI.on
  simp only [if_true, List.map_cons, List.map_nil, hx, hy, sem]
  refine ⟨h1, h2, h3, h4, ?_⟩
  rcases hap with rfl | ⟨t, rfl, ht, ho⟩
  · exact goR_vrun l (i + 1) _ (h _ _ (.inr ⟨base + i, rfl, h0, if_pos rfl⟩) rfl (fun q hne _ => if_neg hne) (fun q hq => .inl (by injection hq with hq; exact hq.symm)))
  · simp only [ho]
    exact ⟨rfl, trivial, trivial, trivial, goR_vrun l (i + 1) _ (h _ _ (.inr ⟨t, rfl, ht, if_pos rfl⟩) rfl (fun q _ hne => if_neg fun e => hne (by rw [e])) (fun q hq => .inr hq))⟩
end
theorem Apb.put {m : Mm} {k : Tok} {n : Nat} {e : TypeId} {size i : Nat} {cs : List V} {t : TypeId} {o : AObj} (h : Apb m k n e size) (hi : m.obj i = some (.box cs t)) : Apb (m.put i o) k n e size := by
  rcases h with h1 | ⟨t, h1, h2, h3⟩
  · exact .inl h1
  · exact .inr ⟨t, h1, h2, by rw [put_obj, if_neg (fun e => by subst e; rw [hi] at h3; cases h3)]; exact h3⟩
theorem Apb.ne {m : Mm} {k k' : Tok} {n n' : Nat} {e e' : TypeId} {z z' : Nat} (h : Apb m k n e z) (h' : Apb m k' n' e' z') (he : e ≠ e') : ∀ q, k = .own q → k' ≠ .own q := by
  rintro q rfl rfl
  rcases h with h | ⟨t, h1, _, h2⟩
  · cases h
  · rcases h' with h | ⟨t', h3, _, h4⟩
    · cases h
    · injection h1 with h1; injection h3 with h3
      subst h1; subst h3
      rw [h2] at h4
      injection h4 with h4
      injection h4 with _ h4
      exact he h4
theorem Apb.keep {m m' : Mm} {k : Tok} {n : Nat} {e : TypeId} {z : Nat} (h : Apb m k n e z) (hn : m.next ≤ m'.next) (ho : ∀ q, q < m.next → k = .own q → m'.obj q = m.obj q) : Apb m' k n e z := by
  rcases h with h | ⟨t, h1, h2, h3⟩
  · exact .inl h
  · exact .inr ⟨t, h1, Nat.lt_of_lt_of_le h2 hn, (ho t h2 h1).trans h3⟩
theorem Apb.box {m : Mm} {k : Tok} {n : Nat} {e : TypeId} {z : Nat} (h : Apb m k n e z) {q : Nat} {cs : List V} {t : TypeId} (hq : m.obj q = some (.box cs t)) : k ≠ .own q := by
  rintro rfl
  rcases h with h | ⟨t, h1, _, h3⟩
  · cases h
  · injection h1 with h1; subst h1; rw [hq] at h3; cases h3
end Go.Proofs.YtdefefeifcdogaaGreat
set_option linter.unusedSimpArgs false
set_option linter.unusedVariables false
namespace Go.Proofs.YtdefefeifcdogaaGreat
open Go.RowKit
noncomputable section
abbrev OpF := Nat → Nat → Option (List Nat) → List V → Mm → Option (V × Upd)
abbrev TbF := Nat → Option Fe
abbrev EcF := VC → ES → Option (VX × ES)
abbrev InF := TbF → EcF → Nat → Nat → Option Nat → Option (List Nat) → List V → ES → Option ES
abbrev CoF := TbF → EcF → ES → Option (VX × ES)
def iN (g : OpF) : InF := fun _ _ base idx d md vals s =>
  match g (base + idx) base md vals s.st.m with
  | some (r, us) => (match updT s.o us, putE s.t d r with | some o, some t => some ⟨t, o, s.nx⟩ | _, _ => none)
  | none => none
def iv_call (f : FuncId) : InF := fun T ec base idx d md vals s =>
    (match evCall T ec base md f (vals) s.o s.nx with
      | some (r, o, nx) => (match putE s.t d r with | some t => some ⟨t, o, nx⟩ | none => none)
      | none => none)
def iv_callL (f : FuncId) (js : List Nat) : InF := fun T ec base idx d md vals s =>
    (match md, evF T ec f (vals) s.o s.nx with
      | none, some (r, o, nx) => bif Nat.ble s.nx nx && js.all (fun j => (s.o.get (base + j + 1)).isSome || (o.get (base + j + 1)).isNone) then (match putE s.t d r with | some t => some ⟨t, o, nx⟩ | none => none) else none
      | _, _ => none)
def iv_callv : InF := fun T ec base idx d md vals s =>
    (match vals with
      | .fn f cs :: vs => (match evCall T ec base md f (vs ++ cs) s.o s.nx with
        | some (r, o, nx) => (match putE s.t d r with | some t => some ⟨t, o, nx⟩ | none => none)
        | none => none)
      | .yld i :: vs => (match md, evY T ec i vs s.o s.nx with
        | none, some (r, o, nx) => (match putE s.t d r with | some t => some ⟨t, o, nx⟩ | none => none)
        | _, _ => none)
      | _ => none)
def iv_callB (f : FuncId) : InF := fun T ec base idx d md vals s =>
    (match T (f + clb), vals with
      | some (.cln size e), [y] => (match rdV md base s.st.m size y with
        | some (n, xs) => bif V.clean xs && Nat.ble n 1000000 then (bif Nat.beq n 0 then (match putE s.t d (.sl 0 [] .exact) with | some t => some ⟨t, s.o, s.nx⟩ | none => none)
          else (match updT s.o [(base + idx, some (.box xs e))], putE s.t d (.bsl (base + idx) 0 n n) with | some o, some t => some ⟨t, o, s.nx⟩ | _, _ => none)) else none
        | none => none)
      | _, vals => (match mapO (viewV 60 s.st.m (match md with | none => allS | some anc => seen anc base)) vals with
        | some us => bif V.pures us then (match evF T ec f us .e 0 with
          | some (.sl 0 [] .exact, _, _) => (match putE s.t d (.sl 0 [] .exact) with | some t => some ⟨t, s.o, s.nx⟩ | none => none)
          | some (.gsl i n _, o', _) => (match o'.get (i + 1) with
            | some (.box xs e) => bif (!Nat.beq n 0) && (V.drys xs && xs.all V.one) then (match updT s.o [(base + idx, some (.box xs e))], putE s.t d (.bsl (base + idx) 0 n n) with | some o, some t => some ⟨t, o, s.nx⟩ | _, _ => none) else none
            | _ => none)
          | _ => none) else none
        | none => none))
def pv_mv (vals : List V) : Option V :=
  match vals with | [x] => some x | _ => none
def ov_mv : OpF := fun _ _ _ vals _ => (pv_mv vals).map fun v => (v, [])
def pv_pick (vals : List V) : Option V :=
  match vals with | [.lit (.bool t), a, b] => some (if t then a else b) | _ => none
def ov_pick : OpF := fun _ _ _ vals _ => (pv_pick vals).map fun v => (v, [])
def ov_alloc (t : TypeId) (z : List V) : OpF := fun id base md vals m =>
  some (.ptr id 0, [(id, some (.box z t))])
def ov_box (t : TypeId) : OpF := fun id base md vals m =>
  match vals with | [x] => some (.ptr id 0, [(id, some (.box x.cells t))]) | _ => none
def pv_boxE (vals : List V) : Option V :=
  match vals with | [x] => (V.pub x).bind fun u => if u.cells.all V.one then some (.ept u.cells 0) else none | _ => none
def ov_boxE : OpF := fun _ _ _ vals _ => (pv_boxE vals).map fun v => (v, [])
def pv_build (z : List V) (pl : List (Nat × Nat)) (vals : List V) : Option V :=
  if pl.length = vals.length then (vfill z (pl.zip vals)).map .agg else none
def ov_build (z : List V) (pl : List (Nat × Nat)) : OpF := fun _ _ _ vals _ => (pv_build z pl vals).map fun v => (v, [])
def pv_mksl (n : Nat) (size : Nat) (z : List V) (pl : List (Nat × Nat)) (vals : List V) : Option V :=
  if pl.length = vals.length ∧ z.length = n * size then (V.pubs vals).bind fun us => (vfill z (pl.zip us)).bind fun cs => if cs.all V.one then some (.sl n cs .exact) else none else none
def ov_mksl (n : Nat) (size : Nat) (z : List V) (pl : List (Nat × Nat)) : OpF := fun _ _ _ vals _ => (pv_mksl n size z pl vals).map fun v => (v, [])
def ov_ld1 : OpF := fun id base md vals m =>
  match vals with
    | [.ept xs o] => (xs[o]?).map fun v => (v, [])
    | [.ptr i o] => if rdable md base i = true then (match m.obj i with | some (.box cs _) => (cs[o]?).map fun v => (v, []) | _ => none) else none
    | _ => none
def ov_ldA (n : Nat) : OpF := fun id base md vals m =>
  match vals with
    | [.ept xs o] => if o + n ≤ xs.length then some (.agg ((xs.drop o).take n), []) else none
    | [.ptr i o] => if rdable md base i = true then (match m.obj i with | some (.box cs _) => if o + n ≤ cs.length then some (.agg ((cs.drop o).take n), []) else none | _ => none) else none
    | _ => none
def ov_st (n : Nat) : OpF := fun id base md vals m =>
  match vals with
    | [.ptr i o, v] => if stOk md base i = true then (match m.obj i with
      | some (.box cs t) => if v.cells.length = n ∧ v.cells.all V.one = true ∧ o + n ≤ cs.length then some (vund, [(i, some (.box (splice cs o v.cells) t))]) else none
      | _ => none) else none
    | _ => none
def pv_nilck (vals : List V) : Option V :=
  match vals with | [.ptr i o] => some (.ptr i o) | [.ept xs o] => some (.ept xs o) | [.fn f cs] => some (.fn f cs) | _ => none
def ov_nilck : OpF := fun _ _ _ vals _ => (pv_nilck vals).map fun v => (v, [])
def pv_fld (off : Nat) (n : Nat) (agg : Bool) (vals : List V) : Option V :=
  match vals with
    | [.agg cs] => if agg then (if off + n ≤ cs.length then some (.agg ((cs.drop off).take n)) else none) else cs[off]?
    | _ => none
def ov_fld (off : Nat) (n : Nat) (agg : Bool) : OpF := fun _ _ _ vals _ => (pv_fld off n agg vals).map fun v => (v, [])
def pv_fldA (off : Nat) (vals : List V) : Option V :=
  match vals with | [.ptr i o] => some (.ptr i (o + off)) | [.ept xs o] => some (.ept xs (o + off)) | _ => none
def ov_fldA (off : Nat) : OpF := fun _ _ _ vals _ => (pv_fldA off vals).map fun v => (v, [])
def pv_ixA (size : Nat) (vals : List V) : Option V :=
  match vals with
    | [.sl n xs _, .lit (.int _ i)] => if 0 ≤ i ∧ i < n ∧ xs.length = n * size ∧ 0 < size then some (.ept xs (i.toNat * size)) else none
    | [.bsl b off n _, .lit (.int _ i)] => if 0 ≤ i ∧ i < n then some (.ptr b (off + i.toNat * size)) else none
    | [.gsl b n _, .lit (.int _ i)] => if 0 ≤ i ∧ i < n then some (.ptr b (i.toNat * size)) else none
    | _ => none
def ov_ixA (size : Nat) : OpF := fun _ _ _ vals _ => (pv_ixA size vals).map fun v => (v, [])
def pv_ixAA (len : Nat) (size : Nat) (vals : List V) : Option V :=
  match vals with
    | [.ptr b off, .lit (.int _ i)] => if 0 ≤ i ∧ i < len then some (.ptr b (off + i.toNat * size)) else none
    | [.ept xs off, .lit (.int _ i)] => if 0 ≤ i ∧ i < len then some (.ept xs (off + i.toNat * size)) else none
    | _ => none
def ov_ixAA (len : Nat) (size : Nat) : OpF := fun _ _ _ vals _ => (pv_ixAA len size vals).map fun v => (v, [])
def pv_ixV (len : Nat) (size : Nat) (agg : Bool) (vals : List V) : Option V :=
  match vals with
    | [.agg cs, .lit (.int _ i)] => if 0 ≤ i ∧ i < len then
        (if agg then (if i.toNat * size + size ≤ cs.length then some (.agg ((cs.drop (i.toNat * size)).take size)) else none) else cs[i.toNat * size]?) else none
    | _ => none
def ov_ixV (len : Nat) (size : Nat) (agg : Bool) : OpF := fun _ _ _ vals _ => (pv_ixV len size agg vals).map fun v => (v, [])
def pv_ixS (vals : List V) : Option V :=
  match vals with | [.lit (.string s), .lit (.int _ i)] => if 0 ≤ i then (s[i.toNat]?).map fun b => .lit (.int .u8 b.toNat) else none | _ => none
def ov_ixS : OpF := fun _ _ _ vals _ => (pv_ixS vals).map fun v => (v, [])
def pv_slc (size : Nat) (lo : Bool) (hi : Bool) (vals : List V) : Option V :=
  match vals with | x :: bs => vslc size lo hi x bs | _ => none
def ov_slc (size : Nat) (lo : Bool) (hi : Bool) : OpF := fun _ _ _ vals _ => (pv_slc size lo hi vals).map fun v => (v, [])
def pv_slS (lo : Bool) (hi : Bool) (vals : List V) : Option V :=
  match vals with | .lit (.string s) :: bs => vslS lo hi s bs | _ => none
def ov_slS (lo : Bool) (hi : Bool) : OpF := fun _ _ _ vals _ => (pv_slS lo hi vals).map fun v => (v, [])
def ov_mk (e : TypeId) (size : Nat) (bytes : Nat) (z : List V) : OpF := fun id base md vals m =>
  match vals with
    | [.lit (.int _ l), .lit (.int _ c)] => if 0 ≤ l ∧ l ≤ c ∧ c * bytes ≤ 140737488355328 ∧ c ≤ 140737488355328 ∧ z.length = size then some (.bsl id 0 l.toNat c.toNat, [(id, some (.box (List.flatten (List.replicate c.toNat z)) e))]) else none
    | _ => none
def pv_ext (i : Nat) (vals : List V) : Option V :=
  match vals with | [.tup vs] => vs[i]? | _ => none
def ov_ext (i : Nat) : OpF := fun _ _ _ vals _ => (pv_ext i vals).map fun v => (v, [])
def pv_mkfn (f : FuncId) (vals : List V) : Option V :=
  some (.fn f vals)
def ov_mkfn (f : FuncId) : OpF := fun _ _ _ vals _ => (pv_mkfn f vals).map fun v => (v, [])
def pv_len (vals : List V) : Option V :=
  match vals with | [.sl n _ _] => some (vint n) | [.bsl _ _ n _] => some (vint n) | [.gsl _ n _] => some (vint n) | _ => none
def ov_len : OpF := fun _ _ _ vals _ => (pv_len vals).map fun v => (v, [])
def pv_lenS (vals : List V) : Option V :=
  match vals with | [.lit (.string s)] => some (vint s.size) | _ => none
def ov_lenS : OpF := fun _ _ _ vals _ => (pv_lenS vals).map fun v => (v, [])
def ov_app (e : TypeId) (size : Nat) (bytes : Nat) : OpF := fun id base md vals m =>
  match vals with
    | [.sl n xs k, .sl j ys _] => match k with
      | .exact => if xs.length = n * size ∧ ys.length = j * size ∧ (n + j) * bytes ≤ 140737488355328 ∧ n + j ≤ maxLen then some (.sl (n + j) (xs ++ ys) (.own id), [(id, some (.row (n + j) e size))]) else none
      | .own t => match ownOk md base t, m.obj t with
        | true, some (.row n' e' s') => if (xs.length = n * size ∧ ys.length = j * size ∧ (n + j) * bytes ≤ 140737488355328 ∧ n + j ≤ maxLen) ∧ n' = n ∧ e' = e ∧ s' = size then some (.sl (n + j) (xs ++ ys) (.own t), [(t, some (.row (n + j) e size))]) else none
        | _, _ => none
      | .no => none
    | _ => none
def ov_appB (e : TypeId) (size : Nat) (bytes : Nat) : OpF := fun id base md vals m =>
  none
def ov_appM (e : TypeId) (size : Nat) (bytes : Nat) : OpF := fun id base md vals m =>
  match md, vals with
    | none, [x, y] => match rdS m size y with
      | some (j, ys) => match x with
        | .sl n xs k => if k = .exact ∧ xs.length = n * size ∧ (n + j) * bytes ≤ 140737488355328 ∧ n + j ≤ maxLen then (if j = 0 then some (.sl n xs .exact, []) else some (.gsl id (n + j) size, [(id, some (.box (xs ++ ys) e))])) else none
        | .gsl i n s => match m.obj i with
          | some (.box cs t) => if (s = size ∧ (n + j) * bytes ≤ 140737488355328 ∧ n + j ≤ maxLen) ∧ t = e ∧ n * size ≤ cs.length ∧ (cs.take (n * size)).all V.one = true then some (.gsl id (n + j) size, [(i, none), (id, some (.box (cs.take (n * size) ++ ys) e))]) else none
          | _ => none
        | _ => none
      | none => none
    | _, _ => none
def ov_appL (e : TypeId) (size : Nat) (bytes : Nat) : OpF := fun id base md vals m =>
  match md, vals with
    | none, x :: y :: ps => bif ps.all (offP id x) then (match rdS m size y with
      | some (j, ys) => match x with
        | .sl n xs k => if k = .exact ∧ xs.length = n * size ∧ (n + j) * bytes ≤ 140737488355328 ∧ n + j ≤ maxLen then (if j = 0 then some (.sl n xs .exact, []) else some (.gsl id (n + j) size, [(id, some (.box (xs ++ ys) e))])) else none
        | .gsl i n s => match m.obj i with
          | some (.box cs t) => if (s = size ∧ (n + j) * bytes ≤ 140737488355328 ∧ n + j ≤ maxLen) ∧ t = e ∧ n * size ≤ cs.length ∧ (cs.take (n * size)).all V.one = true then some (.gsl id (n + j) size, [(i, none), (id, some (.box (cs.take (n * size) ++ ys) e))]) else none
          | _ => none
        | _ => none
      | none => none) else none
    | _, _ => none
def ov_mkslB (e : TypeId) (n : Nat) (size : Nat) (z : List V) (pl : List (Nat × Nat)) : OpF := fun id base md vals m =>
  if pl.length = vals.length ∧ z.length = n * size then (vfill z (pl.zip vals)).map fun cs => (.gsl id n size, [(id, some (.box cs e))]) else none
def pv_bin (op : BinOp) (vals : List V) : Option V :=
  match vals with
    | [.lit (.int k a), .lit (.int k' b)] => if k = k' then (vbinI op k a b).map .lit else none
    | [.lit (.string a), .lit (.string b)] => (vbinS op a b).map .lit
    | _ => none
def ov_bin (op : BinOp) : OpF := fun _ _ _ vals _ => (pv_bin op vals).map fun v => (v, [])
def pv_eqB (neg : Bool) (vals : List V) : Option V :=
  match vals with | [.lit (.bool a), .lit (.bool b)] => some (vbool ((a == b) != neg)) | _ => none
def ov_eqB (neg : Bool) : OpF := fun _ _ _ vals _ => (pv_eqB neg vals).map fun v => (v, [])
def pv_eqP (offs : List (Nat × Nat)) (neg : Bool) (vals : List V) : Option V :=
  match vals with | [.agg xs, .agg ys] => (eqOffs xs ys offs).map fun b => vbool (b != neg) | _ => none
def ov_eqP (offs : List (Nat × Nat)) (neg : Bool) : OpF := fun _ _ _ vals _ => (pv_eqP offs neg vals).map fun v => (v, [])
def ov_eqN (neg : Bool) : OpF := fun id base md vals m =>
  match md, vals with
    | none, [.sl _ (_ :: _) _] => some (vbool neg, [])
    | none, [.bsl _ _ _ _] => some (vbool neg, [])
    | none, [.gsl _ _ _] => some (vbool neg, [])
    | _, _ => none
def pv_eqQ (neg : Bool) (vals : List V) : Option V :=
  match vals with | [.lit (.pointer none)] => some (vbool !neg) | [.ptr _ _] => some (vbool neg) | [.ept _ _] => some (vbool neg) | _ => none
def ov_eqQ (neg : Bool) : OpF := fun _ _ _ vals _ => (pv_eqQ neg vals).map fun v => (v, [])
def pv_eqI (neg : Bool) (vals : List V) : Option V :=
  match vals with | [.lit .nilIface] => some (vbool !neg) | [.lit (.iface _ _)] => some (vbool neg) | _ => none
def ov_eqI (neg : Bool) : OpF := fun _ _ _ vals _ => (pv_eqI neg vals).map fun v => (v, [])
def pv_sl00 (vals : List V) : Option V :=
  match vals with | [.sl _ _ _] => some (.sl 0 [] .exact) | [.bsl _ _ _ _] => some (.sl 0 [] .exact) | [.gsl _ _ _] => some (.sl 0 [] .exact) | _ => none
def ov_sl00 : OpF := fun _ _ _ vals _ => (pv_sl00 vals).map fun v => (v, [])
def pv_un (op : UnOp) (vals : List V) : Option V :=
  match op, vals with
    | .neg, [.lit (.int k n)] => some (.lit (.int k (k.wrap (0 - n))))
    | .not, [.lit (.bool b)] => some (vbool !b)
    | _, _ => none
def ov_un (op : UnOp) : OpF := fun _ _ _ vals _ => (pv_un op vals).map fun v => (v, [])
def pv_cvt (k : IntKind) (vals : List V) : Option V :=
  match vals with | [.lit (.int _ n)] => some (.lit (.int k (k.wrap n))) | _ => none
def ov_cvt (k : IntKind) : OpF := fun _ _ _ vals _ => (pv_cvt k vals).map fun v => (v, [])
def pv_cvtS (vals : List V) : Option V :=
  match vals with | [.lit (.string s)] => some (.lit (.string s)) | _ => none
def ov_cvtS : OpF := fun _ _ _ vals _ => (pv_cvtS vals).map fun v => (v, [])
def pv_mn (vals : List V) : Option V :=
  match vals with | [.lit (.int k x), .lit (.int _ y)] => some (.lit (.int k (if y < x then y else x))) | _ => none
def ov_mn : OpF := fun _ _ _ vals _ => (pv_mn vals).map fun v => (v, [])
def pv_mx (vals : List V) : Option V :=
  match vals with | [.lit (.int k x), .lit (.int _ y)] => some (.lit (.int k (if y > x then y else x))) | _ => none
def ov_mx : OpF := fun _ _ _ vals _ => (pv_mx vals).map fun v => (v, [])
def ov_mkmap (ks : List Nat) : OpF := fun id base md vals m =>
  if md = none then some (.mp id, [(id, some (.oth (.map ks [])))]) else none
def ov_mlk (ks : List Nat) (ok : Bool) : OpF := fun id base md vals m =>
  if md = none then (match vals with
    | [.mp i, key] => match m.obj i, keyOf ks key with
      | some (.oth (.map ks' es)), some k => if ks' = ks then some (mans ok (mget es k), []) else none
      | _, _ => none
    | _ => none) else none
def ov_mput (ks : List Nat) : OpF := fun id base md vals m =>
  if md = none then (match vals with
    | [.mp i, key, .lit (.int .i64 n)] => match m.obj i, keyOf ks key with
      | some (.oth (.map ks' es)), some k => if ks' = ks then some (vund, [(i, some (.oth (.map ks (mset es k n))))]) else none
      | _, _ => none
    | _ => none) else none
def ov_cpy : OpF := fun id base md vals m =>
  match md, vals with
    | none, [.bsl i off n _, y] => match m.obj i, rdS m 1 y with
      | some (.box cs t), some (j, ys) => if off + n ≤ cs.length then some (vint ((min n j : Nat) : Int), [(i, some (.box (splice cs off (ys.take (min n j))) t))]) else none
      | _, _ => none
    | _, _ => none
def ov_clr (size : Nat) (z : List V) : OpF := fun id base md vals m =>
  match md, vals with
    | none, [.bsl i off n _] => match m.obj i with
      | some (.box cs t) => if z.length = size ∧ off + n * size ≤ cs.length then some (vund, [(i, some (.box (splice cs off (List.flatten (List.replicate n z))) t))]) else none
      | _ => none
    | _, _ => none
def ov_stL (n : Nat) : OpF := fun id base md vals m =>
  none
def ov_ld1W : OpF := fun id base md vals m =>
  none
def pv_runes (vals : List V) : Option V :=
  match vals with | [.sl n xs _] => if xs.length = n then (xs.mapM runeOf).map fun l => .lit (.string (runesS l)) else none | _ => none
def ov_runes : OpF := fun _ _ _ vals _ => (pv_runes vals).map fun v => (v, [])
def evIO : VO → InF := VO.rec (motive := fun _ => InF)
  (iN ov_mv)
  (iN ov_pick)
  (fun t z => iN (ov_alloc t z))
  (fun t => iN (ov_box t))
  (iN ov_boxE)
  (fun z pl => iN (ov_build z pl))
  (fun n size z pl => iN (ov_mksl n size z pl))
  (iN ov_ld1)
  (fun n => iN (ov_ldA n))
  (fun n => iN (ov_st n))
  (iN ov_nilck)
  (fun off n agg => iN (ov_fld off n agg))
  (fun off => iN (ov_fldA off))
  (fun size => iN (ov_ixA size))
  (fun len size => iN (ov_ixAA len size))
  (fun len size agg => iN (ov_ixV len size agg))
  (iN ov_ixS)
  (fun size lo hi => iN (ov_slc size lo hi))
  (fun lo hi => iN (ov_slS lo hi))
  (fun e size bytes z => iN (ov_mk e size bytes z))
  (fun i => iN (ov_ext i))
  (fun f => iN (ov_mkfn f))
  (iN ov_len)
  (iN ov_lenS)
  (fun e size bytes => iN (ov_app e size bytes))
  (fun e size bytes => iN (ov_appB e size bytes))
  (fun e size bytes => iN (ov_appM e size bytes))
  (fun e size bytes => iN (ov_appL e size bytes))
  (fun e n size z pl => iN (ov_mkslB e n size z pl))
  (fun op => iN (ov_bin op))
  (fun neg => iN (ov_eqB neg))
  (fun offs neg => iN (ov_eqP offs neg))
  (fun neg => iN (ov_eqN neg))
  (fun neg => iN (ov_eqQ neg))
  (fun neg => iN (ov_eqI neg))
  (iN ov_sl00)
  (fun op => iN (ov_un op))
  (fun k => iN (ov_cvt k))
  (iN ov_cvtS)
  (iN ov_mn)
  (iN ov_mx)
  (fun f => iv_call f)
  iv_callv
  (fun f => iv_callB f)
  (fun f js => iv_callL f js)
  (fun ks => iN (ov_mkmap ks))
  (fun ks ok => iN (ov_mlk ks ok))
  (fun ks => iN (ov_mput ks))
  (iN ov_cpy)
  (fun size z => iN (ov_clr size z))
  (fun n => iN (ov_stL n))
  (iN ov_ld1W)
  (iN ov_runes)
def evA (t : Tr V) : Opd → V := Opd.rec (motive := fun _ => V) (fun n => Option.rec (motive := fun _ => V) vund (fun v => v) (t.get (Nat.succ n))) (fun v => v)
def mapA (t : Tr V) (l : List Opd) : List V := List.rec (motive := fun _ => List V) [] (fun a _ ih => evA t a :: ih) l
theorem mapA_eq (s : ES) (l : List Opd) : mapA s.t l = l.map s.st.ev := by
  induction l with
  | nil => rfl
  | cons a l ih =>
    show evA s.t a :: mapA s.t l = s.st.ev a :: l.map s.st.ev
    rw [ih]
    congr 1
    cases a with
    | t n =>
      show Option.rec (motive := fun _ => V) vund (fun v => v) (s.t.get (n + 1)) = (s.t.get (n + 1)).getD vund
      cases s.t.get (n + 1) <;> rfl
    | c v => rfl
def onG (t : Tr V) (g : Option (Nat × Bool)) : Bool := Option.rec (motive := fun _ => Bool) true (fun p => onB (evA t (.t p.1)) p.2) g
theorem onG_eq (s : ES) (vi : VI) : onG s.t vi.guard = vi.on s.st := by
  obtain ⟨d, g, op, args, md⟩ := vi
  cases g with
  | none => rfl
  | some p =>
    obtain ⟨n, w⟩ := p
    show onB (Option.rec (motive := fun _ => V) vund (fun v => v) (s.t.get (n + 1))) w = onB ((s.t.get (n + 1)).getD vund) w
    cases s.t.get (n + 1) <;> rfl
def evIE (T : TbF) (ec : EcF) (base idx : Nat) (vi : VI) (s : ES) : Option ES :=
  Bool.rec (motive := fun _ => Option ES) (match putE s.t vi.dst vund with | some t => some ⟨t, s.o, s.nx⟩ | none => none) (evIO vi.op T ec base idx vi.dst vi.mode (mapA s.t vi.args) s) (onG s.t vi.guard)
theorem evIE_eq (T : TbF) (ec : EcF) (base idx : Nat) (vi : VI) (s : ES) : evIE T ec base idx vi s = evI T ec base idx vi s := by
  unfold evIE evI
  rw [onG_eq, mapA_eq]
  cases vi.on s.st with
  | false => rfl
  | true =>
    obtain ⟨d, g, op, args, md⟩ := vi
    dsimp only
    generalize args.map s.st.ev = vals
    cases op <;> rfl
def evRE (T : TbF) (ec : EcF) (base : Nat) (l : List VI) : Nat → ES → Option ES :=
  List.rec (motive := fun _ => Nat → ES → Option ES) (fun _ s => some s) (fun vi _ ih i s => Option.rec (motive := fun _ => Option ES) none (fun s' => ih (Nat.succ i) s') (evIE T ec base i vi s)) l
theorem evRE_eq (T : TbF) (ec : EcF) (base : Nat) : ∀ (l : List VI) (i : Nat) (s : ES), evRE T ec base l i s = evR T ec base l i s
  | [], i, s => rfl
  | vi :: l, i, s => by
    show Option.rec (motive := fun _ => Option ES) none (fun s' => evRE T ec base l (i + 1) s') (evIE T ec base i vi s) = _
    rw [evR, evIE_eq]
    cases evI T ec base i vi s with
    | none => rfl
    | some s' => exact evRE_eq T ec base l (i + 1) s'
def kv_skip : CoF := fun _ _ s => some (.nrm, s)
def kv_ret : CoF := fun _ _ s => some (.ret, s)
def kv_ops (k : Nat) (l : List VI) : CoF := fun T ec s => match evRE T ec s.nx l 0 ⟨s.t, s.o, s.nx + k⟩ with | some s' => some (.nrm, s') | none => none
def kv_seq (a b : VC) : CoF := fun _ ec s => match ec a s with
  | some (.nrm, s') => ec b s'
  | r => r
def kv_cond (c : Opd) (a b : VC) : CoF := fun _ ec s => match evA s.t c with
  | .lit (.bool true) => ec a s
  | .lit (.bool false) => ec b s
  | _ => none
def kv_block (id : Nat) (b : VC) : CoF := fun _ ec s => match ec b s with
  | some (.exit i, s') => bif Nat.beq i id then some (.nrm, s') else some (.exit i, s')
  | r => r
def kv_loop (b : VC) : CoF := fun _ ec s => match ec b s with
  | some (.nrm, s') => ec (.loop b) s'
  | r => r
def kv_exit (id : Nat) : CoF := fun _ _ s => some (.exit id, s)
def kv_scope (b : VC) : CoF := fun _ ec s => ec b s
def kv_range (nt : Nat) (f : Opd) (ps : Array Nat) (az bd : Code) : CoF := fun T ec s => (match s.st.ev f with
      | .fn g cs => (match updT s.o [(s.nx, some (.oth (.loop (slots nt s.st.t) ps az bd .ready)))] with
        | some o1 => (match evF T ec g (.yld s.nx :: cs) o1 (s.nx + 1) with
          | some (_, o2, nx2) => (match o2.get (s.nx + 1) with
            | some (.oth (.loop _ _ _ _ .ready)) => (updT o2 [(s.nx, none)]).map fun o3 => (.nrm, ⟨s.t, o3, nx2⟩)
            | some (.oth (.loop _ _ _ _ (.done .ret))) => (updT o2 [(s.nx, none)]).map fun o3 => (.ret, ⟨s.t, o3, nx2⟩)
            | some (.oth (.loop _ _ _ _ (.done (.exit id)))) => (updT o2 [(s.nx, none)]).map fun o3 => (.exit id, ⟨s.t, o3, nx2⟩)
            | _ => none)
          | none => none)
        | none => none)
      | _ => none)
def evC1 : VC → CoF := VC.rec (motive := fun _ => CoF) kv_skip kv_ret kv_ops (fun a b _ _ => kv_seq a b) (fun c a b _ _ => kv_cond c a b) (fun id b _ => kv_block id b) (fun b _ => kv_loop b) kv_exit (fun b _ => kv_scope b) kv_range (fun _ _ _ => none)
def evCE (T : TbF) (n : Nat) : EcF := Nat.rec (motive := fun _ => EcF) (fun _ _ => none) (fun _ ec c s => evC1 c T ec s) n
theorem evCE_eq (T : TbF) : ∀ n, evCE T n = evC T n
  | 0 => by funext c s; rw [evC]; rfl
  | n + 1 => by
    funext c s
    show evC1 c T (evCE T n) s = _
    rw [evCE_eq T n]
    cases c with
    | ops k l =>
      rw [evC]
      show (match evRE T (evC T n) s.nx l 0 ⟨s.t, s.o, s.nx + k⟩ with | some s' => some (VX.nrm, s') | none => none) = _
      rw [evRE_eq]
      all_goals (cases evR T (evC T n) s.nx l 0 ⟨s.t, s.o, s.nx + k⟩ <;> rfl)
    | cond c a b =>
      rw [evC]
      show (match evA s.t c with
        | .lit (.bool true) => evC T n a s
        | .lit (.bool false) => evC T n b s
        | _ => none) = _
      rw [show evA s.t c = s.st.ev c from by
        have := mapA_eq s [c]
        exact (List.cons.inj this).1]
      all_goals rfl
    | _ => rw [evC]; rfl
/-- A call of a function on values without boxes, run outright. -/
theorem Fn.of_evX {P : Program} {G : Ground} {T : TbF} (hT : TabOk P G T) (n : Nat) {f : Nat} {vals : List V} {r : V} (hp : V.pures vals = true) (hd : r.dry = true) (h : (evF T (evCE T n) f vals .e 0).map (·.1) = some r) : Fn P G f vals r :=
  Fn.of_ev hT n hp hd (by rw [← evCE_eq]; exact h)
/-- The same; its boxes are shown. -/
theorem Fn.of_evV {P : Program} {G : Ground} {T : TbF} (hT : TabOk P G T) (n : Nat) {f : Nat} {vals : List V} {u : V} (hp : V.pures vals = true) (h : ((evF T (evCE T n) f vals .e 0).bind fun x => viewV 60 (mmT x.2.1 x.2.2) allS x.1) = some u) : Fn P G f vals u := by
  rw [Option.bind_eq_some_iff, evCE_eq] at h
  obtain ⟨⟨r, o, nx⟩, h, hv⟩ := h
  exact Fn.of_empty hp ((show SFn P G f vals M0 _ from evF_ok hT (evC_ok hT n) h).mono (by rintro r' m' ⟨rfl, rfl⟩; exact view_ok _ _ _ _ _ hv))
end
end Go.Proofs.YtdefefeifcdogaaGreat
namespace Go.Proofs.YtdefefeifcdogaaGreat
open Go.RowKit

def nobx : Nat → Bool := fun _ => false
def allbx : Nat → Bool := fun _ => true
def gtab : Nat → List V := fun _ => []
/-- Operations in short. -/
abbrev oo (d : Nat) (op : VO) (l : List Opd) : VI := ⟨some d, none, op, l, none⟩
abbrev od (d : Nat) (op : VO) (l : List Opd) (a : List Nat) : VI := ⟨some d, none, op, l, some a⟩
abbrev og (d g : Nat) (w : Bool) (op : VO) (l : List Opd) : VI := ⟨some d, some (g, w), op, l, none⟩
abbrev kk (n : Int) : Opd := .c (.lit (.int .i64 n))
abbrev li (n : Int) : V := .lit (.int .i64 n)
/-- The kernel finds it so. -/
theorem kr {p : Prop} (h : p := by kernel_rfl) : p := h
/-- This program's ground. -/
def Gd : Ground := ⟨fun _ _ => True, fun _ _ _ _ _ _ _ _ _ _ => trivial, gtab, fun _ => rfl, fun E _ _ g => by unfold gtab; rw [At]; trivial⟩
end Go.Proofs.YtdefefeifcdogaaGreat
set_option linter.unusedSimpArgs false
set_option linter.unusedVariables false
namespace Go.Proofs.YtdefefeifcdogaaGreat
open Go.RowKit

/-- What every walk wants, in one name. -/
theorem wsl : (∀ n : Int, n ≤ n) ∧ Int.toNat 0 = 0 ∧ (∀ n : Nat, 0 * n = 0) ∧ (∀ b : Bool, (b || false) = b) ∧ (∀ n m : Nat, n + m - n = m) ∧ (∀ n k : Nat, n ≤ n + k) ∧ (∀ n k m : Nat, m + n < m + k ↔ n < k) ∧ (∀ n k m : Nat, m + n ≤ m + k ↔ n ≤ k) ∧
    (∀ n k m : Nat, k + n - (k + m) = n - m) ∧ (∀ b : Bool, (!b) = true ↔ b = false) ∧ (∀ (p : Prop) [Decidable p], decide p = false ↔ ¬ p) ∧ (∀ (h : Decidable True), @decide True h = true) ∧ (∀ (h : Decidable False), @decide False h = false) ∧ (∀ b : Bool, (b == false) = !b) ∧ (∀ b : Bool, (b == true) = b) :=
  ⟨Int.le_refl, rfl, Nat.zero_mul, Bool.or_false, Nat.add_sub_cancel_left, Nat.le_add_right, fun _ _ _ => Nat.add_lt_add_iff_left, fun _ _ _ => Nat.add_le_add_iff_left, fun n k m => Nat.add_sub_add_left k n m, fun b => by cases b <;> simp, fun p _ => decide_eq_false_iff_not, fun h => decide_eq_true trivial, fun h => decide_eq_false id, fun b => by cases b <;> rfl, fun b => by cases b <;> rfl⟩
/-- What a test says. -/
theorem hcl : (∀ (p : Prop) [Decidable p], decide p = true ↔ p) ∧ (∀ (p : Prop) [Decidable p], decide p = false ↔ ¬ p) ∧ (∀ b : Bool, ¬ b = true ↔ b = false) ∧ (∀ (p : Prop) [Decidable p], ¬ ¬ p ↔ p) ∧ (∀ b : Bool, (!b) = true ↔ b = false) ∧ (∀ b : Bool, (!b) = false ↔ b = true) ∧ (false = true ↔ False) ∧ (true = false ↔ False) :=
  ⟨fun p _ => decide_eq_true_iff, fun p _ => decide_eq_false_iff_not, fun b => by cases b <;> simp, fun p _ => Decidable.not_not, fun b => by cases b <;> simp, fun b => by cases b <;> simp, by simp, by simp⟩
/-- A list of numbers. -/
def tIs (l : List Int) : V := .sl l.length (l.map vint) .no
/-- A list of yes and no. -/
def tBs (l : List Bool) : V := .sl l.length (l.map vbool) .no
/-- A list of places. -/
def plE (p : Int × Int) : List V := [vint p.1, vint p.2]
def tPs (l : List (Int × Int)) : V := .sl l.length (l.flatMap plE) .no

attribute [go_sem] eqOffs eqSc oo od og kk li vx_skip vx_ret vx_exit vx_seq vx_block vx_scope vx_cond vx_condT vx_condF gR_nil gR_cons VO.stops beq_self_eq_true Bool.false_beq Bool.true_beq Bool.not_true Bool.not_false Bool.false_eq_true if_false exo VI.on if_true exoOp pureSem List.map_cons List.map_nil St.ev initT Option.map_some putT_get putT_none put_obj put_next M0_next freeze_obj freeze_next List.getD_cons_zero List.getD_cons_succ List.getD_nil V.cells rdable Nat.add_assoc Nat.add_zero Nat.add_left_cancel_iff Nat.add_eq_left Nat.left_eq_add decide_true Bool.true_or ite_self onB vbinI vint vbool List.drop_zero List.take_succ_cons List.drop_succ_cons List.take_zero List.length_cons List.length_nil List.getElem?_cons_zero List.getElem?_cons_succ decide_eq_true_eq true_and and_true Nat.le_refl List.zip_cons_cons List.zip_nil_left V.pubs V.pub Option.bind_some List.all_cons List.all_nil V.one Bool.and_self List.cons_append List.nil_append then_nrm then_ret then_exit inB_nrm inB_ret inB_exit Int.toNat_natCast Int.natCast_nonneg eq_self Nat.zero_add Nat.mul_one wsl vund bne List.length_map stOk ownOk List.contains_cons List.contains_nil splice vfill mix_get ge_iff_le gt_iff_lt ite_not not_true not_false_eq_true resV resAll resOne oneOr Int.cast_ofNat_Int ne_eq

theorem q20 : ((2 : Int) = 0) = False := by simp
theorem q30 : ((3 : Int) = 0) = False := by simp
theorem q12 : ((12 : Int) = 0) = False := by simp
attribute [go_sem] q20 q30 q12
/-- By rewriting outright. -/
theorem vv {p : Prop} (h : p := by simp only [go_sem, Nat.reduceAdd, Nat.reduceEqDiff, Nat.reduceLT, Nat.reduceLeDiff, Nat.reduceMul, Nat.reduceSub, Nat.reducePow, Nat.reduceDiv, Nat.reduceMod, Nat.reduceBEq, Int.reduceBEq, Int.reduceLT, reduceIte]; first | done | rfl) : p := h
/-- The same, with all that is known. -/
theorem vw {p : Prop} (h : p := by simp only [go_sem, Nat.reduceAdd, Nat.reduceEqDiff, Nat.reduceLT, Nat.reduceLeDiff, Nat.reduceMul, Nat.reduceSub, Nat.reducePow, Nat.reduceDiv, Nat.reduceMod, Nat.reduceBEq, Int.reduceBEq, Int.reduceLT, reduceIte, V.norms, V.norm, tIs, tBs, tPs, *]; first | done | rfl) : p := h
/-- A step of rewriting. -/
theorem ve {p q : Prop} (h : q) (e : p = q := by simp only [go_sem, Nat.reduceAdd, Nat.reduceEqDiff, Nat.reduceLT, Nat.reduceLeDiff, Nat.reduceMul, Nat.reduceSub, Nat.reducePow, Nat.reduceDiv, Nat.reduceMod, Nat.reduceBEq, Int.reduceBEq, Int.reduceLT, reduceIte]; rfl) : p := e.mpr h
/-- A step of rewriting with all that is known. -/
theorem wk {p q : Prop} (h : q) (e : p = q := by simp only [go_sem, Nat.reduceAdd, Nat.reduceEqDiff, Nat.reduceLT, Nat.reduceLeDiff, Nat.reduceMul, Nat.reduceSub, Nat.reducePow, Nat.reduceDiv, Nat.reduceMod, Nat.reduceBEq, Int.reduceBEq, Int.reduceLT, reduceIte, tIs, tBs, tPs, *]; rfl) : p := e.mpr h
section
variable {P : Program} {G : Ground}
/-- A call that only computes. -/
theorem xc {base i : Nat} {d : Option Nat} {f : FuncId} {xs : List Opd} {l : List VI} {s : St} {K : St → Prop} {vs : List V} {r : V} {md : Option (List Nat)} (hf : Fn P G f vs r) (h : goR P G base (some ⟨putT s.t d r, s.m⟩) l (i + 1) K)
    (hv : V.norms (xs.map s.ev) = vs := by simp only [go_sem, Nat.reduceAdd, Nat.reduceEqDiff, Nat.reduceLT, Nat.reduceLeDiff, Nat.reduceMul, Nat.reduceSub, Nat.reducePow, Nat.reduceDiv, Nat.reduceMod, Nat.reduceBEq, Int.reduceBEq, Int.reduceLT, reduceIte, V.norms, V.norm, tIs, tBs, tPs, *]; first | done | rfl) : vrun P G base i (⟨d, none, .call f, xs, md⟩ :: l) s K := x_call md hf hv h
/-- A call of a function value that only computes. -/
theorem xcv {base i : Nat} {d : Option Nat} {x : Opd} {xs : List Opd} {l : List VI} {s : St} {K : St → Prop} {f : FuncId} {cs vs : List V} {r : V} {md : Option (List Nat)} (hf : Fn P G f vs r) (hc : callable P f = true) (h : goR P G base (some ⟨putT s.t d r, s.m⟩) l (i + 1) K)
    (hx : s.ev x = .fn f cs := by simp only [go_sem, Nat.reduceAdd, Nat.reduceEqDiff, Nat.reduceLT, Nat.reduceLeDiff, Nat.reduceMul, Nat.reduceSub, Nat.reducePow, Nat.reduceDiv, Nat.reduceMod, Nat.reduceBEq, Int.reduceBEq, Int.reduceLT, reduceIte, tIs, tBs, tPs, *]; first | done | rfl)
    (hv : V.norms (xs.map s.ev ++ cs) = vs := by simp only [go_sem, Nat.reduceAdd, Nat.reduceEqDiff, Nat.reduceLT, Nat.reduceLeDiff, Nat.reduceMul, Nat.reduceSub, Nat.reducePow, Nat.reduceDiv, Nat.reduceMod, Nat.reduceBEq, Int.reduceBEq, Int.reduceLT, reduceIte, V.norms, V.norm, tIs, tBs, tPs, *]; first | done | rfl) : vrun P G base i (⟨d, none, .callv, x :: xs, md⟩ :: l) s K := by
  rw [vrun]
  unfold vstep VI.on
  simp only [if_true, List.map_cons, hx, sem, callSem]
  have hk := goR_vrun l (i + 1) _ h
  refine ⟨hc, ?_⟩
  cases md with
  | none => exact ⟨vs, _, .inr hv.symm, hf s.m, ⟨r, s.m, rfl, rfl⟩, by rintro r' m' ⟨rfl, rfl⟩; exact hk⟩
  | some anc => exact ⟨vs, r, .inr hv.symm, fun m' _ _ => hf m', hk⟩
/-- A guarded operation. -/
theorem gd1 {base : Nat} {K : St → Prop} {d : Option Nat} {g : Nat} {w : Bool} {op : VO} {args : List Opd} {md : Option (List Nat)} {l : List VI} {i : Nat} {s : St} {b : Bool} {p1 p2 : Prop} (h1 : p1 → vrun P G base i (⟨d, none, op, args, md⟩ :: l) s K) (h2 : p2 → goR P G base (some ⟨putT s.t d vund, s.m⟩) l (i + 1) K)
    (hb : s.t g = .lit (.bool b) := by simp only [go_sem, Nat.reduceAdd, Nat.reduceEqDiff, Nat.reduceLT, Nat.reduceLeDiff, Nat.reduceMul, Nat.reduceSub, Nat.reducePow, Nat.reduceDiv, Nat.reduceMod, Nat.reduceBEq, Int.reduceBEq, Int.reduceLT, reduceIte, V.norms, V.norm]; try rfl) (e1 : (b = w) = p1 := by (try simp only [hcl, bne, eq_self, not_true, ne_eq, not_false_eq_true, reduceCtorEq]); rfl) (e2 : (b ≠ w) = p2 := by (try simp only [hcl, bne, eq_self, not_true, ne_eq, not_false_eq_true, reduceCtorEq]); rfl) :
    vrun P G base i (⟨d, some (g, w), op, args, md⟩ :: l) s K := vrun_guard hb (fun h => h1 (e1.mp h)) (fun h => h2 (e2.mp h))
/-- A test within an operation. -/
theorem gd2 {base : Nat} {K : St → Prop} {c : Prop} [Decidable c] {x y : Option St} {l : List VI} {i : Nat} {p1 p2 : Prop} (h1 : p1 → goR P G base x l i K) (h2 : p2 → goR P G base y l i K)
    (e1 : c = p1 := by (try simp only [hcl, bne, eq_self, not_true, ne_eq, not_false_eq_true, reduceCtorEq]); rfl) (e2 : (¬ c) = p2 := by (try simp only [hcl, bne, eq_self, not_true, ne_eq, not_false_eq_true, reduceCtorEq]); rfl) : goR P G base (if c then x else y) l i K := goR_guard (fun h => h1 (e1.mp h)) (fun h => h2 (e2.mp h))
/-- A test. -/
theorem gd3 {t : Bool} {a b : VC} {Q : VX → St → Prop} {s : St} {p1 p2 : Prop} (h1 : p1 → a.vx P G Q s) (h2 : p2 → b.vx P G Q s)
    (e1 : (t = true) = p1 := by (try simp only [hcl, bne, eq_self, not_true, ne_eq, not_false_eq_true, reduceCtorEq]); rfl) (e2 : (t = false) = p2 := by (try simp only [hcl, bne, eq_self, not_true, ne_eq, not_false_eq_true, reduceCtorEq]); rfl) : condR P G (.lit (.bool t)) a b Q s := x_if (fun h => h1 (e1.mp h)) (fun h => h2 (e2.mp h))
end
section
variable {P : Program} {G : Ground}
/-- What a piece of code comes to, said once. -/
theorem x_sum {a : VC} {Q : VX → St → Prop} {s : St} (w : Nat) (hw : inMask w a = true) {R : VX → (Nat → V) → Mm → Prop} (h1 : a.vx P G (fun e s' => R e s'.t s'.m) s) (h2 : ∀ e t m, R e t m → Q e ⟨mix w t s.t, m⟩) : a.vx P G Q s := by
  refine vx_mono (vx_frame h1) fun e s' ⟨hR, hf⟩ => ?_
  obtain ⟨t', m'⟩ := s'
  have := h2 e t' m' hR
  rwa [← mix_of hw (t := s.t) (t0 := s.t) (t' := t') fun j hj => by rw [mix_self]; exact hf j hj] at this
/-- It goes on behind, memory az it was. -/
def Jn (m : Mm) (R : (Nat → V) → Prop) (e : VX) (s : St) : Prop := e = .nrm ∧ s.m = m ∧ R s.t
theorem jn {m : Mm} {R : (Nat → V) → Prop} {s : St} (h1 : s.m = m) (h2 : R s.t) : Jn m R .nrm s := ⟨rfl, h1, h2⟩
/-- The same at the head of a sequence. -/
theorem x_join {a b : VC} {Q : VX → St → Prop} {s : St} (w : Nat) (hw : inMask w a = true) (R : (Nat → V) → Prop) (h1 : a.vx P G (Jn s.m R) s) (h2 : ∀ t, R t → b.vx P G Q ⟨mix w t s.t, s.m⟩) : (VC.seq a b).vx P G Q s :=
  x_seq (x_sum w hw (R := fun e t m => e = .nrm ∧ m = s.m ∧ R t) h1 fun e t m ⟨he, hm, hR⟩ => by subst he; subst hm; rw [then_nrm]; exact h2 t hR)
/-- What is not needed of the slots is forgotten. -/
theorem x_gen {a : VC} {Q : VX → St → Prop} {s : St} (F : (Nat → V) → Prop) (h0 : F s.t) (h : ∀ t, F t → a.vx P G Q ⟨t, s.m⟩) : a.vx P G Q s := h s.t h0
end
/-- A piece leaves memory az it is; it goes on, or ends the function with a value in a slot. -/
def EdQ (M : Mm) (A B : Prop) (r : Nat) (v : V) (e : VX) (s : St) : Prop := s.m = M ∧ ((e = .nrm ∧ A) ∨ (e = .ret ∧ s.t r = v ∧ B))
theorem edN {M : Mm} {A B : Prop} {r : Nat} {v : V} {s : St} (hm : s.m = M) (h : A) : EdQ M A B r v .nrm s := ⟨hm, .inl ⟨rfl, h⟩⟩
theorem edR {M : Mm} {A B : Prop} {r : Nat} {v : V} {s : St} (hm : s.m = M) (hv : s.t r = v) (h : B) : EdQ M A B r v .ret s := ⟨hm, .inr ⟨rfl, hv, h⟩⟩
section
variable {P : Program} {G : Ground}
/-- A piece at the head of a sequence that goes on, or ends the function. -/
theorem x_ed {a b : VC} {Q : VX → St → Prop} {s : St} (w : Nat) (hw : inMask w a = true) {A B : Prop} {r : Nat} {v : V} (h1 : a.vx P G (EdQ s.m A B r v) s) (h2 : A → ∀ t, b.vx P G Q ⟨mix w t s.t, s.m⟩) (h3 : B → ∀ t, mix w t s.t r = v → Q .ret ⟨mix w t s.t, s.m⟩) : (VC.seq a b).vx P G Q s := by
  refine x_seq (vx_mono (vx_frame h1) fun e s' ⟨⟨hm, hR⟩, hf⟩ => ?_)
  obtain ⟨t', m'⟩ := s'
  have hmx : mix w t' s.t = t' := (mix_of hw (t := s.t) (t0 := s.t) (t' := t') fun j hj => by rw [mix_self]; exact hf j hj).symm
  dsimp only at hm
  subst hm
  rcases hR with ⟨rfl, hA⟩ | ⟨rfl, hv, hB⟩
  · rw [then_nrm, ← hmx]; exact h2 hA t'
  · rw [then_ret, ← hmx]; exact h3 hB t' (by rw [hmx]; exact hv)
end
/-- A slot. -/
def Sl (k : Nat) (v : V) (t : Nat → V) : Prop := t k = v
end Go.Proofs.YtdefefeifcdogaaGreat
