/- Values without addresses, and what it means that a value of the machine is one of them in some memory. Nothing is proved of the program here. -/
import Derived.Below
import Derived.WalkKit
import Derived.Deep.AppendSrc
import Derived.RangeFuncRecord
set_option linter.unusedSimpArgs false
set_option linter.unusedVariables false
namespace Go.Proofs.YtdefefeifcdogaaGreat
open Go.RowKit

/-- What is known of the room behind a slice: nothing; that there is none; or a row that it may grow into. -/
inductive Tok where
  | no
  | exact
  | own (t : Nat)
deriving DecidableEq, Inhabited

/-- Values: slices that are only read are lists of cells; boxes have numbers. -/
inductive V where
  | lit (v : Value)
  | agg (cs : List V)
  | tup (cs : List V)
  | sl (n : Nat) (xs : List V) (k : Tok)
  | ptr (i off : Nat)
  | bsl (i off n cap : Nat)
  | gsl (i n size : Nat)
  | ept (xs : List V) (off : Nat)
  | fn (f : FuncId) (cs : List V)
  | mp (i : Nat)
  | yld (i : Nat)
deriving Inhabited

/-- Values that hold no address. -/
def flat : Value → Bool
  | .bool _ | .int _ _ | .float _ _ | .string _ | .pointer none | .map none | .nilFunc | .nilIface | .iface _ _ => true
  | .func _ f c => f.isEmpty && c.isEmpty
  | .tuple c => c.isEmpty
  | _ => false

mutual
/-- No number of a box or a row in it. -/
def V.pure : V → Bool
  | .lit _ => true
  | .agg cs => V.pures cs
  | .tup cs => V.pures cs
  | .sl _ _ (.own _) => false
  | .sl _ _ _ => true
  | .ptr _ _ => false
  | .bsl _ _ _ _ => false
  | .gsl _ _ _ => false
  | .ept _ _ => true
  | .fn _ cs => V.pures cs
  | .mp _ => false
  | .yld _ => false
def V.pures : List V → Bool
  | [] => true
  | v :: l => V.pure v && V.pures l
end

/-- The value of one cell. -/
def V.one : V → Bool
  | .agg _ | .tup _ | .lit (.tuple _) | .lit (.agg _) => false
  | _ => true
/-- Cells that may stand for good. -/
def V.clean (l : List V) : Bool := V.pures l && l.all V.one
theorem clean_pures {l : List V} (h : V.clean l = true) : V.pures l = true := by rw [V.clean, Bool.and_eq_true] at h; exact h.1

/-- What the numbers mean in a memory: the cells that stand for good; each box's block; where a row's slice of some length lies (of a box that may grow: its block and its room, by the size of an element). -/
structure Env where
  M : Nat → Nat → Option Value
  φ : Nat → Option Nat
  loc : Nat → Nat → Option (Option Addr × Nat)

structure Env.Le (E E' : Env) : Prop where
  M : ∀ b o v, E.M b o = some v → E'.M b o = some v
  φ : ∀ i b, E.φ i = some b → E'.φ i = some b
  loc : ∀ i n x, E.loc i n = some x → E'.loc i n = some x
theorem Env.Le.refl (E : Env) : E.Le E := ⟨fun _ _ _ h => h, fun _ _ h => h, fun _ _ _ h => h⟩
theorem Env.Le.trans {E E' E'' : Env} (h : E.Le E') (h' : E'.Le E'') : E.Le E'' :=
  ⟨fun b o v x => h'.M b o v (h.M b o v x), fun i b x => h'.φ i b (h.φ i b x), fun i n x y => h'.loc i n x (h.loc i n x y)⟩

def TokR (E : Env) (n : Nat) (A : Option Addr) (cap : Nat) : Tok → Prop
  | .no => True
  | .exact => cap = n
  | .own t => E.loc t n = some (A, cap)

mutual
def VR (E : Env) : V → Value → Prop
  | .lit v, c => c = v ∧ flat v = true
  | .agg cs, c => ∃ a : Array Value, c = .agg a ∧ VRs E cs a.toList
  | .tup cs, c => ∃ a : Array Value, c = .tuple a ∧ VRs E cs a.toList
  | .sl n xs k, c => ∃ A cap, c = .slice A n cap ∧ n ≤ cap ∧ TokR E n A cap k ∧ V.clean xs = true ∧ (xs = [] ∨ ∃ b o, A = some ⟨b, o, none⟩ ∧ At E b o xs)
  | .ptr i off, c => ∃ b, E.φ i = some b ∧ c = .pointer (some ⟨b, off, none⟩)
  | .bsl i off n cap, c => ∃ b, E.φ i = some b ∧ ∃ cap', c = .slice (some ⟨b, off, none⟩) n cap' ∧ n ≤ cap ∧ cap ≤ cap'
  | .gsl i n size, c => ∃ b, E.φ i = some b ∧ ∃ cap', c = .slice (some ⟨b, 0, none⟩) n cap' ∧ n ≤ cap' ∧ E.loc i size = some (some ⟨b, 0, none⟩, cap')
  | .ept xs off, c => ∃ b o, c = .pointer (some ⟨b, o + off, none⟩) ∧ V.clean xs = true ∧ At E b o xs
  | .fn f cs, c => ∃ a : Array Value, c = .func (.func f) #[] a ∧ VRs E cs a.toList
  | .mp i, c => ∃ b, E.φ i = some b ∧ c = .map (some b)
  | .yld i, c => ∃ b, E.φ i = some b ∧ c = .func (.yield b) #[] #[]
def VRs (E : Env) : List V → List Value → Prop
  | [], l => l = []
  | v :: vs, l => ∃ c cs, l = c :: cs ∧ VR E v c ∧ VRs E vs cs
/-- The cells from o on in block b stand for good and are as listed. -/
def At (E : Env) (b : Nat) : Nat → List V → Prop
  | _, [] => True
  | o, v :: vs => (∃ c, E.M b o = some c ∧ VR E v c) ∧ At E b (o + 1) vs
end

section
variable {E E' : Env}
theorem TokR.mono {n cap : Nat} {A : Option Addr} (h : E.Le E') : ∀ {k : Tok}, TokR E n A cap k → TokR E' n A cap k
  | .no, _ => trivial
  | .exact, hk => hk
  | .own _, hk => h.loc _ _ _ hk

mutual
theorem VR.mono (h : E.Le E') : ∀ {v : V} {c : Value}, VR E v c → VR E' v c
  | .lit _, _, hv => by rw [VR] at hv ⊢; exact hv
  | .agg _, _, hv => by rw [VR] at hv ⊢; obtain ⟨a, e, h1⟩ := hv; exact ⟨a, e, VRs.mono h h1⟩
  | .tup _, _, hv => by rw [VR] at hv ⊢; obtain ⟨a, e, h1⟩ := hv; exact ⟨a, e, VRs.mono h h1⟩
  | .sl _ _ _, _, hv => by
    rw [VR] at hv ⊢
    obtain ⟨A, cap, e, hn, hk, hp, hx⟩ := hv
    exact ⟨A, cap, e, hn, hk.mono h, hp, hx.imp id fun ⟨b, o, e2, h2⟩ => ⟨b, o, e2, At.mono h h2⟩⟩
  | .ptr _ _, _, hv => by rw [VR] at hv ⊢; obtain ⟨b, h1, e⟩ := hv; exact ⟨b, h.φ _ _ h1, e⟩
  | .bsl _ _ _ _, _, hv => by rw [VR] at hv ⊢; obtain ⟨b, h1, e⟩ := hv; exact ⟨b, h.φ _ _ h1, e⟩
  | .gsl _ _ _, _, hv => by rw [VR] at hv ⊢; obtain ⟨b, h1, c, e, hn, hl⟩ := hv; exact ⟨b, h.φ _ _ h1, c, e, hn, h.loc _ _ _ hl⟩
  | .ept _ _, _, hv => by rw [VR] at hv ⊢; obtain ⟨b, o, e, hp, h1⟩ := hv; exact ⟨b, o, e, hp, At.mono h h1⟩
  | .fn _ _, _, hv => by rw [VR] at hv ⊢; obtain ⟨a, e, h1⟩ := hv; exact ⟨a, e, VRs.mono h h1⟩
  | .mp _, _, hv => by rw [VR] at hv ⊢; obtain ⟨b, h1, e⟩ := hv; exact ⟨b, h.φ _ _ h1, e⟩
  | .yld _, _, hv => by rw [VR] at hv ⊢; obtain ⟨b, h1, e⟩ := hv; exact ⟨b, h.φ _ _ h1, e⟩
theorem VRs.mono (h : E.Le E') : ∀ {vs : List V} {cs : List Value}, VRs E vs cs → VRs E' vs cs
  | [], _, hv => by rw [VRs] at hv ⊢; exact hv
  | _ :: _, _, hv => by rw [VRs] at hv ⊢; obtain ⟨c, cs, e, h1, h2⟩ := hv; exact ⟨c, cs, e, VR.mono h h1, VRs.mono h h2⟩
theorem At.mono (h : E.Le E') {b : Nat} : ∀ {o : Nat} {vs : List V}, At E b o vs → At E' b o vs
  | _, [], _ => by rw [At]; trivial
  | _, _ :: _, hv => by rw [At] at hv ⊢; obtain ⟨⟨c, e, h1⟩, h2⟩ := hv; exact ⟨⟨c, h.M _ _ _ e, VR.mono h h1⟩, At.mono h h2⟩
end

mutual
/-- Of a pure value only the standing cells matter. -/
theorem VR.pureM (h : ∀ b o v, E.M b o = some v → E'.M b o = some v) : ∀ {v : V} {c : Value}, v.pure = true → VR E v c → VR E' v c
  | .lit _, _, _, hv => by rw [VR] at hv ⊢; exact hv
  | .agg _, _, hp, hv => by rw [VR] at hv ⊢; rw [V.pure] at hp; obtain ⟨a, e, h1⟩ := hv; exact ⟨a, e, VRs.pureM h hp h1⟩
  | .tup _, _, hp, hv => by rw [VR] at hv ⊢; rw [V.pure] at hp; obtain ⟨a, e, h1⟩ := hv; exact ⟨a, e, VRs.pureM h hp h1⟩
  | .sl _ _ .no, _, _, hv => by
    rw [VR] at hv ⊢
    obtain ⟨A, cap, e, hn, hk, hp, hx⟩ := hv
    exact ⟨A, cap, e, hn, trivial, hp, hx.imp id fun ⟨b, o, e2, h2⟩ => ⟨b, o, e2, At.pureM h (clean_pures hp) h2⟩⟩
  | .sl _ _ .exact, _, _, hv => by
    rw [VR] at hv ⊢
    obtain ⟨A, cap, e, hn, hk, hp, hx⟩ := hv
    exact ⟨A, cap, e, hn, hk, hp, hx.imp id fun ⟨b, o, e2, h2⟩ => ⟨b, o, e2, At.pureM h (clean_pures hp) h2⟩⟩
  | .sl _ _ (.own _), _, hp, _ => by simp [V.pure] at hp
  | .ptr _ _, _, hp, _ => by simp [V.pure] at hp
  | .bsl _ _ _ _, _, hp, _ => by simp [V.pure] at hp
  | .gsl _ _ _, _, hp, _ => by simp [V.pure] at hp
  | .ept _ _, _, _, hv => by rw [VR] at hv ⊢; obtain ⟨b, o, e, hp, h1⟩ := hv; exact ⟨b, o, e, hp, At.pureM h (clean_pures hp) h1⟩
  | .fn _ _, _, hp, hv => by rw [VR] at hv ⊢; rw [V.pure] at hp; obtain ⟨a, e, h1⟩ := hv; exact ⟨a, e, VRs.pureM h hp h1⟩
  | .mp _, _, hp, _ => by simp [V.pure] at hp
  | .yld _, _, hp, _ => by simp [V.pure] at hp
theorem VRs.pureM (h : ∀ b o v, E.M b o = some v → E'.M b o = some v) : ∀ {vs : List V} {cs : List Value}, V.pures vs = true → VRs E vs cs → VRs E' vs cs
  | [], _, _, hv => by rw [VRs] at hv ⊢; exact hv
  | _ :: _, _, hp, hv => by
    rw [VRs] at hv ⊢
    rw [V.pures, Bool.and_eq_true] at hp
    obtain ⟨c, cs, e, h1, h2⟩ := hv
    exact ⟨c, cs, e, VR.pureM h hp.1 h1, VRs.pureM h hp.2 h2⟩
theorem At.pureM (h : ∀ b o v, E.M b o = some v → E'.M b o = some v) {b : Nat} : ∀ {o : Nat} {vs : List V}, V.pures vs = true → At E b o vs → At E' b o vs
  | _, [], _, _ => by rw [At]; trivial
  | _, _ :: _, hp, hv => by
    rw [At] at hv ⊢
    rw [V.pures, Bool.and_eq_true] at hp
    obtain ⟨⟨c, e, h1⟩, h2⟩ := hv
    exact ⟨⟨c, h _ _ _ e, VR.pureM h hp.1 h1⟩, At.pureM h hp.2 h2⟩
end

theorem VRs.length : ∀ {vs : List V} {cs : List Value}, VRs E vs cs → cs.length = vs.length
  | [], _, h => by rw [VRs] at h; subst h; rfl
  | _ :: _, _, h => by rw [VRs] at h; obtain ⟨c, cs, rfl, _, h2⟩ := h; simp [VRs.length h2]
theorem VRs.get : ∀ {vs : List V} {cs : List Value}, VRs E vs cs → ∀ {i : Nat} {v : V}, vs[i]? = some v → ∃ c, cs[i]? = some c ∧ VR E v c
  | [], _, _, i, v, hi => by simp at hi
  | _ :: _, _, h, i, v, hi => by
    rw [VRs] at h
    obtain ⟨c, cs, rfl, h1, h2⟩ := h
    cases i with
    | zero => simp at hi; subst hi; exact ⟨c, rfl, h1⟩
    | succ i => simpa using VRs.get h2 (i := i) (by simpa using hi)
theorem VRs.of_get : ∀ {vs : List V} {cs : List Value}, cs.length = vs.length → (∀ (i : Nat) (v : V) (c : Value), vs[i]? = some v → cs[i]? = some c → VR E v c) → VRs E vs cs
  | [], cs, hl, _ => by rw [VRs]; exact List.eq_nil_of_length_eq_zero hl
  | v :: vs, [], hl, _ => by simp at hl
  | v :: vs, c :: cs, hl, h => by
    rw [VRs]
    exact ⟨c, cs, rfl, h 0 v c rfl rfl, VRs.of_get (by simpa using hl) fun i v' c' hv hc => h (i + 1) v' c' (by simpa using hv) (by simpa using hc)⟩
theorem VRs.append {vs us : List V} {cs ds : List Value} (h : VRs E vs cs) (h' : VRs E us ds) : VRs E (vs ++ us) (cs ++ ds) := by
  refine VRs.of_get (by simp [h.length, h'.length]) fun i v c hv hc => ?_
  rw [List.getElem?_append] at hv hc
  rw [h.length] at hc
  split at hv
  · rename_i hlt
    rw [if_pos hlt] at hc
    obtain ⟨c', e, r⟩ := h.get hv
    rw [e] at hc; cases hc; exact r
  · rename_i hlt
    rw [if_neg hlt] at hc
    obtain ⟨c', e, r⟩ := h'.get hv
    rw [e] at hc; cases hc; exact r
theorem VRs.slice {vs : List V} {cs : List Value} (h : VRs E vs cs) (i n : Nat) : VRs E ((vs.drop i).take n) ((cs.drop i).take n) := by
  refine VRs.of_get (by simp [h.length]) fun j v c hv hc => ?_
  rw [List.getElem?_take] at hv hc
  split at hv
  · rename_i hlt
    rw [if_pos hlt, List.getElem?_drop] at hc
    rw [List.getElem?_drop] at hv
    obtain ⟨c', e, r⟩ := h.get hv
    rw [e] at hc; cases hc; exact r
  · cases hv

theorem At.get {b : Nat} : ∀ {vs : List V} {o : Nat}, At E b o vs → ∀ {i : Nat} {v : V}, vs[i]? = some v → ∃ c, E.M b (o + i) = some c ∧ VR E v c
  | [], _, _, i, v, hi => by simp at hi
  | _ :: _, o, h, i, v, hi => by
    rw [At] at h
    cases i with
    | zero => simp at hi; subst hi; exact h.1
    | succ i => have := At.get h.2 (i := i) (by simpa using hi); rwa [Nat.add_assoc, Nat.add_comm 1 i] at this
theorem At.of_get {b : Nat} : ∀ {vs : List V} {o : Nat}, (∀ (i : Nat) (v : V), vs[i]? = some v → ∃ c, E.M b (o + i) = some c ∧ VR E v c) → At E b o vs
  | [], _, _ => by rw [At]; trivial
  | v :: vs, o, h => by
    rw [At]
    exact ⟨h 0 v rfl, At.of_get fun i v' hv => by have := h (i + 1) v' (by simpa using hv); rwa [← Nat.add_assoc, Nat.add_right_comm] at this⟩
/-- The cells as the machine has them. -/
theorem At.cells {b : Nat} : ∀ {vs : List V} {o : Nat}, At E b o vs → ∃ cs : List Value, VRs E vs cs ∧ ∀ (j : Nat) (u : Value), cs[j]? = some u → E.M b (o + j) = some u
  | [], _, _ => ⟨[], by rw [VRs], fun j u h => by simp at h⟩
  | v :: vs, o, h => by
    rw [At] at h
    obtain ⟨⟨c, e, r⟩, h2⟩ := h
    obtain ⟨cs, r2, h3⟩ := At.cells h2
    refine ⟨c :: cs, by rw [VRs]; exact ⟨c, cs, rfl, r, r2⟩, fun j u hj => ?_⟩
    cases j with
    | zero => simp at hj; subst hj; exact e
    | succ j => have := h3 j u (by simpa using hj); rwa [Nat.add_assoc, Nat.add_comm 1 j] at this
theorem At.drop {b : Nat} {vs : List V} {o : Nat} (h : At E b o vs) (i n : Nat) : At E b (o + i) ((vs.drop i).take n) :=
  At.of_get fun j v hv => by
    rw [List.getElem?_take] at hv
    split at hv
    · rw [List.getElem?_drop] at hv; have := h.get hv; rwa [← Nat.add_assoc] at this
    · cases hv
theorem pures_iff {l : List V} : V.pures l = true ↔ ∀ v ∈ l, v.pure = true := by
  induction l with
  | nil => simp [V.pures]
  | cons v l ih => simp [V.pures, ih]
theorem pures_append {l l' : List V} : V.pures (l ++ l') = (V.pures l && V.pures l') := by
  induction l with
  | nil => simp [V.pures]
  | cons v l ih => simp [V.pures, ih, Bool.and_assoc]
theorem pures_slice {l : List V} (h : V.pures l = true) (i n : Nat) : V.pures ((l.drop i).take n) = true := by
  rw [pures_iff] at h ⊢
  exact fun v hv => h v (List.mem_of_mem_drop (List.mem_of_mem_take hv))
theorem pures_get {l : List V} (h : V.pures l = true) {i : Nat} {v : V} (hv : l[i]? = some v) : v.pure = true := pures_iff.1 h v (List.mem_of_getElem? hv)
theorem clean_iff {l : List V} : V.clean l = true ↔ V.pures l = true ∧ ∀ v ∈ l, v.one = true := by
  rw [V.clean, Bool.and_eq_true, List.all_eq_true]
theorem clean_slice {l : List V} (h : V.clean l = true) (i n : Nat) : V.clean ((l.drop i).take n) = true := by
  rw [clean_iff] at h ⊢
  exact ⟨pures_slice h.1 i n, fun v hv => h.2 v (List.mem_of_mem_drop (List.mem_of_mem_take hv))⟩
theorem clean_append {l l' : List V} (h : V.clean l = true) (h' : V.clean l' = true) : V.clean (l ++ l') = true := by
  rw [clean_iff] at h h' ⊢
  refine ⟨by rw [pures_append, h.1, h'.1]; rfl, fun v hv => ?_⟩
  rcases List.mem_append.1 hv with hv | hv
  · exact h.2 v hv
  · exact h'.2 v hv
theorem VR.one {v : V} {c : Value} (h : VR E v c) (h1 : v.one = true) : c.oneCell' = true := by
  cases v with
  | lit v => rw [VR] at h; obtain ⟨rfl, hf⟩ := h; cases c <;> first | rfl | (simp [V.one] at h1)
  | agg _ => simp [V.one] at h1
  | tup _ => simp [V.one] at h1
  | sl _ _ _ => rw [VR] at h; obtain ⟨_, _, rfl, _⟩ := h; rfl
  | ptr _ _ => rw [VR] at h; obtain ⟨_, _, rfl⟩ := h; rfl
  | bsl _ _ _ _ => rw [VR] at h; obtain ⟨_, _, _, rfl, _⟩ := h; rfl
  | gsl _ _ _ => rw [VR] at h; obtain ⟨_, _, _, rfl, _⟩ := h; rfl
  | ept _ _ => rw [VR] at h; obtain ⟨_, _, rfl, _⟩ := h; rfl
  | fn _ _ => rw [VR] at h; obtain ⟨_, rfl, _⟩ := h; rfl
  | mp _ => rw [VR] at h; obtain ⟨_, _, rfl⟩ := h; rfl
  | yld _ => rw [VR] at h; obtain ⟨_, _, rfl⟩ := h; rfl
theorem VRs.ones : ∀ {vs : List V} {cs : List Value}, VRs E vs cs → (∀ v ∈ vs, v.one = true) → ∀ c ∈ cs, c.oneCell' = true
  | [], _, h, _, c, hc => by rw [VRs] at h; subst h; cases hc
  | _ :: _, _, h, h1, c, hc => by
    rw [VRs] at h
    obtain ⟨c', cs, rfl, h2, h3⟩ := h
    rcases List.mem_cons.1 hc with rfl | hc
    · exact h2.one (h1 _ (List.mem_cons_self ..))
    · exact VRs.ones h3 (fun v hv => h1 v (List.mem_cons_of_mem _ hv)) c hc
end
end Go.Proofs.YtdefefeifcdogaaGreat
