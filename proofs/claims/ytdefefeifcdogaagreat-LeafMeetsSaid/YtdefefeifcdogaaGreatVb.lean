/- Memory by numbers: boxes and rows, what it means that a world holds them, steps from world to world, and calls. Nothing is proved of the program here. -/
import Derived.Test.YtdefefeifcdogaaGreatVa
set_option linter.unusedSimpArgs false
set_option linter.unusedVariables false
namespace Go.Proofs.YtdefefeifcdogaaGreat
open Go.RowKit

/-- A part of a map's key. -/
inductive MK where
  | int (n : Int)
  | bool (b : Bool)
  | str (s : List UInt8)
deriving DecidableEq, Inhabited
def MK.val : MK → Value
  | .int n => .int .i64 n
  | .bool b => .bool b
  | .str s => .string ⟨s.toArray⟩
/-- Of what kind a part is: 0 a number, 1 yes or no, 2 a text. -/
def MK.kind : MK → Nat
  | .int _ => 0
  | .bool _ => 1
  | .str _ => 2
/-- A key: one cell, or a record of cells. -/
def mkVal : List MK → Value
  | [k] => k.val
  | l => .agg (l.map MK.val).toArray
/-- How it stands with a loop over a function. -/
inductive LSt where
  | ready
  | busy
  | done (jump : Code)
/-- What is no row of cells: a map whose values are numbers; a loop over a function. -/
inductive Hob where
  | map (ks : List Nat) (es : List (List MK × Int))
  | loop (tmps : List V) (ps : Array Nat) (assign body : Code) (st : LSt)
inductive AObj where
  | box (cs : List V) (t : TypeId)
  | row (n : Nat) (e : TypeId) (size : Nat)
  | oth (h : Hob)
instance : Inhabited AObj := ⟨.row 0 0 0⟩
def stR : LSt → LoopState → Option Code → Prop
  | .ready, s, p => s = .ready ∧ p = none
  | .busy, s, _ => s = .busy
  | .done c, s, p => s = .done ∧ p = some c
/-- The object as the machine has it. -/
def HobR (E : Env) : Hob → Obj → Prop
  | .map ks es, o => ∃ (a : Array MapEntry) (clock : Nat), o = .map a clock ∧ (a.toList.map fun e => (e.key, e.val)) = (es.map fun x => (mkVal x.1, Value.int .i64 x.2)) ∧ ∀ x ∈ es, x.1.map MK.kind = ks
  | .loop tmps ps as bd st, o => ∃ r : Loop, o = .loop r ∧ VRs E tmps r.tmps.toList ∧ r.params = ps ∧ r.assign = as ∧ r.body = bd ∧ stR st r.state r.pending
theorem HobR.mono {E E' : Env} (h : E.Le E') : ∀ {x : Hob} {o : Obj}, HobR E x o → HobR E' x o
  | .map _ _, _, hx => hx
  | .loop _ _ _ _ _, _, ⟨r, h1, h3, h4⟩ => ⟨r, h1, VRs.mono h h3, h4⟩
theorem HobR.cell {E : Env} {w : World} {b o : Nat} : ∀ {x : Hob} {ob : Obj}, HobR E x ob → w.heap[b]? = some ob → w.cell? ⟨b, o, none⟩ = none
  | .map _ _, _, ⟨a, c, e, _⟩, h => by subst e; simp [World.cell?, h]
  | .loop _ _ _ _ _, _, ⟨r, e, _⟩, h => by subst e; simp [World.cell?, h]

structure Mm where
  obj : Nat → Option AObj
  next : Nat

def Mm.put (m : Mm) (i : Nat) (o : AObj) : Mm := ⟨fun j => if j = i then some o else m.obj j, m.next⟩
def Mm.put? (m : Mm) (i : Nat) : Option AObj → Mm
  | some o => m.put i o
  | none => m

/-- Number i holds block b. -/
def BlkOf (E : Env) (m : Mm) (i b : Nat) : Prop :=
  (∃ cs t, m.obj i = some (.box cs t) ∧ E.φ i = some b) ∨ (∃ n e size cap, m.obj i = some (.row n e size) ∧ E.loc i n = some (some ⟨b, 0, none⟩, cap) ∧ n < cap) ∨ (∃ h, m.obj i = some (.oth h) ∧ E.φ i = some b)

structure MemR (E : Env) (m : Mm) (w : World) : Prop where
  stable : ∀ b o v, E.M b o = some v → w.cell? ⟨b, o, none⟩ = some v
  fresh : ∀ i, m.next ≤ i → E.φ i = none ∧ (∀ n, E.loc i n = none) ∧ m.obj i = none
  box : ∀ i cs t, m.obj i = some (.box cs t) → ∃ b c, E.φ i = some b ∧ w.heap[b]? = some (.cells c t (0, 0)) ∧ VRs E cs (c.toList.take cs.length) ∧ ∀ o, E.M b o = none
  row : ∀ i n e size, m.obj i = some (.row n e size) → ∃ A cap, E.loc i n = some (A, cap) ∧ (∀ k, n < k → E.loc i k = none) ∧ n ≤ cap ∧
    (n < cap → ∃ b c, A = some ⟨b, 0, none⟩ ∧ w.heap[b]? = some (.cells c e (0, 0)) ∧ c.size = cap * size ∧ ∀ o, n * size ≤ o → E.M b o = none)
  oth : ∀ i h, m.obj i = some (.oth h) → ∃ b o, E.φ i = some b ∧ w.heap[b]? = some o ∧ HobR E h o
  inj : ∀ i j b, BlkOf E m i b → BlkOf E m j b → i = j
  siz : ∀ i cs t s A k b c, m.obj i = some (.box cs t) → E.loc i s = some (A, k) → E.φ i = some b → w.heap[b]? = some (.cells c t (0, 0)) → c.size = k * s

/-- From one world to a later one: numbers from X, and new ones, may come to mean something. -/
structure Step (X : Nat → Prop) (E : Env) (m : Mm) (w : World) (E' : Env) (m' : Mm) (w' : World) : Prop where
  le : E.Le E'
  next : m.next ≤ m'.next
  oldφ : ∀ i, i < m.next → ¬ X i → E'.φ i = E.φ i
  oldloc : ∀ i, i < m.next → ¬ X i → m.obj i = none → (∀ n, E'.loc i n = E.loc i n) ∧ m'.obj i = none
  os : w'.os = w.os
  tape : w'.tape = w.tape
  output : w'.output = w.output
  drawn : w.drawn ≤ w'.drawn
  size : w.heap.size ≤ w'.heap.size
  kept : ∀ b, b < w.heap.size → (∀ i, ¬ BlkOf E m i b) → w'.heap[b]? = w.heap[b]?
  blk : ∀ i b, BlkOf E' m' i b → b < w.heap.size → ∃ j, BlkOf E m j b
  newM : ∀ b o v, E'.M b o = some v → E.M b o = some v ∨ w.heap.size ≤ b ∨ ∃ i, BlkOf E m i b

def NoX : Nat → Prop := fun _ => False

theorem Step.refl (X : Nat → Prop) (E : Env) (m : Mm) (w : World) : Step X E m w E m w :=
  ⟨.refl E, Nat.le_refl _, fun _ _ _ => rfl, fun _ _ _ h => ⟨fun _ => rfl, h⟩, rfl, rfl, rfl, Nat.le_refl _, Nat.le_refl _, fun _ _ _ => rfl, fun i _ h _ => ⟨i, h⟩, fun _ _ _ h => .inl h⟩
theorem Step.trans {X : Nat → Prop} {E E1 E2 : Env} {m m1 m2 : Mm} {w w1 w2 : World} (h : Step X E m w E1 m1 w1) (k : Step X E1 m1 w1 E2 m2 w2) : Step X E m w E2 m2 w2 where
  le := h.le.trans k.le
  next := Nat.le_trans h.next k.next
  oldφ := fun i hi hx => (k.oldφ i (Nat.lt_of_lt_of_le hi h.next) hx).trans (h.oldφ i hi hx)
  oldloc := fun i hi hx ho =>
    have h1 := h.oldloc i hi hx ho
    have k1 := k.oldloc i (Nat.lt_of_lt_of_le hi h.next) hx h1.2
    ⟨fun n => (k1.1 n).trans (h1.1 n), k1.2⟩
  os := k.os.trans h.os
  tape := k.tape.trans h.tape
  output := k.output.trans h.output
  drawn := Nat.le_trans h.drawn k.drawn
  size := Nat.le_trans h.size k.size
  kept := fun b hb hn => (k.kept b (Nat.lt_of_lt_of_le hb h.size) fun i hi => by obtain ⟨j, hj⟩ := h.blk i b hi hb; exact hn j hj).trans (h.kept b hb hn)
  blk := fun i b hi hb => by obtain ⟨j, hj⟩ := k.blk i b hi (Nat.lt_of_lt_of_le hb h.size); exact h.blk j b hj hb
  newM := fun b o v hv => by
    rcases k.newM b o v hv with h1 | h1 | ⟨i, hi⟩
    · exact h.newM b o v h1
    · exact .inr (.inl (Nat.le_trans h.size h1))
    · rcases Nat.lt_or_ge b w.heap.size with hb | hb
      · exact .inr (.inr (h.blk i b hi hb))
      · exact .inr (.inl hb)
theorem Step.weaken {X Y : Nat → Prop} {E E1 : Env} {m m1 : Mm} {w w1 : World} (h : Step X E m w E1 m1 w1) (hX : ∀ i, i < m.next → X i → Y i) : Step Y E m w E1 m1 w1 :=
  { h with oldφ := fun i hi hy => h.oldφ i hi fun hx => hy (hX i hi hx), oldloc := fun i hi hy => h.oldloc i hi fun hx => hy (hX i hi hx) }
theorem Step.below {E E1 : Env} {m m1 : Mm} {w w1 : World} {X : Nat → Prop} (h : Step X E m w E1 m1 w1) (hm : ∀ i, m.obj i = none) : Below w.heap.size w w1 :=
  ⟨h.os, h.tape, h.output, h.size, fun b hb => h.kept b hb fun i hi => by
    rcases hi with ⟨_, _, h1, _⟩ | ⟨_, _, _, _, h1, _⟩ | ⟨_, h1, _⟩ <;> rw [hm i] at h1 <;> cases h1⟩
/-- A draw is a step. -/
theorem Step.drew {X : Nat → Prop} {E E1 : Env} {m m1 : Mm} {w w1 : World} (h : Step X E m w E1 m1 w1) : Step X E m w E1 m1 w1.drew :=
  { h with drawn := Nat.le_succ_of_le h.drawn }
theorem MemR.drew {E : Env} {m : Mm} {w : World} (h : MemR E m w) : MemR E m w.drew := ⟨h.stable, h.fresh, h.box, h.row, h.oth, h.inj, h.siz⟩
/-- More numbers are set aside. -/
theorem MemR.skip {E : Env} {m : Mm} {w : World} (h : MemR E m w) (k : Nat) : MemR E ⟨m.obj, m.next + k⟩ w :=
  ⟨h.stable, fun i hi => h.fresh i (Nat.le_trans (Nat.le_add_right _ _) hi), h.box, h.row, h.oth, h.inj, h.siz⟩

/-- What holds of the memory throughout: tables. -/
structure Ground where
  ok : (Nat → Nat → Option Value) → World → Prop
  mono : ∀ (X : Nat → Prop) (E E' : Env) (m m' : Mm) (w w' : World), MemR E m w → Step X E m w E' m' w' → ok E.M w → ok E'.M w'
  tab : Nat → List V
  tab_clean : ∀ g, V.clean (tab g) = true
  tab_ok : ∀ (E : Env) (w : World), ok E.M w → ∀ g, At E g 0 (tab g)

/-- A call, with numbers. -/
def SFn (P : Program) (G : Ground) (f : FuncId) (args : List V) (m : Mm) (Post : V → Mm → Prop) : Prop :=
  ∀ (E : Env) (w : World) (cargs : Array Value), G.ok E.M w → MemR E m w → VRs E args cargs.toList →
    Calls P f cargs w fun e w' => ∃ v r m' E', e = .returned v ∧ Post r m' ∧ Step NoX E m w E' m' w' ∧ MemR E' m' w' ∧ VR E' r v
/-- A call that only computes. -/
def Fn (P : Program) (G : Ground) (f : FuncId) (args : List V) (r : V) : Prop := ∀ m, SFn P G f args m fun r' m' => r' = r ∧ m' = m

theorem SFn.mono {P : Program} {G : Ground} {f : FuncId} {args : List V} {m : Mm} {Post Post' : V → Mm → Prop} (h : SFn P G f args m Post) (hp : ∀ r m', Post r m' → Post' r m') : SFn P G f args m Post' :=
  fun E w cargs hG hm hv => (h E w cargs hG hm hv).mono fun _ _ ⟨v, r, m', E', he, hP, hs, hm', hr⟩ => ⟨v, r, m', E', he, hp _ _ hP, hs, hm', hr⟩

/-! ### Numbers of a call's own go with it -/
def Env.restr (E : Env) (n : Nat) : Env := ⟨E.M, fun i => if i < n then E.φ i else none, fun i k => if i < n then E.loc i k else none⟩

mutual
/-- All numbers in it are below n. -/
def V.scoped (n : Nat) : V → Prop
  | .lit _ => True
  | .agg cs => V.scopeds n cs
  | .tup cs => V.scopeds n cs
  | .sl _ _ (.own t) => t < n
  | .sl _ _ _ => True
  | .ptr i _ => i < n
  | .bsl i _ _ _ => i < n
  | .gsl i _ _ => i < n
  | .ept _ _ => True
  | .fn _ cs => V.scopeds n cs
  | .mp i => i < n
  | .yld i => i < n
def V.scopeds (n : Nat) : List V → Prop
  | [] => True
  | v :: l => V.scoped n v ∧ V.scopeds n l
end

section
variable {E E' : Env} {n : Nat}
mutual
theorem VR.scoped (hφ : ∀ i, n ≤ i → E.φ i = none) (hl : ∀ i, n ≤ i → ∀ k, E.loc i k = none) : ∀ {v : V} {c : Value}, VR E v c → v.scoped n
  | .lit _, _, _ => by rw [V.scoped]; trivial
  | .agg _, _, h => by rw [VR] at h; rw [V.scoped]; obtain ⟨a, _, h1⟩ := h; exact VRs.scoped hφ hl h1
  | .tup _, _, h => by rw [VR] at h; rw [V.scoped]; obtain ⟨a, _, h1⟩ := h; exact VRs.scoped hφ hl h1
  | .sl _ _ .no, _, _ => by rw [V.scoped]; trivial; (intro t h; cases h)
  | .sl _ _ .exact, _, _ => by rw [V.scoped]; trivial; (intro t h; cases h)
  | .sl _ _ (.own t), _, h => by
    rw [VR] at h
    rw [V.scoped]
    obtain ⟨A, cap, _, _, hk, _⟩ := h
    rcases Nat.lt_or_ge t n with hlt | hge
    · exact hlt
    · rw [TokR, hl t hge] at hk; cases hk
  | .ptr i _, _, h => by
    rw [VR] at h
    rw [V.scoped]
    obtain ⟨b, hb, _⟩ := h
    rcases Nat.lt_or_ge i n with hlt | hge
    · exact hlt
    · rw [hφ i hge] at hb; cases hb
  | .gsl i _ _, _, h => by
    rw [VR] at h
    rw [V.scoped]
    obtain ⟨b, hb, _⟩ := h
    rcases Nat.lt_or_ge i n with hlt | hge
    · exact hlt
    · rw [hφ i hge] at hb; cases hb
  | .bsl i _ _ _, _, h => by
    rw [VR] at h
    rw [V.scoped]
    obtain ⟨b, hb, _⟩ := h
    rcases Nat.lt_or_ge i n with hlt | hge
    · exact hlt
    · rw [hφ i hge] at hb; cases hb
  | .ept _ _, _, _ => by rw [V.scoped]; trivial
  | .fn _ _, _, h => by rw [VR] at h; rw [V.scoped]; obtain ⟨a, _, h1⟩ := h; exact VRs.scoped hφ hl h1
  | .mp i, _, h => by
    rw [VR] at h
    rw [V.scoped]
    obtain ⟨b, hb, _⟩ := h
    rcases Nat.lt_or_ge i n with hlt | hge
    · exact hlt
    · rw [hφ i hge] at hb; cases hb
  | .yld i, _, h => by
    rw [VR] at h
    rw [V.scoped]
    obtain ⟨b, hb, _⟩ := h
    rcases Nat.lt_or_ge i n with hlt | hge
    · exact hlt
    · rw [hφ i hge] at hb; cases hb
theorem VRs.scoped (hφ : ∀ i, n ≤ i → E.φ i = none) (hl : ∀ i, n ≤ i → ∀ k, E.loc i k = none) : ∀ {v : List V} {c : List Value}, VRs E v c → V.scopeds n v
  | [], _, _ => by rw [V.scopeds]; trivial
  | _ :: _, _, h => by rw [VRs] at h; rw [V.scopeds]; obtain ⟨c, cs, _, h1, h2⟩ := h; exact ⟨VR.scoped hφ hl h1, VRs.scoped hφ hl h2⟩
end
mutual
theorem VR.restr : ∀ {v : V} {c : Value}, v.scoped n → VR E v c → VR (E.restr n) v c
  | .lit _, _, _, h => by rw [VR] at h ⊢; exact h
  | .agg _, _, hs, h => by rw [VR] at h ⊢; rw [V.scoped] at hs; obtain ⟨a, e, h1⟩ := h; exact ⟨a, e, VRs.restr hs h1⟩
  | .tup _, _, hs, h => by rw [VR] at h ⊢; rw [V.scoped] at hs; obtain ⟨a, e, h1⟩ := h; exact ⟨a, e, VRs.restr hs h1⟩
  | .sl _ _ .no, _, _, h => VR.pureM (E := E) (E' := E.restr n) (fun _ _ _ x => x) (by rw [V.pure]; (intro t h; cases h)) h
  | .sl _ _ .exact, _, _, h => VR.pureM (E := E) (E' := E.restr n) (fun _ _ _ x => x) (by rw [V.pure]; (intro t h; cases h)) h
  | .sl _ _ (.own t), _, hs, h => by
    rw [VR] at h ⊢
    rw [V.scoped] at hs
    obtain ⟨A, cap, e, hn, hk, hp, hx⟩ := h
    refine ⟨A, cap, e, hn, ?_, hp, hx.imp id fun ⟨b, o, e2, h2⟩ => ⟨b, o, e2, At.pureM (E := E) (E' := E.restr n) (fun _ _ _ x => x) (clean_pures hp) h2⟩⟩
    rw [TokR] at hk ⊢
    simp only [Env.restr, if_pos hs, hk]
  | .ptr i _, _, hs, h => by
    rw [VR] at h ⊢; rw [V.scoped] at hs; obtain ⟨b, hb, e⟩ := h; exact ⟨b, by simp only [Env.restr, if_pos hs, hb], e⟩
  | .gsl i _ _, _, hs, h => by
    rw [VR] at h ⊢; rw [V.scoped] at hs; obtain ⟨b, hb, c, e, hn, hl⟩ := h; exact ⟨b, by simp only [Env.restr, if_pos hs, hb], c, e, hn, by simp only [Env.restr, if_pos hs, hl]⟩
  | .bsl i _ _ _, _, hs, h => by
    rw [VR] at h ⊢; rw [V.scoped] at hs; obtain ⟨b, hb, e⟩ := h; exact ⟨b, by simp only [Env.restr, if_pos hs, hb], e⟩
  | .ept _ _, _, _, h => VR.pureM (E := E) (E' := E.restr n) (fun _ _ _ x => x) (by rw [V.pure]) h
  | .fn _ _, _, hs, h => by rw [VR] at h ⊢; rw [V.scoped] at hs; obtain ⟨a, e, h1⟩ := h; exact ⟨a, e, VRs.restr hs h1⟩
  | .mp i, _, hs, h => by
    rw [VR] at h ⊢; rw [V.scoped] at hs; obtain ⟨b, hb, e⟩ := h; exact ⟨b, by simp only [Env.restr, if_pos hs, hb], e⟩
  | .yld i, _, hs, h => by
    rw [VR] at h ⊢; rw [V.scoped] at hs; obtain ⟨b, hb, e⟩ := h; exact ⟨b, by simp only [Env.restr, if_pos hs, hb], e⟩
theorem VRs.restr : ∀ {v : List V} {c : List Value}, V.scopeds n v → VRs E v c → VRs (E.restr n) v c
  | [], _, _, h => by rw [VRs] at h ⊢; exact h
  | _ :: _, _, hs, h => by rw [VRs] at h ⊢; rw [V.scopeds] at hs; obtain ⟨c, cs, e, h1, h2⟩ := h; exact ⟨c, cs, e, VR.restr hs.1 h1, VRs.restr hs.2 h2⟩
end
end

theorem HobR.restr {E : Env} {n : Nat} {w : World} (hφ : ∀ i, n ≤ i → E.φ i = none) (hl : ∀ i, n ≤ i → ∀ k, E.loc i k = none) {E' : Env} : ∀ {x : Hob} {o o' : Obj}, HobR E x o → HobR E' x o' → HobR (E'.restr n) x o'
  | .map _ _, _, _, _, hx => hx
  | .loop _ _ _ _ _, _, _, ⟨r0, _, h3, _⟩, ⟨r, h1, h4, h5⟩ => ⟨r, h1, VRs.restr (VRs.scoped hφ hl h3) h4, h5⟩

mutual
/-- A value as others may see it: what is known of rows is dropped; there are no boxes in it. -/
def V.pub : V → Option V
  | .lit v => some (.lit v)
  | .agg cs => (V.pubs cs).map .agg
  | .tup cs => (V.pubs cs).map .tup
  | .sl n xs _ => some (.sl n xs .no)
  | .ptr _ _ => none
  | .bsl _ _ _ _ => none
  | .gsl _ _ _ => none
  | .ept xs o => some (.ept xs o)
  | .fn f cs => (V.pubs cs).map (.fn f)
  | .mp _ => none
  | .yld _ => none
def V.pubs : List V → Option (List V)
  | [] => some []
  | v :: l => (V.pub v).bind fun u => (V.pubs l).map fun us => u :: us
end
section
variable {E : Env}
mutual
theorem VR.pub : ∀ {v u : V} {c : Value}, v.pub = some u → VR E v c → VR E u c ∧ u.pure = true
  | .lit _, _, _, hp, h => by rw [V.pub] at hp; cases hp; exact ⟨h, by rw [V.pure]⟩
  | .agg _, _, _, hp, h => by
    rw [V.pub, Option.map_eq_some_iff] at hp
    obtain ⟨us, hus, rfl⟩ := hp
    rw [VR] at h; obtain ⟨a, e, h1⟩ := h
    have h2 := VRs.pub hus h1
    exact ⟨by rw [VR]; exact ⟨a, e, h2.1⟩, by rw [V.pure]; exact h2.2⟩
  | .tup _, _, _, hp, h => by
    rw [V.pub, Option.map_eq_some_iff] at hp
    obtain ⟨us, hus, rfl⟩ := hp
    rw [VR] at h; obtain ⟨a, e, h1⟩ := h
    have h2 := VRs.pub hus h1
    exact ⟨by rw [VR]; exact ⟨a, e, h2.1⟩, by rw [V.pure]; exact h2.2⟩
  | .sl _ _ _, _, _, hp, h => by
    rw [V.pub] at hp; cases hp
    rw [VR] at h
    obtain ⟨A, cap, e, hn, _, hx⟩ := h
    exact ⟨by rw [VR]; exact ⟨A, cap, e, hn, trivial, hx⟩, by rw [V.pure]; intro t h; cases h⟩
  | .ptr _ _, _, _, hp, _ => by rw [V.pub] at hp; cases hp
  | .bsl _ _ _ _, _, _, hp, _ => by rw [V.pub] at hp; cases hp
  | .gsl _ _ _, _, _, hp, _ => by rw [V.pub] at hp; cases hp
  | .ept _ _, _, _, hp, h => by rw [V.pub] at hp; cases hp; exact ⟨h, by rw [V.pure]⟩
  | .fn _ _, _, _, hp, h => by
    rw [V.pub, Option.map_eq_some_iff] at hp
    obtain ⟨us, hus, rfl⟩ := hp
    rw [VR] at h; obtain ⟨a, e, h1⟩ := h
    have h2 := VRs.pub hus h1
    exact ⟨by rw [VR]; exact ⟨a, e, h2.1⟩, by rw [V.pure]; exact h2.2⟩
  | .mp _, _, _, hp, _ => by rw [V.pub] at hp; cases hp
  | .yld _, _, _, hp, _ => by rw [V.pub] at hp; cases hp
theorem VRs.pub : ∀ {v u : List V} {c : List Value}, V.pubs v = some u → VRs E v c → VRs E u c ∧ V.pures u = true
  | [], _, _, hp, h => by rw [V.pubs] at hp; cases hp; exact ⟨h, by rw [V.pures]⟩
  | v :: l, _, _, hp, h => by
    rw [V.pubs, Option.bind_eq_some_iff] at hp
    obtain ⟨u, hu, hp⟩ := hp
    rw [Option.map_eq_some_iff] at hp
    obtain ⟨us, hus, rfl⟩ := hp
    rw [VRs] at h
    obtain ⟨c, cs, e, h1, h2⟩ := h
    have h3 := VR.pub hu h1
    have h4 := VRs.pub hus h2
    exact ⟨by rw [VRs]; exact ⟨c, cs, e, h3.1, h4.1⟩, by rw [V.pures, h3.2, h4.2]; rfl⟩
end
end

/-- A call's boxes and rows are forgotten where nothing that it returns speaks of them. -/
theorem SFn.drop {P : Program} {G : Ground} {f : FuncId} {args : List V} {m : Mm} {Q : V → Prop}
    (h : SFn P G f args m fun r' m' => ∃ r, r'.pub = some r ∧ Q r ∧ ∀ i, i < m.next → m'.obj i = m.obj i) : SFn P G f args m fun r' m' => Q r' ∧ m' = m := by
  intro E w cargs hG hm hv
  refine (h E w cargs hG hm hv).mono ?_
  rintro e w' ⟨v, r', m', E', he, ⟨r, hr, hQ, ho⟩, hs, hm', hvr⟩
  have lt : ∀ i o, m.obj i = some o → i < m.next := fun i o hi => by
    rcases Nat.lt_or_ge i m.next with h1 | h1
    · exact h1
    · rw [(hm.fresh i h1).2.2] at hi; cases hi
  have hre : ∀ {i : Nat}, i < m.next → (E'.restr m.next).φ i = E'.φ i := fun hi => by simp only [Env.restr, if_pos hi]
  have hrl : ∀ {i : Nat}, i < m.next → ∀ k, (E'.restr m.next).loc i k = E'.loc i k := fun hi k => by simp only [Env.restr, if_pos hi]
  have hB : ∀ i b, BlkOf (E'.restr m.next) m i b → BlkOf E' m' i b := by
    rintro i b (⟨cs, t, h1, h2⟩ | ⟨n, e, size, cap, h1, h2, h3⟩ | ⟨x, h1, h2⟩)
    · have hi := lt i _ h1
      exact .inl ⟨cs, t, (ho i hi).trans h1, (hre hi).symm.trans h2⟩
    · have hi := lt i _ h1
      exact .inr (.inl ⟨n, e, size, cap, (ho i hi).trans h1, (hrl hi n).symm.trans h2, h3⟩)
    · have hi := lt i _ h1
      exact .inr (.inr ⟨x, (ho i hi).trans h1, (hre hi).symm.trans h2⟩)
  have hp := VR.pub hr hvr
  refine ⟨v, r, m, E'.restr m.next, he, ⟨hQ, rfl⟩, ⟨⟨hs.le.M, ?_, ?_⟩, Nat.le_refl _, ?_, ?_, hs.os, hs.tape, hs.output, hs.drawn, hs.size, hs.kept, fun i b hi hb => hs.blk i b (hB i b hi) hb, hs.newM⟩, ⟨hm'.stable, ?_, ?_, ?_, ?_, ?_, ?_⟩, VR.pureM (E := E') (E' := E'.restr m.next) (fun _ _ _ x => x) hp.2 hp.1⟩
  · intro i b hb
    have hi : i < m.next := by
      rcases Nat.lt_or_ge i m.next with h1 | h1
      · exact h1
      · rw [(hm.fresh i h1).1] at hb; cases hb
    rw [hre hi]; exact hs.le.φ i b hb
  · intro i n x hx
    have hi : i < m.next := by
      rcases Nat.lt_or_ge i m.next with h1 | h1
      · exact h1
      · rw [(hm.fresh i h1).2.1 n] at hx; cases hx
    rw [hrl hi]; exact hs.le.loc i n x hx
  · intro i hi _; rw [hre hi]; exact hs.oldφ i hi (fun h => h)
  · intro i hi _ hoi
    exact ⟨fun n => by rw [hrl hi]; exact (hs.oldloc i hi (fun h => h) hoi).1 n, hoi⟩
  · intro i hi
    exact ⟨by simp only [Env.restr, if_neg (Nat.not_lt.2 hi)], fun n => by simp only [Env.restr, if_neg (Nat.not_lt.2 hi)], (hm.fresh i hi).2.2⟩
  · intro i cs t hi
    have hlt := lt i _ hi
    obtain ⟨b, c, h1, h2, h3, h4⟩ := hm'.box i cs t ((ho i hlt).trans hi)
    obtain ⟨b0, c0, _, _, h5, _⟩ := hm.box i cs t hi
    have hsc := VRs.scoped (fun j hj => (hm.fresh j hj).1) (fun j hj => (hm.fresh j hj).2.1) h5
    exact ⟨b, c, (hre hlt).trans h1, h2, VRs.restr hsc h3, h4⟩
  · intro i n e size hi
    have hlt := lt i _ hi
    obtain ⟨A, cap, h1, h2, h3, h4⟩ := hm'.row i n e size ((ho i hlt).trans hi)
    exact ⟨A, cap, (hrl hlt n).trans h1, fun k hk => (hrl hlt k).trans (h2 k hk), h3, h4⟩
  · intro i x hi
    have hlt := lt i _ hi
    obtain ⟨b, o, h1, h2, h3⟩ := hm'.oth i x ((ho i hlt).trans hi)
    obtain ⟨b0, o0, _, _, h5⟩ := hm.oth i x hi
    exact ⟨b, o, (hre hlt).trans h1, h2, HobR.restr (w := w) (fun j hj => (hm.fresh j hj).1) (fun j hj => (hm.fresh j hj).2.1) h5 h3⟩
  · exact fun i j b hi hj => hm'.inj i j b (hB i b hi) (hB j b hj)
  · intro i cs t s A k b c hi hl hφ hh
    have hlt := lt i _ hi
    exact hm'.siz i cs t s A k b c ((ho i hlt).trans hi) ((hrl hlt s).symm.trans hl) ((hre hlt).symm.trans hφ) hh
/-- A call's boxes and rows are forgotten. -/
theorem forget {E E' : Env} {m m' : Mm} {w w' : World} (hm : MemR E m w) (hs : Step NoX E m w E' m' w') (hm' : MemR E' m' w') (ho : ∀ i, i < m.next → m'.obj i = m.obj i) :
    Step NoX E m w (E'.restr m.next) m w' ∧ MemR (E'.restr m.next) m w' ∧ ∀ i b, BlkOf (E'.restr m.next) m i b → BlkOf E' m' i b := by
  have lt : ∀ i o, m.obj i = some o → i < m.next := fun i o hi => by
    rcases Nat.lt_or_ge i m.next with h1 | h1
    · exact h1
    · rw [(hm.fresh i h1).2.2] at hi; cases hi
  have hre : ∀ {i : Nat}, i < m.next → (E'.restr m.next).φ i = E'.φ i := fun hi => by simp only [Env.restr, if_pos hi]
  have hrl : ∀ {i : Nat}, i < m.next → ∀ k, (E'.restr m.next).loc i k = E'.loc i k := fun hi k => by simp only [Env.restr, if_pos hi]
  have hB : ∀ i b, BlkOf (E'.restr m.next) m i b → BlkOf E' m' i b := by
    rintro i b (⟨cs, t, h1, h2⟩ | ⟨n, e, size, cap, h1, h2, h3⟩ | ⟨x, h1, h2⟩)
    · have hi := lt i _ h1
      exact .inl ⟨cs, t, (ho i hi).trans h1, (hre hi).symm.trans h2⟩
    · have hi := lt i _ h1
      exact .inr (.inl ⟨n, e, size, cap, (ho i hi).trans h1, (hrl hi n).symm.trans h2, h3⟩)
    · have hi := lt i _ h1
      exact .inr (.inr ⟨x, (ho i hi).trans h1, (hre hi).symm.trans h2⟩)
  refine ⟨⟨⟨hs.le.M, ?_, ?_⟩, Nat.le_refl _, ?_, ?_, hs.os, hs.tape, hs.output, hs.drawn, hs.size, hs.kept, fun i b hi hb => hs.blk i b (hB i b hi) hb, hs.newM⟩, ⟨hm'.stable, ?_, ?_, ?_, ?_, ?_, ?_⟩, hB⟩
  · intro i b hb
    have hi : i < m.next := by
      rcases Nat.lt_or_ge i m.next with h1 | h1
      · exact h1
      · rw [(hm.fresh i h1).1] at hb; cases hb
    rw [hre hi]; exact hs.le.φ i b hb
  · intro i n x hx
    have hi : i < m.next := by
      rcases Nat.lt_or_ge i m.next with h1 | h1
      · exact h1
      · rw [(hm.fresh i h1).2.1 n] at hx; cases hx
    rw [hrl hi]; exact hs.le.loc i n x hx
  · intro i hi _; rw [hre hi]; exact hs.oldφ i hi (fun h => h)
  · intro i hi _ hoi
    exact ⟨fun n => by rw [hrl hi]; exact (hs.oldloc i hi (fun h => h) hoi).1 n, hoi⟩
  · intro i hi
    exact ⟨by simp only [Env.restr, if_neg (Nat.not_lt.2 hi)], fun n => by simp only [Env.restr, if_neg (Nat.not_lt.2 hi)], (hm.fresh i hi).2.2⟩
  · intro i cs t hi
    have hlt := lt i _ hi
    obtain ⟨b, c, h1, h2, h3, h4⟩ := hm'.box i cs t ((ho i hlt).trans hi)
    obtain ⟨b0, c0, _, _, h5, _⟩ := hm.box i cs t hi
    have hsc := VRs.scoped (fun j hj => (hm.fresh j hj).1) (fun j hj => (hm.fresh j hj).2.1) h5
    exact ⟨b, c, (hre hlt).trans h1, h2, VRs.restr hsc h3, h4⟩
  · intro i n e size hi
    have hlt := lt i _ hi
    obtain ⟨A, cap, h1, h2, h3, h4⟩ := hm'.row i n e size ((ho i hlt).trans hi)
    exact ⟨A, cap, (hrl hlt n).trans h1, fun k hk => (hrl hlt k).trans (h2 k hk), h3, h4⟩
  · intro i x hi
    have hlt := lt i _ hi
    obtain ⟨b, o, h1, h2, h3⟩ := hm'.oth i x ((ho i hlt).trans hi)
    obtain ⟨b0, o0, _, _, h5⟩ := hm.oth i x hi
    exact ⟨b, o, (hre hlt).trans h1, h2, HobR.restr (w := w) (fun j hj => (hm.fresh j hj).1) (fun j hj => (hm.fresh j hj).2.1) h5 h3⟩
  · exact fun i j b hi hj => hm'.inj i j b (hB i b hi) (hB j b hj)
  · intro i cs t s A k b c hi hl hφ hh
    have hlt := lt i _ hi
    exact hm'.siz i cs t s A k b c ((ho i hlt).trans hi) ((hrl hlt s).symm.trans hl) ((hre hlt).symm.trans hφ) hh
/-- What a call leaves that gives a box of its own. -/
def BPost (n : Nat) (xs : List V) (e : TypeId) (m : Mm) (r : V) (m' : Mm) : Prop := (∀ q, q < m.next → m'.obj q = m.obj q) ∧
  ((n = 0 ∧ r = .sl 0 [] .exact) ∨ (n ≠ 0 ∧ V.clean xs = true ∧ ∃ i, m.next ≤ i ∧ r = .bsl i 0 n n ∧ m'.obj i = some (.box xs e)))
/-- A call that gives a box of its own. -/
def BFn (P : Program) (G : Ground) (f : FuncId) (args : List V) (n : Nat) (xs : List V) (e : TypeId) : Prop := ∀ m, SFn P G f args m (BPost n xs e m)
end Go.Proofs.YtdefefeifcdogaaGreat
