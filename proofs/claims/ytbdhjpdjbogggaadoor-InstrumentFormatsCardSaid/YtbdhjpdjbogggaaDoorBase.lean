/- Plain words on memory, and the model functions, that the walks of this seat use. Nothing is proved of the program here. -/
import Derived.Test.YtbdhjpdjbogggaaDoorProg
import Derived.WalkKit
import Derived.WalkSpells
import Derived.StillTactics
import Derived.Deep.QuietTactic
import Derived.BigQuiet
import Derived.BigRegion
import Derived.Lib.Hide
import Derived.Deep.AppendLies
namespace Go.Proofs.YtbdhjpdjbogggaaDoor
open Go.RowKit

/-- A slice value's cells: block below B, each cell as listed. -/
def Arr (w : World) (B size : Nat) (A : Option Addr) (n : Nat) (xs : List Value) : Prop :=
  xs.length = n * size ∧ (0 < n → ∃ b o, A = some ⟨b, o, none⟩ ∧ b < B ∧ ∀ j u, xs[j]? = some u → w.cell? ⟨b, o + j, none⟩ = some u)

theorem bcell {W w1 : World} {B : Nat} (hb : Below B W w1) : (∀ b o, b < B → w1.cell? ⟨b, o, none⟩ = W.cell? ⟨b, o, none⟩) ∧ (∀ b o, b < B → w1.frozen? ⟨b, o, none⟩ = W.frozen? ⟨b, o, none⟩) :=
  ⟨fun b o h => hb.cell (p := ⟨b, o, none⟩) h, fun b o h => hb.frozen (p := ⟨b, o, none⟩) h⟩

theorem below_drewN {B : Nat} {a w : World} (h : Below B a w) (n : Nat) : Below B a (w.drewN n) := ⟨h.os, h.tape, h.output, h.size, h.block⟩

theorem below_box {w wr : World} {o : Obj} (h : Below (w.heap.size + 1) (w.alloc o) wr) : Below w.heap.size w wr :=
  ((Below.refl _ _).alloc (Nat.le_refl _) o).trans (h.mono (by omega))
section
variable {w w' : World} {B B' size n : Nat} {A : Option Addr} {xs : List Value}
theorem Arr.below (h : Arr w B size A n xs) {K : Nat} (hb : Below K w w') (hK : B ≤ K) : Arr w' B size A n xs :=
  ⟨h.1, fun hn => by
    obtain ⟨b, o, e, hlt, hc⟩ := h.2 hn
    exact ⟨b, o, e, hlt, fun j u hu => (hb.cell (p := ⟨b, o + j, none⟩) (by show b < K; omega)).trans (hc j u hu)⟩⟩
theorem Arr.more (h : Arr w B size A n xs) (hB : B ≤ B') : Arr w B' size A n xs :=
  ⟨h.1, fun hn => by
    obtain ⟨b, o, e, hlt, hc⟩ := h.2 hn
    exact ⟨b, o, e, by omega, hc⟩⟩
/-- From a call's start to a later world: the block bound moves up with the heap. -/
theorem Arr.up (h : Arr w w.heap.size size A n xs) (hb : Below w.heap.size w w') : Arr w' w'.heap.size size A n xs :=
  (h.below hb (Nat.le_refl _)).more hb.size
end

theorem post_ret {P : Program} {fn : Func} {a : Act} {w : World} {v : Value} {R : World → Prop} (hd : a.defers = []) (hr : (results fn a.tmps).run P w = .ok v w) (hw : R w) :
    bodyPost P fn (fun e w' => e = .returned v ∧ R w') .ret a w := ⟨hd, v, hr, rfl, hw⟩
theorem frz_alloc (w : World) : ∀ x b o, b < w.heap.size → (w.alloc x).frozen? ⟨b, o, none⟩ = w.frozen? ⟨b, o, none⟩ :=
  fun x b _ h => World.frozen?_of_block (Below.heap_alloc w x b h)
/-- A block that is known whole. -/
def Blk (w : World) (g : Nat) (t : TypeId) (cs : Array Value) : Prop := w.heap[g]? = some (.cells cs t (0, 0))
section
variable {w w' : World} {g : Nat} {t : TypeId} {cs : Array Value}
theorem Blk.lt (h : Blk w g t cs) : g < w.heap.size := by
  rcases Nat.lt_or_ge g w.heap.size with hlt | hge
  · exact hlt
  · unfold Blk at h; rw [Array.getElem?_eq_none hge] at h; cases h
theorem Blk.cell (h : Blk w g t cs) (i : Nat) : w.cell? ⟨g, i, none⟩ = cs[i]? := cell_of_row w g i cs t (0, 0) h
theorem Blk.frozen (h : Blk w g t cs) (i : Nat) : w.frozen? ⟨g, i, none⟩ = false := by
  unfold Blk at h
  simp [World.frozen?, h]
theorem Blk.new (w : World) (t : TypeId) (cs : Array Value) : Blk (w.alloc (.cells cs t)) w.heap.size t cs := heap_alloc_new w _
theorem Blk.alloc (h : Blk w g t cs) (o : Obj) : Blk (w.alloc o) g t cs := (Below.heap_alloc w o g h.lt).trans h
theorem Blk.drewN (h : Blk w g t cs) (n : Nat) : Blk (w.drewN n) g t cs := h
theorem Blk.drew (h : Blk w g t cs) : Blk w.drew g t cs := h
theorem Blk.set_ (h : Blk w g t cs) (i : Nat) (u : Value) : Blk (w.setCell ⟨g, i, none⟩ u) g t (cs.setIfInBounds i u) := by
  unfold Blk at h ⊢
  simp [World.setCell, Array.getElem?_modify, h]
theorem Blk.far (h : Blk w g t cs) {p : Addr} (hp : g ≠ p.block) (u : Value) : Blk (w.setCell p u) g t cs := (Below.heap_setCell w p u g hp).trans h
theorem Blk.below {B : Nat} (h : Blk w g t cs) (hb : Below B w w') (hg : g < B) : Blk w' g t cs := (hb.block g hg).trans h
theorem Blk.grown {row : Option Nat} (h : Blk w g t cs) (hb : w.grownBy w' row) (hg : some g ≠ row) : Blk w' g t cs := (hb.block g h.lt hg).trans h
end
theorem own_up {w w' : World} {base : Nat} {e : TypeId} {size n K : Nat} {v : Value} {xs : List Value} (h : w.ownsRow base e size v n xs) (hb : Below K w w') (hK : w.heap.size ≤ K) : w'.ownsRow base e size v n xs := by
  refine ⟨h.1, ?_⟩
  rcases h.2 with h0 | ⟨g, cap, cur, hv, hbg, hg, h1⟩
  · exact .inl h0
  · exact .inr ⟨g, cap, cur, hv, hbg, (hb.block g (Nat.lt_of_lt_of_le (Blk.lt hg) hK)).trans hg, h1⟩
theorem own_far {w : World} {base : Nat} {e : TypeId} {size n : Nat} {v : Value} {xs : List Value} (h : w.ownsRow base e size v n xs) {p : Addr} (hp : p.block < base) (u : Value) : (w.setCell p u).ownsRow base e size v n xs :=
  ownsRow_setCell_below h hp u
theorem own_ne {w : World} {base : Nat} {e : TypeId} {size n : Nat} {v : Value} {xs : List Value} (h : w.ownsRow base e size v n xs) {b : Nat} (hb : b < base) : some b ≠ v.ownBlock := by
  intro he
  have := (h.lt b he.symm).1
  omega
/-- What a call owns is an array that can be read. -/
theorem Arr.of_own {w : World} {base : Nat} {e : TypeId} {size n cap : Nat} {A : Option Addr} {xs : List Value} (h : w.ownsRow base e size (.slice A n cap) n xs) : Arr w w.heap.size size A n xs := by
  refine ⟨h.1, fun hn => ?_⟩
  obtain ⟨g, c, hv, _, hlt⟩ := h.form hn
  have hA : A = some ⟨g, 0, none⟩ := by injection hv
  subst hA
  refine ⟨g, 0, rfl, hlt, fun j u hu => ?_⟩
  have := h.cells (g := g) rfl j u hu
  rwa [Addr.add_lit] at this
theorem Arr.nil_ (w : World) (size : Nat) : Arr w w.heap.size size none 0 [] := ⟨by simp, fun h => absurd h (by omega)⟩
theorem news1 (w : World) (cs : Array Value) (t : TypeId) : ∀ j u, cs.toList[j]? = some u → (w.alloc (.cells cs t)).cell? ((⟨w.heap.size, 0, none⟩ : Addr).add j) = some u :=
  World.news_of_block (heap_alloc_new w _)
theorem news2 (w : World) (a : Obj) (cs : Array Value) (t : TypeId) : ∀ j u, cs.toList[j]? = some u → ((w.alloc a).alloc (.cells cs t)).cell? ((⟨w.heap.size + 1, 0, none⟩ : Addr).add j) = some u := by
  have h := news1 (w.alloc a) cs t
  rw [World.size_alloc] at h
  exact h
/-- A callee that only makes memory, as its caller wants it. -/
theorem lift {P : Program} {f : FuncId} {args : Array Value} {v : Value} {w W : World} (k : Nat) (h : Calls P f args W fun e w' => e = .returned v ∧ Below W.heap.size W w')
    (hW : Below w.heap.size w W) (hz : w.heap.size + k ≤ W.heap.size) : Calls P f args W fun e w' => e = .returned v ∧ Below (w.heap.size + k) W w' ∧ Below w.heap.size w w' :=
  h.mono fun _ _ ⟨he, hb⟩ => ⟨he, hb.mono hz, hW.trans (hb.mono hW.size)⟩

/-- What every function of the package leans on: the two tables, and the library's one variable that Cut and Split read. -/
structure Gnd (w : World) : Prop where
  f0 : w.cell? ⟨0, 0, none⟩ = some (.int .i64 0)
  f1 : w.cell? ⟨0, 1, none⟩ = some (.int .i64 2)
  f2 : w.cell? ⟨0, 2, none⟩ = some (.int .i64 4)
  f3 : w.cell? ⟨0, 3, none⟩ = some (.int .i64 (-1))
  f4 : w.cell? ⟨0, 4, none⟩ = some (.int .i64 1)
  f5 : w.cell? ⟨0, 5, none⟩ = some (.int .i64 3)
  f6 : w.cell? ⟨0, 6, none⟩ = some (.int .i64 5)
  b0 : w.cell? ⟨1, 0, none⟩ = some (.int .i64 0)
  b1 : w.cell? ⟨1, 1, none⟩ = some (.int .i64 2)
  b2 : w.cell? ⟨1, 2, none⟩ = some (.int .i64 4)
  b3 : w.cell? ⟨1, 3, none⟩ = some (.int .i64 5)
  b4 : w.cell? ⟨1, 4, none⟩ = some (.int .i64 7)
  b5 : w.cell? ⟨1, 5, none⟩ = some (.int .i64 9)
  b6 : w.cell? ⟨1, 6, none⟩ = some (.int .i64 11)
  ml : ∃ m, w.cell? ⟨2, 0, none⟩ = some (.int .i64 m)
  sz : 8 ≤ w.heap.size

def fifL : List Int := [0, 2, 4, -1, 1, 3, 5]
def basL : List Int := [0, 2, 4, 5, 7, 9, 11]
def fif (l : Int) : Int := fifL.getD l.toNat 0
def bas (l : Int) : Int := basL.getD l.toNat 0

theorem Gnd.below {w w' : World} (h : Gnd w) {B : Nat} (hb : Below B w w') (hB : 8 ≤ B) : Gnd w' := by
  have k : ∀ b o, b < 8 → w'.cell? ⟨b, o, none⟩ = w.cell? ⟨b, o, none⟩ := fun b o h' => hb.cell (p := ⟨b, o, none⟩) (by show b < B; omega)
  exact ⟨(k _ _ (by omega)).trans h.f0, (k _ _ (by omega)).trans h.f1, (k _ _ (by omega)).trans h.f2, (k _ _ (by omega)).trans h.f3, (k _ _ (by omega)).trans h.f4,
    (k _ _ (by omega)).trans h.f5, (k _ _ (by omega)).trans h.f6, (k _ _ (by omega)).trans h.b0, (k _ _ (by omega)).trans h.b1, (k _ _ (by omega)).trans h.b2,
    (k _ _ (by omega)).trans h.b3, (k _ _ (by omega)).trans h.b4, (k _ _ (by omega)).trans h.b5, (k _ _ (by omega)).trans h.b6,
    h.ml.elim fun m hm => ⟨m, (k _ _ (by omega)).trans hm⟩, Nat.le_trans h.sz hb.size⟩
theorem Gnd.up {w w' : World} (h : Gnd w) (hb : Below w.heap.size w w') : Gnd w' := h.below hb h.sz
theorem Gnd.fif {w : World} (h : Gnd w) {l : Int} (h0 : 0 ≤ l) (h6 : l ≤ 6) : w.cell? ⟨0, l.toNat, none⟩ = some (.int .i64 (fif l)) := by
  have : l = 0 ∨ l = 1 ∨ l = 2 ∨ l = 3 ∨ l = 4 ∨ l = 5 ∨ l = 6 := by omega
  rcases this with rfl | rfl | rfl | rfl | rfl | rfl | rfl
  · exact h.f0
  · exact h.f1
  · exact h.f2
  · exact h.f3
  · exact h.f4
  · exact h.f5
  · exact h.f6
theorem Gnd.bas {w : World} (h : Gnd w) {l : Int} (h0 : 0 ≤ l) (h6 : l ≤ 6) : w.cell? ⟨1, l.toNat, none⟩ = some (.int .i64 (bas l)) := by
  have : l = 0 ∨ l = 1 ∨ l = 2 ∨ l = 3 ∨ l = 4 ∨ l = 5 ∨ l = 6 := by omega
  rcases this with rfl | rfl | rfl | rfl | rfl | rfl | rfl
  · exact h.b0
  · exact h.b1
  · exact h.b2
  · exact h.b3
  · exact h.b4
  · exact h.b5
  · exact h.b6
theorem bas_bd {l : Int} (h0 : 0 ≤ l) (h6 : l ≤ 6) : 0 ≤ bas l ∧ bas l ≤ 11 := by
  have : l = 0 ∨ l = 1 ∨ l = 2 ∨ l = 3 ∨ l = 4 ∨ l = 5 ∨ l = 6 := by omega
  rcases this with rfl | rfl | rfl | rfl | rfl | rfl | rfl <;> decide
theorem fif_bd {l : Int} (h0 : 0 ≤ l) (h6 : l ≤ 6) : -1 ≤ fif l ∧ fif l ≤ 5 := by
  have : l = 0 ∨ l = 1 ∨ l = 2 ∨ l = 3 ∨ l = 4 ∨ l = 5 ∨ l = 6 := by omega
  rcases this with rfl | rfl | rfl | rfl | rfl | rfl | rfl <;> decide

/-! ### Instruments -/
structure Crs where
  p : Int
  f : Int
  o : Bool
deriving DecidableEq, Inhabited
def Crs.cells (c : Crs) : List Value := [.int .i64 c.p, .int .i64 c.f, .bool c.o]
def cells3 (cs : List Crs) : List Value := cs.flatMap Crs.cells

theorem cells3_length (cs : List Crs) : (cells3 cs).length = cs.length * 3 := by
  induction cs with
  | nil => rfl
  | cons c r ih => simp only [cells3, List.flatMap_cons, List.length_append] at ih ⊢; simp [ih, Crs.cells]; omega
theorem cells3_at (cs : List Crs) (k : Nat) (h : k < cs.length) :
    (cells3 cs)[k * 3]? = some (.int .i64 (cs.getD k default).p) ∧ (cells3 cs)[k * 3 + 1]? = some (.int .i64 (cs.getD k default).f) ∧ (cells3 cs)[k * 3 + 2]? = some (.bool (cs.getD k default).o) := by
  induction cs generalizing k with
  | nil => simp at h
  | cons c r ih =>
    cases k with
    | zero => simp [cells3, Crs.cells]
    | succ k =>
      have := ih k (by simpa using h)
      have e : (k + 1) * 3 = k * 3 + 3 := by omega
      simp only [e, cells3, List.flatMap_cons, Crs.cells, List.cons_append, List.nil_append, List.getElem?_cons_succ, List.getD_cons_succ] at this ⊢
      exact this

theorem Arr.int_at {w : World} {B n : Nat} {A : Option Addr} {ss : List Int} (h : Arr w B 1 A n (ss.map (Value.int .i64))) {k : Nat} (hk : k < n) :
    ∃ b o, A = some ⟨b, o, none⟩ ∧ b < B ∧ w.cell? ⟨b, o + k, none⟩ = some (.int .i64 (ss.getD k 0)) := by
  obtain ⟨b, o, e, hb, hc⟩ := h.2 (by omega)
  have hl : k < ss.length := by have := h.1; simp at this; omega
  exact ⟨b, o, e, hb, hc k _ (by simp [List.getElem?_map, List.getElem?_eq_getElem hl, List.getD_eq_getElem?_getD])⟩
theorem Arr.crs_at {w : World} {B n : Nat} {A : Option Addr} {cs : List Crs} (h : Arr w B 3 A n (cells3 cs)) {k : Nat} (hk : k < n) :
    ∃ b o, A = some ⟨b, o, none⟩ ∧ b < B ∧ w.cell? ⟨b, o + k * 3, none⟩ = some (.int .i64 (cs.getD k default).p) ∧
      w.cell? ⟨b, o + k * 3 + 1, none⟩ = some (.int .i64 (cs.getD k default).f) ∧ w.cell? ⟨b, o + k * 3 + 2, none⟩ = some (.bool (cs.getD k default).o) := by
  obtain ⟨b, o, e, hb, hc⟩ := h.2 (by omega)
  have hl : k < cs.length := by have := h.1; rw [cells3_length] at this; omega
  obtain ⟨h0, h1, h2⟩ := cells3_at cs k hl
  exact ⟨b, o, e, hb, hc _ _ h0, hc _ _ h1, hc _ _ h2⟩
theorem drop_cons {α : Type} [Inhabited α] (l : List α) (k : Nat) (h : k < l.length) : l.drop k = l.getD k default :: l.drop (k + 1) := by
  rw [List.drop_eq_getElem_cons h, List.getD_eq_getElem?_getD, List.getElem?_eq_getElem h]; rfl
theorem drop_cons0 (l : List Int) (k : Nat) (h : k < l.length) : l.drop k = l.getD k 0 :: l.drop (k + 1) := drop_cons l k h

def hiOf (ss : List Int) (p f : Int) (o : Bool) : Int := p + (if 0 < f then ss.getD (f - 1).toNat 0 else 0) + (if o then 12 else 0)
/-- stopped, at a fret that the course has. -/
def stopOf (ss : List Int) (p f : Int) : Int := p + (if 0 < f then ss.getD (f.toNat - 1) 0 else 0)
def stepsOk : Int → List Int → Bool
  | _, [] => true
  | l, s :: r => decide (l < s) && decide (s ≤ 127) && stepsOk s r
def crsE (ss : List Int) (c : Crs) : Int :=
  if c.f < 0 ∨ (ss.length : Int) < c.f then 13 else if c.p < 0 ∨ 127 < c.p ∨ 127 < hiOf ss c.p c.f c.o then 10 else 0
def crsAll (ss : List Int) : List Crs → Int
  | [] => 0
  | c :: r => if crsE ss c = 0 then crsAll ss r else crsE ss c
def chk (cs : List Crs) (ss : List Int) : Int :=
  if 14 < cs.length ∨ 18 < ss.length then 2 else if cs = [] then 11 else if stepsOk 0 ss then crsAll ss cs else 11
theorem stepsOk_bd : ∀ (l : Int) (ss : List Int), 0 ≤ l → stepsOk l ss = true → ∀ s ∈ ss, 0 ≤ s ∧ s ≤ 127
  | _, [], _, _, s, hs => by simp at hs
  | l, x :: r, h0, h, s, hs => by
    simp only [stepsOk, Bool.and_eq_true, decide_eq_true_eq] at h
    rcases List.mem_cons.1 hs with rfl | hs
    · omega
    · exact stepsOk_bd x r (by omega) h.2 s hs

theorem crsE_13 {ss : List Int} {c : Crs} (h : c.f < 0 ∨ (ss.length : Int) < c.f) : crsE ss c = 13 := by simp only [crsE, if_pos h]
theorem crsE_10 {ss : List Int} {c : Crs} (h : 0 ≤ c.f ∧ c.f ≤ (ss.length : Int)) (h' : c.p < 0 ∨ 127 < c.p ∨ 127 < hiOf ss c.p c.f c.o) : crsE ss c = 10 := by
  rw [crsE, if_neg (by omega), if_pos h']
theorem crsE_0 {ss : List Int} {c : Crs} (h : 0 ≤ c.f ∧ c.f ≤ (ss.length : Int)) (h' : ¬ (c.p < 0 ∨ 127 < c.p ∨ 127 < hiOf ss c.p c.f c.o)) : crsE ss c = 0 := by
  rw [crsE, if_neg (by omega), if_neg h']
theorem crsAll_bad {ss : List Int} {c : Crs} {r : List Crs} {n : Int} (h : crsE ss c = n) (hn : n ≠ 0) : crsAll ss (c :: r) = n := by
  simp only [crsAll, h, if_neg hn]
theorem crsAll_ok {ss : List Int} {c : Crs} {r : List Crs} (h : crsE ss c = 0) : crsAll ss (c :: r) = crsAll ss r := by simp only [crsAll, h, if_true]

/-- The pitch of a note, if it is one. -/
def pit (l a o : Int) : Int := 12 * (o + 1) + bas l + a
def inb (l a o : Int) : Bool := decide (0 ≤ l) && decide (l ≤ 6) && decide (-1 ≤ a) && decide (a ≤ 1) && decide (-1 ≤ o) && decide (o ≤ 9)
def right (l a o : Int) : Bool := inb l a o && decide (0 ≤ pit l a o) && decide (pit l a o ≤ 127)
def sndP (l a o : Int) : Int := if right l a o then pit l a o else 0
def sndE (l a o : Int) : Int := if right l a o then 0 else 10
end Go.Proofs.YtbdhjpdjbogggaaDoor
