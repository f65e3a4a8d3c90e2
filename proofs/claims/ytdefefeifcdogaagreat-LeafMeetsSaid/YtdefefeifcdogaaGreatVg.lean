/- Values by numbers: how memory changes. Nothing is proved of the program here. -/
import Derived.Test.YtdefefeifcdogaaGreatVd
/-! Memory by numbers: what the machine's writes do to it. Nothing is proved of the program here. -/
set_option linter.unusedSimpArgs false
set_option linter.unusedVariables false
namespace Go.Proofs.YtdefefeifcdogaaGreat
open Go.RowKit

theorem cell_lt {w : World} {b o : Nat} {v : Value} (h : w.cell? ⟨b, o, none⟩ = some v) : b < w.heap.size := World.block_lt_of_cell? w ⟨b, o, none⟩ h
theorem heap_lt {w : World} {b : Nat} {o : Obj} (h : w.heap[b]? = some o) : b < w.heap.size := (Array.getElem?_eq_some_iff.1 h).1

/-- w' is w but for block b. -/
structure SameBut (w w' : World) (b : Nat) : Prop where
  os : w'.os = w.os
  tape : w'.tape = w.tape
  output : w'.output = w.output
  drawn : w.drawn ≤ w'.drawn
  size : w'.heap.size = w.heap.size
  block : ∀ k, k ≠ b → w'.heap[k]? = w.heap[k]?
theorem SameBut.refl (w : World) (b : Nat) : SameBut w w b := ⟨rfl, rfl, rfl, Nat.le_refl _, rfl, fun _ _ => rfl⟩
theorem SameBut.trans {w w1 w2 : World} {b : Nat} (h : SameBut w w1 b) (k : SameBut w1 w2 b) : SameBut w w2 b :=
  ⟨k.os.trans h.os, k.tape.trans h.tape, k.output.trans h.output, Nat.le_trans h.drawn k.drawn, k.size.trans h.size, fun i hi => (k.block i hi).trans (h.block i hi)⟩

theorem setCell_same (w : World) (b o : Nat) (v : Value) : SameBut w (w.setCell ⟨b, o, none⟩ v) b :=
  ⟨rfl, rfl, rfl, Nat.le_refl _, by simp [World.setCell], fun k hk => Below.heap_setCell w ⟨b, o, none⟩ v k hk⟩
theorem setCell_heap {w : World} {b : Nat} {c : Array Value} {t : TypeId} {fr : Nat × Nat} (h : w.heap[b]? = some (.cells c t fr)) (o : Nat) (v : Value) :
    (w.setCell ⟨b, o, none⟩ v).heap[b]? = some (.cells (c.setIfInBounds o v) t fr) := by
  simp [World.setCell, Array.getElem?_modify, h]
theorem setCells_spec (b : Nat) : ∀ (vs : List Value) (o : Nat) (w : World) (c : Array Value) (t : TypeId) (fr : Nat × Nat), w.heap[b]? = some (.cells c t fr) → o + vs.length ≤ c.size →
    SameBut w (w.setCells b o vs) b ∧ ∃ c', (w.setCells b o vs).heap[b]? = some (.cells c' t fr) ∧ c'.toList = c.toList.take o ++ vs ++ c.toList.drop (o + vs.length)
  | [], o, w, c, t, fr, h, hl => by
    refine ⟨SameBut.refl _ _, c, h, ?_⟩
    simp
  | v :: r, o, w, c, t, fr, h, hl => by
    simp only [List.length_cons] at hl
    obtain ⟨h1, c', h2, h3⟩ := setCells_spec b r (o + 1) (w.setCell ⟨b, o, none⟩ v) (c.setIfInBounds o v) t fr (setCell_heap h o v) (by simp; omega)
    refine ⟨(setCell_same w b o v).trans h1, c', h2, ?_⟩
    have ho : o < c.toList.length := by rw [Array.length_toList]; omega
    have hto : (c.toList.take o).length = o := by rw [List.length_take]; omega
    rw [h3, Array.toList_setIfInBounds, List.set_eq_take_append_cons_drop, if_pos ho]
    have e1 : (c.toList.take o ++ v :: c.toList.drop (o + 1)).take (o + 1) = c.toList.take o ++ [v] := by
      rw [List.take_append, hto, List.take_of_length_le (by omega)]
      congr 1
      rw [show o + 1 - o = 0 + 1 by omega, List.take_succ_cons, List.take_zero]
    have e2 : (c.toList.take o ++ v :: c.toList.drop (o + 1)).drop (o + 1 + r.length) = c.toList.drop (o + (r.length + 1)) := by
      rw [List.drop_append, hto, List.drop_eq_nil_of_le (by omega), List.nil_append, show o + 1 + r.length - o = r.length + 1 by omega, List.drop_succ_cons, List.drop_drop]
      congr 1
      omega
    rw [e1, e2]
    simp

section
variable {E : Env} {m : Mm} {w : World}
theorem MemR.lt (h : MemR E m w) {i : Nat} {o : AObj} (hi : m.obj i = some o) : i < m.next := by
  rcases Nat.lt_or_ge i m.next with h1 | h1
  · exact h1
  · rw [(h.fresh i h1).2.2] at hi; cases hi
theorem MemR.M_lt (h : MemR E m w) {b o : Nat} {v : Value} (hM : E.M b o = some v) : b < w.heap.size := cell_lt (h.stable b o v hM)
theorem MemR.M_new (h : MemR E m w) (o : Nat) : E.M w.heap.size o = none := by
  cases hM : E.M w.heap.size o with
  | none => rfl
  | some v => exact absurd (h.M_lt hM) (Nat.lt_irrefl _)
theorem MemR.blk_lt (h : MemR E m w) {i b : Nat} (hb : BlkOf E m i b) : b < w.heap.size := by
  rcases hb with ⟨cs, t, h1, h2⟩ | ⟨n, e, size, cap, h1, h2, h3⟩ | ⟨x, h1, h2⟩
  · obtain ⟨b', c, h4, h5, _⟩ := h.box i cs t h1
    rw [h2] at h4; cases h4; exact heap_lt h5
  · obtain ⟨A, cap', h4, _, _, h6⟩ := h.row i n e size h1
    rw [h2] at h4; cases h4
    obtain ⟨b', c, h7, h8, _⟩ := h6 h3
    cases h7; exact heap_lt h8
  · obtain ⟨b', o, h4, h5, _⟩ := h.oth i x h1
    rw [h2] at h4; cases h4; exact heap_lt h5
theorem MemR.othM (h : MemR E m w) {b o : Nat} {x : Hob} {ob : Obj} (hw : w.heap[b]? = some ob) (hr : HobR E x ob) : E.M b o = none := by
  cases hM : E.M b o with
  | none => rfl
  | some v => have := h.stable b o v hM; rw [hr.cell hw] at this; cases this

theorem MemR.sizK (h : MemR E m w) {E' : Env} {m' : Mm} {w' : World} (ho : ∀ i cs t, m'.obj i = some (.box cs t) → m.obj i = some (.box cs t) ∧ E'.φ i = E.φ i ∧ ∀ s, E'.loc i s = E.loc i s)
    (hb : ∀ i cs t b, m'.obj i = some (.box cs t) → E.φ i = some b → b < w.heap.size → w'.heap[b]? = w.heap[b]?) :
    ∀ i cs t s A k b c, m'.obj i = some (.box cs t) → E'.loc i s = some (A, k) → E'.φ i = some b → w'.heap[b]? = some (.cells c t (0, 0)) → c.size = k * s := by
  intro i cs t s A k b c hi hl hφ hh
  obtain ⟨h1, h2, h3⟩ := ho i cs t hi
  obtain ⟨b', c', h4, h5, _⟩ := h.box i cs t h1
  rw [h2, h4] at hφ; cases hφ
  rw [h3] at hl
  rw [hb i cs t b hi h4 (heap_lt h5)] at hh
  exact h.siz i cs t s A k b c h1 hl h4 hh
/-- Another world that holds the same. -/
theorem MemR.grow (h : MemR E m w) {w' : World} (hb : ∀ b, b < w.heap.size → w'.heap[b]? = w.heap[b]?) : MemR E m w' where
  stable := fun b o v hM => by
    have hlt := h.M_lt hM
    have := h.stable b o v hM
    rwa [World.cell?_of_block (w := w) (hb b hlt)]
  fresh := h.fresh
  box := fun i cs t hi => by
    obtain ⟨b, c, h1, h2, h3⟩ := h.box i cs t hi
    exact ⟨b, c, h1, (hb b (heap_lt h2)).trans h2, h3⟩
  row := fun i n e size hi => by
    obtain ⟨A, cap, h1, h2, h3, h4⟩ := h.row i n e size hi
    refine ⟨A, cap, h1, h2, h3, fun hn => ?_⟩
    obtain ⟨b, c, h5, h6, h7⟩ := h4 hn
    exact ⟨b, c, h5, (hb b (heap_lt h6)).trans h6, h7⟩
  oth := fun i x hi => by
    obtain ⟨b, o, h1, h2, h3⟩ := h.oth i x hi
    exact ⟨b, o, h1, (hb b (heap_lt h2)).trans h2, h3⟩
  inj := h.inj
  siz := h.sizK (fun _ _ _ x => ⟨x, rfl, fun _ => rfl⟩) fun _ _ _ b _ _ hlt => hb b hlt

theorem VRs.all {cs : List V} {c : List Value} (h : VRs E cs c) : VRs E cs (c.take cs.length) := by rw [← h.length, List.take_length]; exact h
/-- A new box. -/
theorem MemR.newBox' (h : MemR E m w) {i : Nat} (hi : i < m.next) (hφ : E.φ i = none) (ho : m.obj i = none) (hl : ∀ k, E.loc i k = none) {cs : List V} {c : Array Value} (hv : VRs E cs (c.toList.take cs.length)) (t : TypeId) :
    ∃ E', Step (· = i) E m w E' (m.put i (.box cs t)) (w.alloc (.cells c t)) ∧ MemR E' (m.put i (.box cs t)) (w.alloc (.cells c t)) ∧ E'.φ i = some w.heap.size ∧ ∀ k, E'.loc i k = none := by
  let E' : Env := ⟨E.M, fun j => if j = i then some w.heap.size else E.φ j, E.loc⟩
  have le : E.Le E' := ⟨fun _ _ _ x => x, fun j b hj => by
    show (if j = i then some w.heap.size else E.φ j) = some b
    rw [if_neg (fun e => by subst e; rw [hφ] at hj; cases hj)]; exact hj, fun _ _ _ x => x⟩
  have hobj : ∀ j, j ≠ i → (m.put i (.box cs t)).obj j = m.obj j := fun j hj => if_neg hj
  have hobi : (m.put i (.box cs t)).obj i = some (.box cs t) := if_pos rfl
  have hφ' : ∀ j, j ≠ i → E'.φ j = E.φ j := fun j hj => if_neg hj
  have hφi : E'.φ i = some w.heap.size := if_pos rfl
  have hB : ∀ j b, BlkOf E' (m.put i (.box cs t)) j b → (j = i ∧ b = w.heap.size) ∨ (j ≠ i ∧ BlkOf E m j b) := by
    intro j b hb
    by_cases hj : j = i
    · subst hj
      rcases hb with ⟨cs', t', h1, h2⟩ | ⟨n, e, size, cap, h1, h2, h3⟩ | ⟨x, h1, h2⟩
      · rw [hφi] at h2; cases h2; exact .inl ⟨rfl, rfl⟩
      · rw [hobi] at h1; cases h1
      · rw [hobi] at h1; cases h1
    · refine .inr ⟨hj, ?_⟩
      rcases hb with ⟨cs', t', h1, h2⟩ | ⟨n, e, size, cap, h1, h2, h3⟩ | ⟨x, h1, h2⟩
      · exact .inl ⟨cs', t', (hobj j hj).symm.trans h1, (hφ' j hj).symm.trans h2⟩
      · exact .inr (.inl ⟨n, e, size, cap, (hobj j hj).symm.trans h1, h2, h3⟩)
      · exact .inr (.inr ⟨x, (hobj j hj).symm.trans h1, (hφ' j hj).symm.trans h2⟩)
  have hg := h.grow (w' := w.alloc (.cells c t)) fun b hb => Below.heap_alloc w _ b hb
  refine ⟨E', ⟨le, Nat.le_refl _, fun j _ hj => hφ' j hj, fun j _ hj hn => ⟨fun _ => rfl, (hobj j hj).trans hn⟩, rfl, rfl, rfl, Nat.le_refl _, by simp, fun b hb _ => Below.heap_alloc w _ b hb, ?_, fun _ _ _ h => .inl h⟩, ⟨?_, ?_, ?_, ?_, ?_, ?_, ?_⟩, hφi, hl⟩
  · intro j b hb hlt
    rcases hB j b hb with ⟨_, rfl⟩ | ⟨_, h1⟩
    · omega
    · exact ⟨j, h1⟩
  · exact hg.stable
  · intro j hj
    have hji : j ≠ i := fun e => by subst e; exact absurd hi (Nat.not_lt.2 hj)
    have := h.fresh j hj
    exact ⟨(hφ' j hji).trans this.1, this.2.1, (hobj j hji).trans this.2.2⟩
  · intro j cs' t' hj
    by_cases hji : j = i
    · subst hji
      rw [hobi] at hj; cases hj
      exact ⟨w.heap.size, c, hφi, heap_alloc_new w _, VRs.mono le hv, h.M_new⟩
    · obtain ⟨b, c', h1, h2, h3, h4⟩ := hg.box j cs' t' ((hobj j hji).symm.trans hj)
      exact ⟨b, c', (hφ' j hji).trans h1, h2, VRs.mono le h3, h4⟩
  · intro j n e size hj
    by_cases hji : j = i
    · subst hji; rw [hobi] at hj; cases hj
    · exact hg.row j n e size ((hobj j hji).symm.trans hj)
  · intro j x hj
    by_cases hji : j = i
    · subst hji; rw [hobi] at hj; cases hj
    · obtain ⟨b, o, h1, h2, h3⟩ := hg.oth j x ((hobj j hji).symm.trans hj)
      exact ⟨b, o, (hφ' j hji).trans h1, h2, HobR.mono le h3⟩
  · intro j k b hb hb'
    rcases hB j b hb with ⟨rfl, rfl⟩ | ⟨_, h1⟩
    · rcases hB k _ hb' with ⟨rfl, _⟩ | ⟨_, h2⟩
      · rfl
      · exact absurd (h.blk_lt h2) (Nat.lt_irrefl _)
    · rcases hB k b hb' with ⟨_, rfl⟩ | ⟨_, h2⟩
      · exact absurd (h.blk_lt h1) (Nat.lt_irrefl _)
      · exact h.inj j k b h1 h2
  · intro j cs' t' s A k b c' hj hlj hφj hh
    by_cases hji : j = i
    · subst hji; change E.loc j s = _ at hlj; rw [hl s] at hlj; cases hlj
    · exact hg.siz j cs' t' s A k b c' ((hobj j hji).symm.trans hj) hlj ((hφ' j hji).symm.trans hφj) hh

theorem MemR.newBox (h : MemR E m w) {i : Nat} (hi : i < m.next) (hφ : E.φ i = none) (ho : m.obj i = none) (hl : ∀ k, E.loc i k = none) {cs : List V} {c : Array Value} (hv : VRs E cs (c.toList.take cs.length)) (t : TypeId) :
    ∃ E', Step (· = i) E m w E' (m.put i (.box cs t)) (w.alloc (.cells c t)) ∧ MemR E' (m.put i (.box cs t)) (w.alloc (.cells c t)) ∧ E'.φ i = some w.heap.size := by
  obtain ⟨E', h1, h2, h3, _⟩ := h.newBox' hi hφ ho hl hv t
  exact ⟨E', h1, h2, h3⟩

/-- A block that nothing speaks of becomes a box. -/
theorem MemR.oldBox {E0 : Env} {m0 : Mm} {w0 : World} (hs : Step NoX E0 m0 w0 E m w) (hnext : m.next = m0.next) (h : MemR E m w) {i : Nat} (hi : i < m.next) (hφ0 : E0.φ i = none) (hφ : E.φ i = none) (ho : m.obj i = none) (hl : ∀ k, E.loc i k = none) {cs : List V} {c : Array Value} (hv : VRs E cs (c.toList.take cs.length)) (t : TypeId) {g : Nat} (hg0 : w0.heap.size ≤ g) (hgb : w.heap[g]? = some (.cells c t (0, 0))) (hgM : ∀ o, E.M g o = none) (hgn : ∀ j, ¬ BlkOf E m j g) :
    ∃ E', Step (· = i) E0 m0 w0 E' (m.put i (.box cs t)) w ∧ MemR E' (m.put i (.box cs t)) w ∧ E'.φ i = some g := by
  let E' : Env := ⟨E.M, fun j => if j = i then some g else E.φ j, E.loc⟩
  have le : E.Le E' := ⟨fun _ _ _ x => x, fun j b hj => by
    show (if j = i then some g else E.φ j) = some b
    rw [if_neg (fun e => by subst e; rw [hφ] at hj; cases hj)]; exact hj, fun _ _ _ x => x⟩
  have hobj : ∀ j, j ≠ i → (m.put i (.box cs t)).obj j = m.obj j := fun j hj => if_neg hj
  have hobi : (m.put i (.box cs t)).obj i = some (.box cs t) := if_pos rfl
  have hφ' : ∀ j, j ≠ i → E'.φ j = E.φ j := fun j hj => if_neg hj
  have hφi : E'.φ i = some g := if_pos rfl
  have hB : ∀ j b, BlkOf E' (m.put i (.box cs t)) j b → (j = i ∧ b = g) ∨ (j ≠ i ∧ BlkOf E m j b) := by
    intro j b hb
    by_cases hj : j = i
    · subst hj
      rcases hb with ⟨cs', t', h1, h2⟩ | ⟨n, e, size, cap, h1, h2, h3⟩ | ⟨x, h1, h2⟩
      · rw [hφi] at h2; cases h2; exact .inl ⟨rfl, rfl⟩
      · rw [hobi] at h1; cases h1
      · rw [hobi] at h1; cases h1
    · refine .inr ⟨hj, ?_⟩
      rcases hb with ⟨cs', t', h1, h2⟩ | ⟨n, e, size, cap, h1, h2, h3⟩ | ⟨x, h1, h2⟩
      · exact .inl ⟨cs', t', (hobj j hj).symm.trans h1, (hφ' j hj).symm.trans h2⟩
      · exact .inr (.inl ⟨n, e, size, cap, (hobj j hj).symm.trans h1, h2, h3⟩)
      · exact .inr (.inr ⟨x, (hobj j hj).symm.trans h1, (hφ' j hj).symm.trans h2⟩)
  refine ⟨E', ⟨hs.le.trans le, hs.next, fun j hj hx => (hφ' j hx).trans (hs.oldφ j hj (fun h => h)), fun j hj hx hn => ⟨fun n => (hs.oldloc j hj (fun h => h) hn).1 n, (hobj j hx).trans (hs.oldloc j hj (fun h => h) hn).2⟩, hs.os, hs.tape, hs.output, hs.drawn, hs.size, hs.kept, ?_, hs.newM⟩, ⟨?_, ?_, ?_, ?_, ?_, ?_, ?_⟩, hφi⟩
  · intro j b hb hlt
    rcases hB j b hb with ⟨_, rfl⟩ | ⟨_, h1⟩
    · omega
    · exact hs.blk j b h1 hlt
  · exact h.stable
  · intro j hj
    have hji : j ≠ i := fun e => by subst e; exact absurd hi (Nat.not_lt.2 hj)
    have := h.fresh j hj
    exact ⟨(hφ' j hji).trans this.1, this.2.1, (hobj j hji).trans this.2.2⟩
  · intro j cs' t' hj
    by_cases hji : j = i
    · subst hji
      rw [hobi] at hj; cases hj
      exact ⟨g, c, hφi, hgb, VRs.mono le hv, hgM⟩
    · obtain ⟨b, c', h1, h2, h3, h4⟩ := h.box j cs' t' ((hobj j hji).symm.trans hj)
      exact ⟨b, c', (hφ' j hji).trans h1, h2, VRs.mono le h3, h4⟩
  · intro j n e size hj
    by_cases hji : j = i
    · subst hji; rw [hobi] at hj; cases hj
    · exact h.row j n e size ((hobj j hji).symm.trans hj)
  · intro j x hj
    by_cases hji : j = i
    · subst hji; rw [hobi] at hj; cases hj
    · obtain ⟨b, o, h1, h2, h3⟩ := h.oth j x ((hobj j hji).symm.trans hj)
      exact ⟨b, o, (hφ' j hji).trans h1, h2, HobR.mono le h3⟩
  · intro j k b hb hb'
    rcases hB j b hb with ⟨rfl, rfl⟩ | ⟨_, h1⟩
    · rcases hB k _ hb' with ⟨rfl, _⟩ | ⟨_, h2⟩
      · rfl
      · exact absurd h2 (hgn _)
    · rcases hB k b hb' with ⟨_, rfl⟩ | ⟨_, h2⟩
      · exact absurd h1 (hgn _)
      · exact h.inj j k b h1 h2
  · intro j cs' t' s A k b c' hj hlj hφj hh
    by_cases hji : j = i
    · subst hji; change E.loc j s = _ at hlj; rw [hl s] at hlj; cases hlj
    · exact h.siz j cs' t' s A k b c' ((hobj j hji).symm.trans hj) hlj ((hφ' j hji).symm.trans hφj) hh

/-- Cells of a new block that stand for good: the first k. -/
theorem MemR.newCells (h : MemR E m w) (c : Array Value) (e : TypeId) (k : Nat) :
    let E' : Env := ⟨fun b o => if b = w.heap.size then (c.toList.take k)[o]? else E.M b o, E.φ, E.loc⟩
    Step NoX E m w E' m (w.alloc (.cells c e)) ∧ MemR E' m (w.alloc (.cells c e)) := by
  intro E'
  have le : E.Le E' := ⟨fun b o v hM => by
    show (if b = w.heap.size then _ else E.M b o) = some v
    rw [if_neg (by have := h.M_lt hM; omega)]; exact hM, fun _ _ x => x, fun _ _ _ x => x⟩
  have hg := h.grow (w' := w.alloc (.cells c e)) fun b hb => Below.heap_alloc w _ b hb
  refine ⟨⟨le, Nat.le_refl _, fun _ _ _ => rfl, fun _ _ _ hn => ⟨fun _ => rfl, hn⟩, rfl, rfl, rfl, Nat.le_refl _, by simp, fun b hb _ => Below.heap_alloc w _ b hb, fun i b hb _ => ⟨i, hb⟩, fun b o v hM => by
    by_cases hb : b = w.heap.size
    · exact .inr (.inl (Nat.le_of_eq hb.symm))
    · change (if b = w.heap.size then _ else E.M b o) = some v at hM
      rw [if_neg hb] at hM; exact .inl hM⟩, ⟨?_, hg.fresh, ?_, ?_, fun i x hi => by
      obtain ⟨b, o, h1, h2, h3⟩ := hg.oth i x hi
      exact ⟨b, o, h1, h2, HobR.mono le h3⟩, hg.inj, hg.siz⟩⟩
  · intro b o v hM
    change (if b = w.heap.size then (c.toList.take k)[o]? else E.M b o) = some v at hM
    by_cases hb : b = w.heap.size
    · subst hb
      rw [if_pos rfl, List.getElem?_take] at hM
      split at hM
      · rw [cell_of_row _ _ o c e (0, 0) (heap_alloc_new w _)]; simpa using hM
      · cases hM
    · rw [if_neg hb] at hM; exact hg.stable b o v hM
  · intro i cs t hi
    obtain ⟨b, c', h1, h2, h3, h4⟩ := h.box i cs t hi
    refine ⟨b, c', h1, (Below.heap_alloc w _ b (heap_lt h2)).trans h2, VRs.mono le h3, fun o => ?_⟩
    show (if b = w.heap.size then _ else E.M b o) = none
    rw [if_neg (by have := heap_lt h2; omega)]; exact h4 o
  · intro i n e' size hi
    obtain ⟨A, cap, h1, h2, h3, h4⟩ := h.row i n e' size hi
    refine ⟨A, cap, h1, h2, h3, fun hn => ?_⟩
    obtain ⟨b, c', h5, h6, h7, h8⟩ := h4 hn
    refine ⟨b, c', h5, (Below.heap_alloc w _ b (heap_lt h6)).trans h6, h7, fun o ho => ?_⟩
    show (if b = w.heap.size then _ else E.M b o) = none
    rw [if_neg (by have := heap_lt h6; omega)]; exact h8 o ho

/-- A box is written. -/
theorem MemR.setBox (h : MemR E m w) {i b : Nat} {cs cs' : List V} {t : TypeId} (hi : m.obj i = some (.box cs t)) (hb : E.φ i = some b) {w' : World} (hs : SameBut w w' b)
    {c' : Array Value} (hc : w'.heap[b]? = some (.cells c' t (0, 0))) (hsz : ∀ c0, w.heap[b]? = some (.cells c0 t (0, 0)) → c'.size = c0.size) (hv : VRs E cs' (c'.toList.take cs'.length)) : Step NoX E m w E (m.put i (.box cs' t)) w' ∧ MemR E (m.put i (.box cs' t)) w' := by
  have hobj : ∀ j, j ≠ i → (m.put i (.box cs' t)).obj j = m.obj j := fun j hj => if_neg hj
  have hobi : (m.put i (.box cs' t)).obj i = some (.box cs' t) := if_pos rfl
  have hB : ∀ j k, BlkOf E (m.put i (.box cs' t)) j k → BlkOf E m j k := by
    intro j k hk
    by_cases hj : j = i
    · subst hj
      rcases hk with ⟨_, _, h1, h2⟩ | ⟨_, _, _, _, h1, _⟩ | ⟨_, h1, _⟩
      · exact .inl ⟨cs, t, hi, h2⟩
      · rw [hobi] at h1; cases h1
      · rw [hobi] at h1; cases h1
    · rcases hk with ⟨x, y, h1, h2⟩ | ⟨x, y, z, u, h1, h2⟩ | ⟨x, h1, h2⟩
      · exact .inl ⟨x, y, (hobj j hj).symm.trans h1, h2⟩
      · exact .inr (.inl ⟨x, y, z, u, (hobj j hj).symm.trans h1, h2⟩)
      · exact .inr (.inr ⟨x, (hobj j hj).symm.trans h1, h2⟩)
  have hBi : BlkOf E m i b := .inl ⟨cs, t, hi, hb⟩
  obtain ⟨b0, c0, e0, h0, _, hM⟩ := h.box i cs t hi
  rw [hb] at e0; cases e0
  refine ⟨⟨.refl E, Nat.le_refl _, fun _ _ _ => rfl, fun j _ _ hn => ⟨fun _ => rfl, (hobj j (fun e => by subst e; rw [hi] at hn; cases hn)).trans hn⟩, hs.os, hs.tape, hs.output, hs.drawn, Nat.le_of_eq hs.size.symm,
    fun k _ hk => hs.block k fun e => by subst e; exact hk i hBi, fun j k hk _ => ⟨j, hB j k hk⟩, fun _ _ _ h => .inl h⟩, ⟨?_, ?_, ?_, ?_, ?_, fun j k x h1 h2 => h.inj j k x (hB j x h1) (hB k x h2), ?_⟩⟩
  · intro k o v hk
    have hne : k ≠ b := fun e => by subst e; rw [hM o] at hk; cases hk
    rw [World.cell?_of_block (w := w) (hs.block k hne)]; exact h.stable k o v hk
  · intro j hj
    have := h.fresh j hj
    exact ⟨this.1, this.2.1, (hobj j (fun e => by subst e; rw [hi] at this; cases this.2.2)).trans this.2.2⟩
  · intro j cs'' t'' hj
    by_cases hji : j = i
    · subst hji; rw [hobi] at hj; cases hj; exact ⟨b, c', hb, hc, hv, hM⟩
    · have hj' := (hobj j hji).symm.trans hj
      obtain ⟨k, c'', h1, h2, h3⟩ := h.box j cs'' t'' hj'
      have hne : k ≠ b := fun e => by subst e; exact hji (h.inj j i k (.inl ⟨cs'', t'', hj', h1⟩) hBi)
      exact ⟨k, c'', h1, (hs.block k hne).trans h2, h3⟩
  · intro j n e size hj
    by_cases hji : j = i
    · subst hji; rw [hobi] at hj; cases hj
    · have hj' := (hobj j hji).symm.trans hj
      obtain ⟨A, cap, h1, h2, h3, h4⟩ := h.row j n e size hj'
      refine ⟨A, cap, h1, h2, h3, fun hn => ?_⟩
      obtain ⟨k, c'', h5, h6, h7⟩ := h4 hn
      have hne : k ≠ b := fun e' => by subst e'; subst h5; exact hji (h.inj j i k (.inr (.inl ⟨n, e, size, cap, hj', h1, hn⟩)) hBi)
      exact ⟨k, c'', h5, (hs.block k hne).trans h6, h7⟩
  · intro j x hj
    by_cases hji : j = i
    · subst hji; rw [hobi] at hj; cases hj
    · have hj' := (hobj j hji).symm.trans hj
      obtain ⟨k, o, h1, h2, h3⟩ := h.oth j x hj'
      have hne : k ≠ b := fun e' => by subst e'; exact hji (h.inj j i k (.inr (.inr ⟨x, hj', h1⟩)) hBi)
      exact ⟨k, o, h1, (hs.block k hne).trans h2, h3⟩
  · intro j cs'' t'' s A k q c'' hj hlj hφj hh
    by_cases hji : j = i
    · subst hji; rw [hobi] at hj; cases hj
      rw [hb] at hφj; cases hφj
      rw [hc] at hh; cases hh
      rw [hsz c0 h0]; exact h.siz j cs t s A k b c0 hi hlj hb h0
    · have hj' := (hobj j hji).symm.trans hj
      have hne : q ≠ b := fun e => by subst e; exact hji (h.inj j i q (.inl ⟨cs'', t'', hj', hφj⟩) hBi)
      rw [hs.block q hne] at hh
      exact h.siz j cs'' t'' s A k q c'' hj' hlj hφj hh

theorem MemR.del (h : MemR E m w) (i : Nat) : Step NoX E m w E (m.del i) w ∧ MemR E (m.del i) w := by
  have hobj : ∀ j o, (m.del i).obj j = some o → j ≠ i ∧ m.obj j = some o := fun j o hj => by
    change (if j = i then none else m.obj j) = some o at hj
    by_cases hji : j = i
    · rw [if_pos hji] at hj; cases hj
    · rw [if_neg hji] at hj; exact ⟨hji, hj⟩
  have hnone : ∀ j, m.obj j = none → (m.del i).obj j = none := fun j hj => by
    show (if j = i then none else m.obj j) = none
    split
    · rfl
    · exact hj
  have hB : ∀ j b, BlkOf E (m.del i) j b → BlkOf E m j b := by
    rintro j b (⟨cs, t, h1, h2⟩ | ⟨n, e, size, cap, h1, h2, h3⟩ | ⟨x, h1, h2⟩)
    · exact .inl ⟨cs, t, (hobj j _ h1).2, h2⟩
    · exact .inr (.inl ⟨n, e, size, cap, (hobj j _ h1).2, h2, h3⟩)
    · exact .inr (.inr ⟨x, (hobj j _ h1).2, h2⟩)
  refine ⟨⟨.refl E, Nat.le_refl _, fun _ _ _ => rfl, fun j _ _ hn => ⟨fun _ => rfl, hnone j hn⟩, rfl, rfl, rfl, Nat.le_refl _, Nat.le_refl _, fun _ _ _ => rfl, fun j b hb _ => ⟨j, hB j b hb⟩, fun _ _ _ h => .inl h⟩,
    ⟨h.stable, fun j hj => ⟨(h.fresh j hj).1, (h.fresh j hj).2.1, hnone j (h.fresh j hj).2.2⟩, fun j cs t hj => h.box j cs t (hobj j _ hj).2, fun j n e size hj => h.row j n e size (hobj j _ hj).2, fun j x hj => h.oth j x (hobj j _ hj).2, fun j k b h1 h2 => h.inj j k b (hB j b h1) (hB k b h2),
      h.sizK (fun j cs t hj => ⟨(hobj j _ hj).2, rfl, fun _ => rfl⟩) fun _ _ _ _ _ _ _ => rfl⟩⟩
/-- A box's room is known from now on. -/
theorem MemR.reg (h : MemR E m w) {i b k s : Nat} {cs : List V} {t : TypeId} {c : Array Value} (ho : m.obj i = some (.box cs t)) (hφ : E.φ i = some b) (hl : ∀ q, E.loc i q = none) (hh : w.heap[b]? = some (.cells c t (0, 0))) (hsz : c.size = k * s) :
    ∃ E', Step (· = i) E m w E' m w ∧ MemR E' m w ∧ E'.φ i = some b ∧ E'.loc i s = some (some ⟨b, 0, none⟩, k) := by
  let E' : Env := ⟨E.M, E.φ, fun j q => if j = i ∧ q = s then some (some ⟨b, 0, none⟩, k) else E.loc j q⟩
  have hlo : ∀ j q, j ≠ i → E'.loc j q = E.loc j q := fun j q hj => if_neg fun hh => hj hh.1
  have hls : E'.loc i s = some (some ⟨b, 0, none⟩, k) := if_pos ⟨rfl, rfl⟩
  have le : E.Le E' := ⟨fun _ _ _ x => x, fun _ _ x => x, fun j q x hx => by
    rw [hlo j q (fun e => by subst e; rw [hl q] at hx; cases hx)]; exact hx⟩
  have hB : ∀ j x, BlkOf E' m j x → BlkOf E m j x := by
    rintro j x (⟨cs', t', h1, h2⟩ | ⟨n, e, size, cap, h1, h2, h3⟩ | ⟨y, h1, h2⟩)
    · exact .inl ⟨cs', t', h1, h2⟩
    · have hj : j ≠ i := fun e' => by subst e'; rw [ho] at h1; cases h1
      exact .inr (.inl ⟨n, e, size, cap, h1, (hlo j n hj).symm.trans h2, h3⟩)
    · exact .inr (.inr ⟨y, h1, h2⟩)
  refine ⟨E', ⟨le, Nat.le_refl _, fun _ _ _ => rfl, fun j _ hj hn => ⟨fun q => hlo j q hj, hn⟩, rfl, rfl, rfl, Nat.le_refl _, Nat.le_refl _, fun _ _ _ => rfl, fun j x hx _ => ⟨j, hB j x hx⟩, fun _ _ _ h => .inl h⟩,
    ⟨h.stable, ?_, ?_, ?_, fun j x hj => by
      obtain ⟨b, o, h1, h2, h3⟩ := h.oth j x hj
      exact ⟨b, o, h1, h2, HobR.mono le h3⟩, fun j q x h1 h2 => h.inj j q x (hB j x h1) (hB q x h2), ?_⟩, hφ, hls⟩
  · intro j hj
    have hji : j ≠ i := fun e => by subst e; exact absurd (h.lt ho) (Nat.not_lt.2 hj)
    have := h.fresh j hj
    exact ⟨this.1, fun q => (hlo j q hji).trans (this.2.1 q), this.2.2⟩
  · intro j cs' t' hj
    obtain ⟨x, c', h1, h2, h3, h4⟩ := h.box j cs' t' hj
    exact ⟨x, c', h1, h2, VRs.mono le h3, h4⟩
  · intro j n e size hj
    have hji : j ≠ i := fun e' => by subst e'; rw [ho] at hj; cases hj
    obtain ⟨A, cap, h1, h2, h3, h4⟩ := h.row j n e size hj
    exact ⟨A, cap, (hlo j n hji).trans h1, fun q hq => (hlo j q hji).trans (h2 q hq), h3, h4⟩
  · intro j cs' t' s' A k' b' c' hj hlj hφj hhj
    by_cases hji : j = i
    · subst hji
      rw [ho] at hj; cases hj
      change E.φ j = some b' at hφj
      rw [hφ] at hφj; cases hφj
      rw [hh] at hhj; cases hhj
      change (if j = j ∧ s' = s then _ else _) = _ at hlj
      by_cases hs : s' = s
      · rw [if_pos ⟨rfl, hs⟩] at hlj; cases hlj; rw [hs]; exact hsz
      · rw [if_neg (fun x => hs x.2), hl s'] at hlj; cases hlj
    · rw [hlo j s' hji] at hlj
      exact h.siz j cs' t' s' A k' b' c' hj hlj hφj hhj
/-- A new box that may grow. -/
theorem MemR.newBoxG (h : MemR E m w) {i : Nat} (hi : i < m.next) (hφ : E.φ i = none) (ho : m.obj i = none) (hl : ∀ k, E.loc i k = none) {cs : List V} {c : Array Value} (hv : VRs E cs (c.toList.take cs.length)) (t : TypeId) {k s : Nat} (hsz : c.size = k * s) :
    ∃ E', Step (· = i) E m w E' (m.put i (.box cs t)) (w.alloc (.cells c t)) ∧ MemR E' (m.put i (.box cs t)) (w.alloc (.cells c t)) ∧ E'.φ i = some w.heap.size ∧ E'.loc i s = some (some ⟨w.heap.size, 0, none⟩, k) := by
  obtain ⟨E1, h1, h2, h3, h4⟩ := h.newBox' hi hφ ho hl hv t
  obtain ⟨E2, h5, h6, h7, h8⟩ := h2.reg (i := i) (k := k) (s := s) (if_pos rfl) h3 h4 (heap_alloc_new w _) hsz
  exact ⟨E2, h1.trans h5, h6, h7, h8⟩
/-- A box that may grow gets another number. -/
theorem MemR.rename (h : MemR E m w) {i id b k s : Nat} {cs : List V} {t : TypeId} (hi : m.obj i = some (.box cs t)) (hb : E.φ i = some b) (hl : E.loc i s = some (some ⟨b, 0, none⟩, k)) (hid : id < m.next) (hφ : E.φ id = none) (ho : m.obj id = none) (hlid : ∀ q, E.loc id q = none) :
    ∃ E', Step (· = id) E m w E' ((m.del i).put id (.box cs t)) w ∧ MemR E' ((m.del i).put id (.box cs t)) w ∧ E'.φ id = some b ∧ E'.loc id s = some (some ⟨b, 0, none⟩, k) := by
  let E' : Env := ⟨E.M, fun j => if j = id then some b else E.φ j, fun j q => if j = id ∧ q = s then some (some ⟨b, 0, none⟩, k) else E.loc j q⟩
  let m' : Mm := (m.del i).put id (.box cs t)
  have hne : i ≠ id := fun e => by subst e; rw [hi] at ho; cases ho
  have hlo : ∀ j q, j ≠ id → E'.loc j q = E.loc j q := fun j q hj => if_neg fun hh => hj hh.1
  have hls : E'.loc id s = some (some ⟨b, 0, none⟩, k) := if_pos ⟨rfl, rfl⟩
  have hφo : ∀ j, j ≠ id → E'.φ j = E.φ j := fun j hj => if_neg hj
  have hφi : E'.φ id = some b := if_pos rfl
  have le : E.Le E' := ⟨fun _ _ _ x => x, fun j x hx => by rw [hφo j (fun e => by subst e; rw [hφ] at hx; cases hx)]; exact hx, fun j q x hx => by
    rw [hlo j q (fun e => by subst e; rw [hlid q] at hx; cases hx)]; exact hx⟩
  have hobi : m'.obj id = some (.box cs t) := if_pos rfl
  have hobj : ∀ j o, j ≠ id → m'.obj j = some o → j ≠ i ∧ m.obj j = some o := fun j o hj hjo => by
    change (if j = id then _ else (if j = i then none else m.obj j)) = some o at hjo
    rw [if_neg hj] at hjo
    by_cases hji : j = i
    · rw [if_pos hji] at hjo; cases hjo
    · rw [if_neg hji] at hjo; exact ⟨hji, hjo⟩
  have hnone : ∀ j, j ≠ id → m.obj j = none → m'.obj j = none := fun j hj hn => by
    show (if j = id then _ else (if j = i then none else m.obj j)) = none
    rw [if_neg hj]
    split
    · rfl
    · exact hn
  have hBi : BlkOf E m i b := .inl ⟨cs, t, hi, hb⟩
  have hB : ∀ j x, BlkOf E' m' j x → (j = id ∧ x = b) ∨ (j ≠ id ∧ j ≠ i ∧ BlkOf E m j x) := by
    intro j x hx
    by_cases hj : j = id
    · subst hj
      rcases hx with ⟨cs', t', h1, h2⟩ | ⟨n, e, size, cap, h1, h2, h3⟩ | ⟨y, h1, h2⟩
      · rw [hφi] at h2; cases h2; exact .inl ⟨rfl, rfl⟩
      · rw [hobi] at h1; cases h1
      · rw [hobi] at h1; cases h1
    · rcases hx with ⟨cs', t', h1, h2⟩ | ⟨n, e, size, cap, h1, h2, h3⟩ | ⟨y, h1, h2⟩
      · obtain ⟨h4, h5⟩ := hobj j _ hj h1
        exact .inr ⟨hj, h4, .inl ⟨cs', t', h5, (hφo j hj).symm.trans h2⟩⟩
      · obtain ⟨h4, h5⟩ := hobj j _ hj h1
        exact .inr ⟨hj, h4, .inr (.inl ⟨n, e, size, cap, h5, (hlo j n hj).symm.trans h2, h3⟩)⟩
      · obtain ⟨h4, h5⟩ := hobj j _ hj h1
        exact .inr ⟨hj, h4, .inr (.inr ⟨y, h5, (hφo j hj).symm.trans h2⟩)⟩
  refine ⟨E', ⟨le, Nat.le_refl _, fun j _ hj => hφo j hj, fun j _ hj hn => ⟨fun q => hlo j q hj, hnone j hj hn⟩, rfl, rfl, rfl, Nat.le_refl _, Nat.le_refl _, fun _ _ _ => rfl, fun j x hx _ => ?_, fun _ _ _ h => .inl h⟩,
    ⟨h.stable, ?_, ?_, ?_, ?_, ?_, ?_⟩, hφi, hls⟩
  · rcases hB j x hx with ⟨_, rfl⟩ | ⟨_, _, h1⟩
    · exact ⟨i, hBi⟩
    · exact ⟨j, h1⟩
  · intro j hj
    have hji : j ≠ id := fun e => by subst e; exact absurd hid (Nat.not_lt.2 hj)
    have := h.fresh j hj
    exact ⟨(hφo j hji).trans this.1, fun q => (hlo j q hji).trans (this.2.1 q), hnone j hji this.2.2⟩
  · intro j cs' t' hj
    by_cases hji : j = id
    · subst hji
      rw [hobi] at hj; cases hj
      obtain ⟨x, c', h1, h2, h3, h4⟩ := h.box i cs t hi
      rw [hb] at h1; cases h1
      exact ⟨b, c', hφi, h2, VRs.mono le h3, h4⟩
    · obtain ⟨x, c', h1, h2, h3, h4⟩ := h.box j cs' t' (hobj j _ hji hj).2
      exact ⟨x, c', (hφo j hji).trans h1, h2, VRs.mono le h3, h4⟩
  · intro j n e size hj
    have hji : j ≠ id := fun e' => by subst e'; rw [hobi] at hj; cases hj
    obtain ⟨A, cap, h1, h2, h3, h4⟩ := h.row j n e size (hobj j _ hji hj).2
    exact ⟨A, cap, (hlo j n hji).trans h1, fun q hq => (hlo j q hji).trans (h2 q hq), h3, h4⟩
  · intro j y hj
    have hji : j ≠ id := fun e' => by subst e'; rw [hobi] at hj; cases hj
    obtain ⟨x, o, h1, h2, h3⟩ := h.oth j y (hobj j _ hji hj).2
    exact ⟨x, o, (hφo j hji).trans h1, h2, HobR.mono le h3⟩
  · intro j q x hx hx'
    rcases hB j x hx with ⟨rfl, rfl⟩ | ⟨h1, h2, h3⟩
    · rcases hB q _ hx' with ⟨rfl, _⟩ | ⟨_, h5, h6⟩
      · rfl
      · exact absurd (h.inj q i _ h6 hBi) h5
    · rcases hB q x hx' with ⟨_, rfl⟩ | ⟨_, _, h6⟩
      · exact absurd (h.inj j i _ h3 hBi) h2
      · exact h.inj j q x h3 h6
  · intro j cs' t' s' A k' b' c' hj hlj hφj hhj
    by_cases hji : j = id
    · subst hji
      rw [hobi] at hj; cases hj
      rw [hφi] at hφj; cases hφj
      change (if j = j ∧ s' = s then _ else _) = _ at hlj
      by_cases hs : s' = s
      · rw [if_pos ⟨rfl, hs⟩] at hlj; cases hlj; rw [hs]; exact h.siz i cs t s _ k b c' hi hl hb hhj
      · rw [if_neg (fun x => hs x.2), hlid s'] at hlj; cases hlj
    · rw [hlo j s' hji] at hlj
      rw [hφo j hji] at hφj
      exact h.siz j cs' t' s' A k' b' c' (hobj j _ hji hj).2 hlj hφj hhj
end
end Go.Proofs.YtdefefeifcdogaaGreat
/-! Memory by numbers: append. Nothing is proved of the program here. -/
namespace Go.Proofs.YtdefefeifcdogaaGreat
open Go.RowKit

section
variable {P : Program} {E : Env} {m : Mm} {w : World}

/-- What a slice's cells are, in the machine. -/
theorem sl_cells (hm : MemR E m w) {n : Nat} {xs : List V} {k : Tok} {c : Value} (h : VR E (.sl n xs k) c) {size : Nat} (hl : xs.length = n * size) (hs : 0 < size) :
    ∃ A cap cs, c = .slice A n cap ∧ n ≤ cap ∧ TokR E n A cap k ∧ V.clean xs = true ∧ VRs E xs cs ∧ (n = 0 ∧ cs = [] ∨ ∃ b o, A = some ⟨b, o, none⟩ ∧ At E b o xs ∧ ∀ (j : Nat) (u : Value), cs[j]? = some u → w.cell? ((⟨b, o, none⟩ : Addr).add j) = some u) := by
  rw [VR] at h
  obtain ⟨A, cap, rfl, hn, hk, hp, hx⟩ := h
  rcases hx with rfl | ⟨b, o, rfl, hx⟩
  · have h0 : n = 0 := by
      rcases Nat.eq_zero_or_pos n with h0 | h0
      · exact h0
      · have := Nat.mul_pos h0 hs
        simp at hl; omega
    exact ⟨A, cap, [], rfl, hn, hk, hp, by rw [VRs], .inl ⟨h0, rfl⟩⟩
  · obtain ⟨cs, h1, h2⟩ := hx.cells
    refine ⟨_, cap, cs, rfl, hn, hk, hp, h1, .inr ⟨b, o, rfl, hx, fun j u hu => ?_⟩⟩
    have := hm.stable _ _ _ (h2 j u hu)
    have hadd : (⟨b, o, none⟩ : Addr).add j = ⟨b, o + j, none⟩ := by unfold Addr.add; split <;> simp_all
    rwa [hadd]

theorem src_of (hm : MemR E m w) {n : Nat} {xs : List V} {k : Tok} {c : Value} (h : VR E (.sl n xs k) c) {size : Nat} (hl : xs.length = n * size) (hs : 0 < size) {tx e' : TypeId} (ht : P.underlying tx = some (.slice e')) :
    ∃ news, VRs E xs news ∧ news.length = n * size ∧ Src P size tx c n news w := by
  obtain ⟨A, cap, cs, rfl, hn, _, hp, h1, h2⟩ := sl_cells hm h hl hs
  have hlc : cs.length = n * size := h1.length.trans hl
  have hone := h1.ones (clean_iff.1 hp).2
  refine ⟨cs, h1, hlc, ?_⟩
  rcases h2 with ⟨rfl, rfl⟩ | ⟨b, o, rfl, _, h2⟩
  · cases A with
    | none => exact Src.ofNil w ht cap
    | some a => exact Src.ofSlice w ht a 0 cap [] hlc (fun j u hu => by simp at hu) hone
  · exact Src.ofSlice w ht ⟨b, o, none⟩ n cap cs hlc h2 hone

theorem box_cells (hm : MemR E m w) {i b : Nat} {cs : List V} {t : TypeId} (ho : m.obj i = some (.box cs t)) (hφ : E.φ i = some b) {off n : Nat} (hl : off + n ≤ cs.length) :
    ∃ olds, VRs E ((cs.drop off).take n) olds ∧ olds.length = n ∧ ∀ (j : Nat) (u : Value), olds[j]? = some u → w.cell? ((⟨b, off, none⟩ : Addr).add j) = some u := by
  obtain ⟨b', c, hφ', hh, hr, _⟩ := hm.box i cs t ho
  rw [hφ] at hφ'; cases hφ'
  have h1 := hr.slice off n
  refine ⟨_, h1, ?_, fun j u hu => ?_⟩
  · rw [h1.length, List.length_take, List.length_drop]; omega
  · rw [List.getElem?_take] at hu
    split at hu
    · rw [List.getElem?_drop, List.getElem?_take] at hu
      split at hu
      · have hadd : (⟨b, off, none⟩ : Addr).add j = ⟨b, off + j, none⟩ := by unfold Addr.add; split <;> simp_all
        rw [hadd, cell_of_row w b _ c t (0, 0) hh]
        rwa [Array.getElem?_toList] at hu
      · cases hu
    · cases hu
theorem src_rd (hm : MemR E m w) {y : V} {c : Value} (h : VR E y c) {size j : Nat} {ys : List V} (hr : rdS m size y = some (j, ys)) (hs : 0 < size) {tx e' : TypeId} (ht : P.underlying tx = some (.slice e')) :
    ∃ news, VRs E ys news ∧ news.length = j * size ∧ Src P size tx c j news w := by
  unfold rdS at hr
  split at hr
  · split at hr
    · rename_i hl; cases hr; exact src_of hm h hl hs ht
    · cases hr
  · split at hr
    · rename_i ho
      split at hr
      · rename_i hl
        cases hr
        rw [VR] at h
        obtain ⟨b, hφ, cap', rfl, _, _⟩ := h
        obtain ⟨olds, h1, h2, h3⟩ := box_cells hm ho hφ hl.1
        exact ⟨olds, h1, h2, Src.ofSlice w ht ⟨b, _, none⟩ _ cap' olds h2 h3 (h1.ones (List.all_eq_true.1 hl.2))⟩
      · cases hr
    · cases hr
  · split at hr
    · rename_i ho
      split at hr
      · rename_i hl
        cases hr
        rw [VR] at h
        obtain ⟨b, hφ, cap', rfl, _, _⟩ := h
        obtain ⟨olds, h1, h2, h3⟩ := box_cells hm ho hφ (off := 0) (by rw [Nat.zero_add]; exact hl.1)
        rw [List.drop_zero] at h1
        exact ⟨olds, h1, h2, Src.ofSlice w ht ⟨b, 0, none⟩ _ cap' olds h2 h3 (h1.ones (List.all_eq_true.1 hl.2))⟩
      · cases hr
    · cases hr
  · cases hr

theorem olds_of (hm : MemR E m w) {n : Nat} {xs : List V} {k : Tok} {c : Value} (h : VR E (.sl n xs k) c) {size : Nat} (hl : xs.length = n * size) (hs : 0 < size) :
    ∃ olds, VRs E xs olds ∧ (Builtin.firstCells size n c).run P w.drew = .ok olds.toArray w.drew := by
  obtain ⟨A, cap, cs, rfl, hn, _, hp, h1, h2⟩ := sl_cells hm h hl hs
  have hlc : cs.length = n * size := h1.length.trans hl
  refine ⟨cs, h1, ?_⟩
  rcases h2 with ⟨rfl, rfl⟩ | ⟨b, o, rfl, _, h2⟩
  · cases A with
    | none => exact run_firstCells_none w.drew size 0 0 cap
    | some a => exact run_firstCells_some w.drew size 0 a 0 cap [] hlc (fun j u hu => by simp at hu)
  · exact run_firstCells_some w.drew size n _ n cap cs hlc (by simpa using h2)

/-- A row's number is given to a slice that has no room. -/
theorem MemR.rowHere (h : MemR E m w) {t : Nat} (ht : t < m.next) (ho : m.obj t = none) (hl : ∀ k, E.loc t k = none) {A : Option Addr} (n : Nat) (e : TypeId) (size : Nat) :
    ∃ E', Step (· = t) E m w E' (m.put t (.row n e size)) w ∧ MemR E' (m.put t (.row n e size)) w ∧ E'.loc t n = some (A, n) := by
  let E' : Env := ⟨E.M, E.φ, fun i k => if i = t ∧ k = n then some (A, n) else E.loc i k⟩
  have hlo : ∀ i k, i ≠ t → E'.loc i k = E.loc i k := fun i k hi => if_neg fun hh => hi hh.1
  have hlt : E'.loc t n = some (A, n) := if_pos ⟨rfl, rfl⟩
  have le : E.Le E' := ⟨fun _ _ _ x => x, fun _ _ x => x, fun i k x hx => by
    rw [hlo i k (fun e => by subst e; rw [hl k] at hx; cases hx)]; exact hx⟩
  have hobj : ∀ j, j ≠ t → (m.put t (.row n e size)).obj j = m.obj j := fun j hj => if_neg hj
  have hobi : (m.put t (.row n e size)).obj t = some (.row n e size) := if_pos rfl
  have hB : ∀ j b, BlkOf E' (m.put t (.row n e size)) j b → BlkOf E m j b := by
    intro j b hb
    by_cases hj : j = t
    · subst hj
      rcases hb with ⟨cs', t', h1, h2⟩ | ⟨n', e', size', cap, h1, h2, h3⟩ | ⟨x, h1, h2⟩
      · rw [hobi] at h1; cases h1
      · rw [hobi] at h1; cases h1; rw [hlt] at h2; cases h2; exact absurd h3 (Nat.lt_irrefl _)
      · rw [hobi] at h1; cases h1
    · rcases hb with ⟨cs', t', h1, h2⟩ | ⟨n', e', size', cap, h1, h2, h3⟩ | ⟨x, h1, h2⟩
      · exact .inl ⟨cs', t', (hobj j hj).symm.trans h1, h2⟩
      · exact .inr (.inl ⟨n', e', size', cap, (hobj j hj).symm.trans h1, (hlo j n' hj).symm.trans h2, h3⟩)
      · exact .inr (.inr ⟨x, (hobj j hj).symm.trans h1, h2⟩)
  refine ⟨E', ⟨le, Nat.le_refl _, fun _ _ _ => rfl, fun j _ hj hn => ⟨fun k => hlo j k hj, (hobj j hj).trans hn⟩, rfl, rfl, rfl, Nat.le_refl _, Nat.le_refl _, fun _ _ _ => rfl, fun j b hb _ => ⟨j, hB j b hb⟩, fun _ _ _ h => .inl h⟩,
    ⟨h.stable, ?_, ?_, ?_, fun j x hj => by
      have hjt : j ≠ t := fun e' => by subst e'; rw [hobi] at hj; cases hj
      obtain ⟨b, o, h1, h2, h3⟩ := h.oth j x ((hobj j hjt).symm.trans hj)
      exact ⟨b, o, h1, h2, HobR.mono le h3⟩, fun j k b h1 h2 => h.inj j k b (hB j b h1) (hB k b h2), h.sizK (fun j cs t' hj => have hjt : j ≠ t := fun e' => by subst e'; rw [hobi] at hj; cases hj
      ⟨(hobj j hjt).symm.trans hj, rfl, fun s => hlo j s hjt⟩) fun _ _ _ _ _ _ _ => rfl⟩, hlt⟩
  · intro j hj
    have hjt : j ≠ t := fun e => by subst e; exact absurd ht (Nat.not_lt.2 hj)
    have := h.fresh j hj
    exact ⟨this.1, fun k => (hlo j k hjt).trans (this.2.1 k), (hobj j hjt).trans this.2.2⟩
  · intro j cs t' hj
    by_cases hjt : j = t
    · subst hjt; rw [hobi] at hj; cases hj
    · obtain ⟨b, c, h1, h2, h3, h4⟩ := h.box j cs t' ((hobj j hjt).symm.trans hj)
      exact ⟨b, c, h1, h2, VRs.mono le h3, h4⟩
  · intro j n' e' size' hj
    by_cases hjt : j = t
    · subst hjt; rw [hobi] at hj; cases hj
      exact ⟨A, n, hlt, fun k hk => (if_neg fun hh => by omega : E'.loc j k = E.loc j k).trans (hl k), Nat.le_refl _, fun hn => absurd hn (Nat.lt_irrefl _)⟩
    · obtain ⟨A', cap, h1, h2, h3, h4⟩ := h.row j n' e' size' ((hobj j hjt).symm.trans hj)
      exact ⟨A', cap, (hlo j n' hjt).trans h1, fun k hk => (hlo j k hjt).trans (h2 k hk), h3, h4⟩

/-- A row moves into a new block, whose first cells stand for good. -/
theorem MemR.rowNew (h : MemR E m w) {t : Nat} (X : Nat → Prop) (ht : t < m.next) (ho : (m.obj t = none ∧ X t) ∨ ∃ n' e' s', m.obj t = some (.row n' e' s')) {k : Nat} (hl : ∀ j, k ≤ j → E.loc t j = none) (e : TypeId) (size cap : Nat)
    (hk : k ≤ cap) (c : Array Value) (hc : c.size = cap * size) :
    ∃ E', Step X E m w E' (m.put t (.row k e size)) (w.drew.alloc (.cells c e)) ∧ MemR E' (m.put t (.row k e size)) (w.drew.alloc (.cells c e)) ∧ E'.loc t k = some (some ⟨w.heap.size, 0, none⟩, cap) ∧
      ∀ xs, VRs E xs (c.toList.take (k * size)) → At E' w.heap.size 0 xs := by
  let W := w.drew.alloc (.cells c e)
  let E' : Env := ⟨fun b o => if b = w.heap.size then (c.toList.take (k * size))[o]? else E.M b o, E.φ, fun i j => if i = t ∧ j = k then some (some ⟨w.heap.size, 0, none⟩, cap) else E.loc i j⟩
  have hlo : ∀ i j, i ≠ t → E'.loc i j = E.loc i j := fun i j hi => if_neg fun hh => hi hh.1
  have hlt : E'.loc t k = some (some ⟨w.heap.size, 0, none⟩, cap) := if_pos ⟨rfl, rfl⟩
  have hMo : ∀ b o, b ≠ w.heap.size → E'.M b o = E.M b o := fun b o hb => if_neg hb
  have hMn : ∀ o, E'.M w.heap.size o = (c.toList.take (k * size))[o]? := fun o => if_pos rfl
  have le : E.Le E' := ⟨fun b o v hM => by rw [hMo b o (by have := h.M_lt hM; omega)]; exact hM, fun _ _ x => x, fun i j x hx => by
    show (if i = t ∧ j = k then _ else E.loc i j) = some x
    rw [if_neg (fun hh => by rw [hh.1, hh.2, hl k (Nat.le_refl _)] at hx; cases hx)]; exact hx⟩
  have hobj : ∀ j, j ≠ t → (m.put t (.row k e size)).obj j = m.obj j := fun j hj => if_neg hj
  have hobi : (m.put t (.row k e size)).obj t = some (.row k e size) := if_pos rfl
  have hold : ∀ b, b < w.heap.size → W.heap[b]? = w.heap[b]? := fun b hb => Below.heap_alloc w.drew _ b hb
  have hnew : W.heap[w.heap.size]? = some (.cells c e (0, 0)) := heap_alloc_new w.drew _
  have hB : ∀ j b, BlkOf E' (m.put t (.row k e size)) j b → (j = t ∧ b = w.heap.size) ∨ (j ≠ t ∧ BlkOf E m j b) := by
    intro j b hb
    by_cases hj : j = t
    · subst hj
      rcases hb with ⟨cs', t', h1, h2⟩ | ⟨n', e', size', cap', h1, h2, h3⟩ | ⟨x, h1, h2⟩
      · rw [hobi] at h1; cases h1
      · rw [hobi] at h1; cases h1; rw [hlt] at h2; cases h2; exact .inl ⟨rfl, rfl⟩
      · rw [hobi] at h1; cases h1
    · refine .inr ⟨hj, ?_⟩
      rcases hb with ⟨cs', t', h1, h2⟩ | ⟨n', e', size', cap', h1, h2, h3⟩ | ⟨x, h1, h2⟩
      · exact .inl ⟨cs', t', (hobj j hj).symm.trans h1, h2⟩
      · exact .inr (.inl ⟨n', e', size', cap', (hobj j hj).symm.trans h1, (hlo j n' hj).symm.trans h2, h3⟩)
      · exact .inr (.inr ⟨x, (hobj j hj).symm.trans h1, h2⟩)
  have hg := h.grow (w' := W) hold
  refine ⟨E', ⟨le, Nat.le_refl _, fun _ _ _ => rfl, fun j _ hj hn => ?_, rfl, rfl, rfl, Nat.le_succ _, by simp, fun b hb _ => hold b hb, fun j b hb hlt' => ?_, fun b o v hM => by
    by_cases hb : b = w.heap.size
    · exact .inr (.inl (Nat.le_of_eq hb.symm))
    · rw [hMo b o hb] at hM; exact .inl hM⟩, ⟨?_, ?_, ?_, ?_, fun j x hj => by
      have hjt : j ≠ t := fun e' => by subst e'; rw [hobi] at hj; cases hj
      obtain ⟨b, o, h1, h2, h3⟩ := h.oth j x ((hobj j hjt).symm.trans hj)
      exact ⟨b, o, h1, (hold b (heap_lt h2)).trans h2, HobR.mono le h3⟩, ?_, h.sizK (fun j cs t' hj => have hjt : j ≠ t := fun e' => by subst e'; rw [hobi] at hj; cases hj
      ⟨(hobj j hjt).symm.trans hj, rfl, fun s => hlo j s hjt⟩) fun _ _ _ b _ _ hlt => hold b hlt⟩, hlt, ?_⟩
  · have hjt : j ≠ t := fun e' => by
      subst e'
      rcases ho with ⟨_, hx⟩ | ⟨_, _, _, h1⟩
      · exact hj hx
      · rw [hn] at h1; cases h1
    exact ⟨fun i => hlo j i hjt, (hobj j hjt).trans hn⟩
  · rcases hB j b hb with ⟨_, rfl⟩ | ⟨_, h1⟩
    · exact absurd hlt' (Nat.lt_irrefl _)
    · exact ⟨j, h1⟩
  · intro b o v hM
    by_cases hb : b = w.heap.size
    · subst hb
      rw [hMn, List.getElem?_take] at hM
      split at hM
      · show W.cell? _ = _
        rw [cell_of_row W w.heap.size o c e (0, 0) hnew]; simpa using hM
      · cases hM
    · rw [hMo b o hb] at hM; exact hg.stable b o v hM
  · intro j hj
    have hjt : j ≠ t := fun e => by subst e; exact absurd ht (Nat.not_lt.2 hj)
    have := h.fresh j hj
    exact ⟨this.1, fun i => (hlo j i hjt).trans (this.2.1 i), (hobj j hjt).trans this.2.2⟩
  · intro j cs t' hj
    by_cases hjt : j = t
    · subst hjt; rw [hobi] at hj; cases hj
    · obtain ⟨b, c', h1, h2, h3, h4⟩ := h.box j cs t' ((hobj j hjt).symm.trans hj)
      have hlt' := heap_lt h2
      exact ⟨b, c', h1, (hold b hlt').trans h2, VRs.mono le h3, fun o => (hMo b o (by omega)).trans (h4 o)⟩
  · intro j n' e' size' hj
    by_cases hjt : j = t
    · subst hjt; rw [hobi] at hj; cases hj
      refine ⟨_, cap, hlt, fun i hi => (if_neg fun hh => by omega : E'.loc j i = E.loc j i).trans (hl i (by omega)), hk, fun hn => ⟨w.heap.size, c, rfl, hnew, hc, fun o hoo => ?_⟩⟩
      rw [hMn, List.getElem?_take, if_neg (by omega)]
    · obtain ⟨A', cap', h1, h2, h3, h4⟩ := h.row j n' e' size' ((hobj j hjt).symm.trans hj)
      refine ⟨A', cap', (hlo j n' hjt).trans h1, fun i hi => (hlo j i hjt).trans (h2 i hi), h3, fun hn => ?_⟩
      obtain ⟨b, c', h5, h6, h7, h8⟩ := h4 hn
      have hlt' := heap_lt h6
      exact ⟨b, c', h5, (hold b hlt').trans h6, h7, fun o hoo => (hMo b o (by omega)).trans (h8 o hoo)⟩
  · intro j i b hb hb'
    rcases hB j b hb with ⟨rfl, rfl⟩ | ⟨_, h1⟩
    · rcases hB i _ hb' with ⟨rfl, _⟩ | ⟨_, h2⟩
      · rfl
      · exact absurd (h.blk_lt h2) (Nat.lt_irrefl _)
    · rcases hB i b hb' with ⟨_, rfl⟩ | ⟨_, h2⟩
      · exact absurd (h.blk_lt h1) (Nat.lt_irrefl _)
      · exact h.inj j i b h1 h2
  · intro xs hx
    refine At.of_get fun i v hv => ?_
    obtain ⟨u, hu, hr⟩ := hx.get hv
    exact ⟨u, by rw [hMn, Nat.zero_add]; exact hu, hr.mono le⟩

/-- A row grows where it lies. -/
theorem MemR.rowMore (h : MemR E m w) {t n : Nat} {e : TypeId} {size : Nat} (ht : m.obj t = some (.row n e size)) {b cap : Nat} (hloc : E.loc t n = some (some ⟨b, 0, none⟩, cap)) {c : Array Value} (hb : w.heap[b]? = some (.cells c e (0, 0)))
    (hcs : c.size = cap * size) (hM : ∀ o, n * size ≤ o → E.M b o = none) {j : Nat} (hj : 0 < j) (hroom : n + j ≤ cap) {news : List Value} (hnl : news.length = j * size) {w' : World} (hs : SameBut w w' b) {c' : Array Value} (hc' : w'.heap[b]? = some (.cells c' e (0, 0)))
    (hcl : c'.toList = c.toList.take (n * size) ++ news ++ c.toList.drop (n * size + news.length)) (hold : ∀ k, n < k → E.loc t k = none) :
    ∃ E', Step NoX E m w E' (m.put t (.row (n + j) e size)) w' ∧ MemR E' (m.put t (.row (n + j) e size)) w' ∧ E'.loc t (n + j) = some (some ⟨b, 0, none⟩, cap) ∧
      ∀ xs ys, xs.length = n * size → At E b 0 xs → VRs E ys news → At E' b 0 (xs ++ ys) := by
  let E' : Env := ⟨fun k o => if k = b ∧ n * size ≤ o ∧ o < n * size + news.length then news[o - n * size]? else E.M k o, E.φ, fun i k => if i = t ∧ k = n + j then some (some ⟨b, 0, none⟩, cap) else E.loc i k⟩
  have hlo : ∀ i k, i ≠ t → E'.loc i k = E.loc i k := fun i k hi => if_neg fun hh => hi hh.1
  have hlt : E'.loc t (n + j) = some (some ⟨b, 0, none⟩, cap) := if_pos ⟨rfl, rfl⟩
  have hMo : ∀ k o, k ≠ b → E'.M k o = E.M k o := fun k o hk => if_neg fun hh => hk hh.1
  have hMb : ∀ o, o < n * size → E'.M b o = E.M b o := fun o hoo => if_neg fun hh => by omega
  have hMn : ∀ o, o < news.length → E'.M b (n * size + o) = news[o]? := fun o hoo => by
    show (if b = b ∧ n * size ≤ n * size + o ∧ n * size + o < n * size + news.length then news[n * size + o - n * size]? else _) = _
    rw [if_pos ⟨rfl, by omega, by omega⟩, Nat.add_sub_cancel_left]
  have le : E.Le E' := ⟨fun k o v hk => by
    by_cases hkb : k = b
    · subst hkb
      have : o < n * size := by
        rcases Nat.lt_or_ge o (n * size) with h1 | h1
        · exact h1
        · rw [hM o h1] at hk; cases hk
      rw [hMb o this]; exact hk
    · rw [hMo k o hkb]; exact hk, fun _ _ x => x, fun i k x hx => by
    show (if i = t ∧ k = n + j then _ else E.loc i k) = some x
    rw [if_neg (fun hh => by rw [hh.1, hh.2, hold (n + j) (by omega)] at hx; cases hx)]; exact hx⟩
  have hobj : ∀ i, i ≠ t → (m.put t (.row (n + j) e size)).obj i = m.obj i := fun i hi => if_neg hi
  have hobi : (m.put t (.row (n + j) e size)).obj t = some (.row (n + j) e size) := if_pos rfl
  have hBt : BlkOf E m t b := .inr (.inl ⟨n, e, size, cap, ht, hloc, by omega⟩)
  have hB : ∀ i k, BlkOf E' (m.put t (.row (n + j) e size)) i k → BlkOf E m i k := by
    intro i k hk
    by_cases hi : i = t
    · subst hi
      rcases hk with ⟨cs', t', h1, h2⟩ | ⟨n', e', size', cap', h1, h2, h3⟩ | ⟨x, h1, h2⟩
      · rw [hobi] at h1; cases h1
      · rw [hobi] at h1; cases h1; rw [hlt] at h2; cases h2; exact hBt
      · rw [hobi] at h1; cases h1
    · rcases hk with ⟨cs', t', h1, h2⟩ | ⟨n', e', size', cap', h1, h2, h3⟩ | ⟨x, h1, h2⟩
      · exact .inl ⟨cs', t', (hobj i hi).symm.trans h1, h2⟩
      · exact .inr (.inl ⟨n', e', size', cap', (hobj i hi).symm.trans h1, (hlo i n' hi).symm.trans h2, h3⟩)
      · exact .inr (.inr ⟨x, (hobj i hi).symm.trans h1, h2⟩)
  have hfit : n * size + news.length ≤ c.size := by rw [hnl, hcs, ← Nat.add_mul]; exact Nat.mul_le_mul_right _ hroom
  have hc2 : c'.size = c.size := by
    have := congrArg List.length hcl
    simp only [List.length_append, List.length_take, List.length_drop, Array.length_toList] at this
    omega
  have hcell : ∀ o, w'.cell? ⟨b, o, none⟩ = c'.toList[o]? := fun o => by rw [cell_of_row w' b o c' e (0, 0) hc']; simp
  have hlen : (c.toList.take (n * size)).length = n * size := by rw [List.length_take, Array.length_toList]; omega
  refine ⟨E', ⟨le, Nat.le_refl _, fun _ _ _ => rfl, fun i _ _ hn => ?_, hs.os, hs.tape, hs.output, hs.drawn, Nat.le_of_eq hs.size.symm, fun k _ hk => hs.block k fun e => by subst e; exact hk t hBt, fun i k hk _ => ⟨i, hB i k hk⟩, fun k o v hk => by
    by_cases hkb : k = b
    · exact .inr (.inr ⟨t, by rw [hkb]; exact hBt⟩)
    · rw [hMo k o hkb] at hk; exact .inl hk⟩, ⟨?_, ?_, ?_, ?_, fun i x hi => by
      have hit : i ≠ t := fun e' => by subst e'; rw [hobi] at hi; cases hi
      have hi' := (hobj i hit).symm.trans hi
      obtain ⟨k, o, h1, h2, h3⟩ := h.oth i x hi'
      have hne : k ≠ b := fun e' => by subst e'; exact hit (h.inj i t k (.inr (.inr ⟨x, hi', h1⟩)) hBt)
      exact ⟨k, o, h1, (hs.block k hne).trans h2, HobR.mono le h3⟩, fun i k x h1 h2 => h.inj i k x (hB i x h1) (hB k x h2), h.sizK (fun j cs t' hj => have hjt : j ≠ t := fun e' => by subst e'; rw [hobi] at hj; cases hj
      ⟨(hobj j hjt).symm.trans hj, rfl, fun s => hlo j s hjt⟩) fun j cs t' k hj hk _ => hs.block k fun e' => by
        subst e'
        have hjt : j ≠ t := fun e' => by subst e'; rw [hobi] at hj; cases hj
        exact hjt (h.inj j t k (.inl ⟨cs, t', (hobj j hjt).symm.trans hj, hk⟩) hBt)⟩, hlt, ?_⟩
  · have hit : i ≠ t := fun e => by subst e; rw [hn] at ht; cases ht
    exact ⟨fun k => hlo i k hit, (hobj i hit).trans hn⟩
  · intro k o v hk
    by_cases hkb : k = b
    · subst hkb
      rw [hcell, hcl, List.append_assoc]
      rcases Nat.lt_or_ge o (n * size) with h1 | h1
      · rw [hMb o h1] at hk
        have := h.stable _ _ _ hk
        rw [cell_of_row w k o c e (0, 0) hb] at this
        rw [List.getElem?_append_left (by omega), List.getElem?_take, if_pos h1]; simpa using this
      · by_cases h2 : o < n * size + news.length
        · obtain ⟨q, rfl⟩ : ∃ q, o = n * size + q := ⟨o - n * size, by omega⟩
          rw [hMn q (by omega)] at hk
          rw [List.getElem?_append_right (by omega), hlen, Nat.add_sub_cancel_left, List.getElem?_append_left (by omega)]; exact hk
        · have : E'.M k o = E.M k o := if_neg fun hh => h2 hh.2.2
          rw [this, hM o h1] at hk; cases hk
    · rw [hMo k o hkb] at hk
      rw [World.cell?_of_block (w := w) (hs.block k hkb)]; exact h.stable k o v hk
  · intro i hi
    have hit : i ≠ t := fun e => by subst e; rw [(h.fresh i hi).2.2] at ht; cases ht
    have := h.fresh i hi
    exact ⟨this.1, fun k => (hlo i k hit).trans (this.2.1 k), (hobj i hit).trans this.2.2⟩
  · intro i cs t' hi
    by_cases hit : i = t
    · subst hit; rw [hobi] at hi; cases hi
    · have hi' := (hobj i hit).symm.trans hi
      obtain ⟨k, c'', h1, h2, h3, h4⟩ := h.box i cs t' hi'
      have hne : k ≠ b := fun e' => by subst e'; exact hit (h.inj i t k (.inl ⟨cs, t', hi', h1⟩) hBt)
      exact ⟨k, c'', h1, (hs.block k hne).trans h2, VRs.mono le h3, fun o => (hMo k o hne).trans (h4 o)⟩
  · intro i n' e' size' hi
    by_cases hit : i = t
    · subst hit; rw [hobi] at hi; cases hi
      refine ⟨_, cap, hlt, fun k hk => (if_neg fun hh => by omega : E'.loc i k = E.loc i k).trans (hold k (by omega)), hroom, fun hn => ⟨b, c', rfl, hc', by rw [hc2, hcs], fun o hoo => ?_⟩⟩
      rw [Nat.add_mul] at hoo
      exact (if_neg fun hh => by omega : E'.M b o = E.M b o).trans (hM o (by omega))
    · have hi' := (hobj i hit).symm.trans hi
      obtain ⟨A', cap', h1, h2, h3, h4⟩ := h.row i n' e' size' hi'
      refine ⟨A', cap', (hlo i n' hit).trans h1, fun k hk => (hlo i k hit).trans (h2 k hk), h3, fun hn => ?_⟩
      obtain ⟨k, c'', h5, h6, h7, h8⟩ := h4 hn
      have hne : k ≠ b := fun e'' => by subst e''; subst h5; exact hit (h.inj i t k (.inr (.inl ⟨n', e', size', cap', hi', h1, hn⟩)) hBt)
      exact ⟨k, c'', h5, (hs.block k hne).trans h6, h7, fun o hoo => (hMo k o hne).trans (h8 o hoo)⟩
  · intro xs ys hxl hx hy
    refine At.of_get fun i v hv => ?_
    rw [Nat.zero_add]
    rcases Nat.lt_or_ge i xs.length with h1 | h1
    · rw [List.getElem?_append_left h1] at hv
      obtain ⟨u, hu, hr⟩ := hx.get hv
      rw [Nat.zero_add] at hu
      exact ⟨u, le.M _ _ _ hu, hr.mono le⟩
    · rw [List.getElem?_append_right h1] at hv
      obtain ⟨u, hu, hr⟩ := hy.get hv
      obtain ⟨q, rfl⟩ : ∃ q, i = n * size + q := ⟨i - n * size, by omega⟩
      rw [hxl, Nat.add_sub_cancel_left] at hu
      exact ⟨u, by rw [hMn q (List.getElem?_eq_some_iff.1 hu).1]; exact hu, hr.mono le⟩
end
end Go.Proofs.YtdefefeifcdogaaGreat
/-! The operations that do not look at memory: what is computed of values by numbers is what the machine computes. Nothing is proved of the program here. -/
namespace Go.Proofs.YtdefefeifcdogaaGreat
open Go.RowKit

/-- What an operation comes to, if it neither panics nor stops. -/
def OpOut (P : Program) (o : Oper) (a : Act) (w : World) (R : Value → World → Prop) : Prop :=
  (∃ v w', (execOp a.eval o).run P w = .ok (.value v) w' ∧ R v w') ∨
  (∃ w', (execOp a.eval o).run P w = .ok .skip w' ∧ R undef w') ∨
  (∃ f args w', (execOp a.eval o).run P w = .ok (.enter f args) w' ∧ Calls P f args w' fun e w'' => ∃ v, e = .returned v ∧ R v w'') ∨
  (∃ l f tmps as bd w', (execOp a.eval o).run P w = .ok (.round l f tmps as bd) w' ∧ RoundIn Fence.wide 0 P l f tmps as bd w' fun e w'' => ∃ v, e = .returned v ∧ R v w'')

/-- All frames, in a round of a loop over a function or in none. -/
def fen (ro : Option Nat) : Fence := { Fence.wide with round := ro }
theorem OpOut.notDefer {P : Program} {o : Oper} {a : Act} {w : World} {R : Value → World → Prop} (h : OpOut P o a w R) (c : Call) : o.op ≠ .defer c := by
  intro ho
  have hx : ∀ n w', (execOp a.eval o).run P w = .ok n w' → ∃ d, n = .defer d := fun n w' hr => by
    simp only [execOp, ho, Sem.run_bind] at hr
    cases hres : (resolve a.eval c o.type).run P w with
    | ok d w'' =>
      rw [hres] at hr
      simp [Result.andThen, Sem.run_pure] at hr
      exact ⟨d, hr.1.symm⟩
    | halt x w'' => rw [hres] at hr; simp [Result.andThen] at hr
  rcases h with ⟨v, w', hr, _⟩ | ⟨w', hr, _⟩ | ⟨f, args, w', hr, _⟩ | ⟨l, f, t, as, bd, w', hr, _⟩
  all_goals (obtain ⟨d, e⟩ := hx _ _ hr; cases e)
theorem OpOut.wpIn {P : Program} {o : Oper} {a : Act} {w : World} {R : Value → World → Prop} (ro : Option Nat) (h : OpOut P o a w R) {next : Act → World → Prop} {Q : Exit → Act → World → Prop} (hn : ∀ v w', R v w' → next (a.put o.dst v) w') : o.wpIn (fen ro) 0 P a w next Q := by
  unfold Oper.wpIn
  refine ⟨fun _ _ => trivial, ?_⟩
  rw [Oper.semAt_eq (fen ro).round a.eval o h.notDefer]
  rcases h with ⟨v, w', hr, hR⟩ | ⟨w', hr, hR⟩ | ⟨f, args, w', hr, hR⟩ | ⟨l, f, t, as, bd, w', hr, hR⟩
  · rw [hr]; exact hn v w' hR
  · rw [hr]; exact hn undef w' hR
  · rw [hr]
    refine ⟨(fun h => by cases h), ?_⟩
    have hC : CallsIn Fence.wide (0 - 1) P f args w' fun
      | .returned v, w'' => next (a.put o.dst v) w''
      | .panicked chain, w'' => Q (.panic chain) a w''
      | .outgrown, _ => LetsOut Q := callsIn_wide.2 (hR.mono fun e w'' ⟨v, he, h⟩ => by subst he; exact hn v w'' h)
    exact hC
  · rw [hr]
    refine ⟨(fun h => by cases h), ?_⟩
    have hC : RoundIn Fence.wide (0 - 1) P l f t as bd w' fun
      | .returned v, w'' => next (a.put o.dst v) w''
      | .panicked chain, w'' => Q (.panic chain) a w''
      | .outgrown, _ => LetsOut Q := hR.mono fun e w'' ⟨v, he, h⟩ => by subst he; exact hn v w'' h
    exact hC

def OpR (E : Env) (m : Mm) (w : World) (id : Nat) (K : V → Mm → Prop) (v : Value) (w' : World) : Prop :=
  ∃ r m' E', K r m' ∧ Step (· = id) E m w E' m' w' ∧ MemR E' m' w' ∧ VR E' r v

section
variable {P : Program} {E : Env} {m : Mm} {w : World} {o : Oper} {a : Act} {id : Nat} {K : V → Mm → Prop}

theorem pure_out (hm : MemR E m w) {v : Value} {r : V} (hrun : (execOp a.eval o).run P w = .ok (.value v) w) (hr : VR E r v) (hK : K r m) : OpOut P o a w (OpR E m w id K) :=
  .inl ⟨v, w, hrun, r, m, E, hK, Step.refl _ _ _ _, hm, hr⟩

theorem VRs_one {x : V} {l : List Value} (h : VRs E [x] l) : ∃ c, l = [c] ∧ VR E x c := by
  rw [VRs] at h; obtain ⟨c, cs, rfl, h1, h2⟩ := h; rw [VRs] at h2; subst h2; exact ⟨c, rfl, h1⟩
theorem VRs_two {x y : V} {l : List Value} (h : VRs E [x, y] l) : ∃ c d, l = [c, d] ∧ VR E x c ∧ VR E y d := by
  rw [VRs] at h; obtain ⟨c, cs, rfl, h1, h2⟩ := h; obtain ⟨d, rfl, h3⟩ := VRs_one h2; exact ⟨c, d, rfl, h1, h3⟩
theorem VRs_three {x y z : V} {l : List Value} (h : VRs E [x, y, z] l) : ∃ c d e, l = [c, d, e] ∧ VR E x c ∧ VR E y d ∧ VR E z e := by
  rw [VRs] at h; obtain ⟨c, cs, rfl, h1, h2⟩ := h; obtain ⟨d, e, rfl, h3⟩ := VRs_two h2; exact ⟨c, d, e, rfl, h1, h3⟩
theorem VR_lit {v c : Value} (h : VR E (.lit v) c) : c = v := by rw [VR] at h; exact h.1
theorem VR_mk {v : Value} (h : flat v = true) : VR E (.lit v) v := by rw [VR]; exact ⟨rfl, h⟩

theorem VR.cells {v : V} {c : Value} (h : VR E v c) : VRs E v.cells c.cells.toList := by
  cases v with
  | agg cs => rw [VR] at h; obtain ⟨a, rfl, h1⟩ := h; exact h1
  | lit v =>
    have h0 := h
    rw [VR] at h
    obtain ⟨rfl, hf⟩ := h
    have : c.cells = #[c] := by cases c <;> first | rfl | (simp [flat] at hf)
    rw [this]; show VRs E [V.lit c] [c]; rw [VRs]; exact ⟨c, [], rfl, h0, by rw [VRs]⟩
  | tup cs => have h0 := h; rw [VR] at h; obtain ⟨a, rfl, _⟩ := h; show VRs E [_] [_]; rw [VRs]; exact ⟨_, [], rfl, h0, by rw [VRs]⟩
  | sl _ _ _ => have h0 := h; rw [VR] at h; obtain ⟨_, _, rfl, _⟩ := h; show VRs E [_] [_]; rw [VRs]; exact ⟨_, [], rfl, h0, by rw [VRs]⟩
  | ptr _ _ => have h0 := h; rw [VR] at h; obtain ⟨_, _, rfl⟩ := h; show VRs E [_] [_]; rw [VRs]; exact ⟨_, [], rfl, h0, by rw [VRs]⟩
  | bsl _ _ _ _ => have h0 := h; rw [VR] at h; obtain ⟨_, _, _, rfl, _⟩ := h; show VRs E [_] [_]; rw [VRs]; exact ⟨_, [], rfl, h0, by rw [VRs]⟩
  | gsl _ _ _ => have h0 := h; rw [VR] at h; obtain ⟨_, _, _, rfl, _⟩ := h; show VRs E [_] [_]; rw [VRs]; exact ⟨_, [], rfl, h0, by rw [VRs]⟩
  | mp _ => have h0 := h; rw [VR] at h; obtain ⟨_, _, rfl⟩ := h; show VRs E [_] [_]; rw [VRs]; exact ⟨_, [], rfl, h0, by rw [VRs]⟩
  | yld _ => have h0 := h; rw [VR] at h; obtain ⟨_, _, rfl⟩ := h; show VRs E [_] [_]; rw [VRs]; exact ⟨_, [], rfl, h0, by rw [VRs]⟩
  | ept _ _ => have h0 := h; rw [VR] at h; obtain ⟨_, _, rfl, _⟩ := h; show VRs E [_] [_]; rw [VRs]; exact ⟨_, [], rfl, h0, by rw [VRs]⟩
  | fn _ _ => have h0 := h; rw [VR] at h; obtain ⟨_, rfl, _⟩ := h; show VRs E [_] [_]; rw [VRs]; exact ⟨_, [], rfl, h0, by rw [VRs]⟩

/-! ### Aggregates that are built -/
theorem foldl_set (vs : List Value) : ∀ (off : Nat) (c : Array Value), off + vs.length ≤ c.size →
    ((vs.zipIdx).foldl (fun cs (x : Value × Nat) => cs.setIfInBounds (off + x.2) x.1) c).toList = c.toList.take off ++ vs ++ c.toList.drop (off + vs.length) := by
  suffices H : ∀ (vs : List Value) (k off : Nat) (c : Array Value), off + k + vs.length ≤ c.size →
      ((vs.zipIdx k).foldl (fun cs (x : Value × Nat) => cs.setIfInBounds (off + x.2) x.1) c).toList = c.toList.take (off + k) ++ vs ++ c.toList.drop (off + k + vs.length) from fun off c h => H vs 0 off c h
  intro vs
  induction vs with
  | nil => intro k off c h; simp
  | cons v r ih =>
    intro k off c h
    simp only [List.length_cons] at h
    rw [List.zipIdx_cons, List.foldl_cons, ih (k + 1) off _ (by simp; omega)]
    have ho : off + k < c.toList.length := by rw [Array.length_toList]; omega
    have hto : (c.toList.take (off + k)).length = off + k := by rw [List.length_take]; omega
    rw [Array.toList_setIfInBounds, List.set_eq_take_append_cons_drop, if_pos ho]
    have e1 : (c.toList.take (off + k) ++ v :: c.toList.drop (off + k + 1)).take (off + (k + 1)) = c.toList.take (off + k) ++ [v] := by
      rw [List.take_append, hto, List.take_of_length_le (by omega)]
      congr 1
      rw [show off + (k + 1) - (off + k) = 0 + 1 by omega, List.take_succ_cons, List.take_zero]
    have e2 : (c.toList.take (off + k) ++ v :: c.toList.drop (off + k + 1)).drop (off + (k + 1) + r.length) = c.toList.drop (off + k + (r.length + 1)) := by
      rw [List.drop_append, hto, List.drop_eq_nil_of_le (by omega), List.nil_append, show off + (k + 1) + r.length - (off + k) = r.length + 1 by omega, List.drop_succ_cons, List.drop_drop]
      congr 1
      omega
    rw [e1, e2]
    simp
theorem take_splice {α : Type} (A v : List α) (off k : Nat) (h : off + v.length ≤ k) (hk : k ≤ A.length) : (A.take off ++ v ++ A.drop (off + v.length)).take k = (A.take k).take off ++ v ++ (A.take k).drop (off + v.length) := by
  have h1 : (A.take off).length = off := by rw [List.length_take]; omega
  rw [List.take_take, Nat.min_eq_left (by omega), List.append_assoc, List.take_append, h1, List.take_of_length_le (by omega), List.take_append, List.take_of_length_le (l := v) (by omega), List.append_assoc, List.drop_take]
  congr 3
  omega
theorem VRs.splice {cs vs : List V} {cc vc : List Value} (h : VRs E cs cc) (h' : VRs E vs vc) (off : Nat) {c' : List Value} (hc : c' = cc.take off ++ vc ++ cc.drop (off + vc.length)) : VRs E (splice cs off vs) c' := by
  subst hc
  have h1 := h.slice 0 off
  have h2 := h.slice (off + vs.length) cs.length
  have e1 : (cs.drop (off + vs.length)).take cs.length = cs.drop (off + vs.length) := List.take_of_length_le (by rw [List.length_drop]; omega)
  have e2 : (cc.drop (off + vs.length)).take cs.length = cc.drop (off + vs.length) := List.take_of_length_le (by rw [List.length_drop, h.length]; omega)
  rw [e1, e2, ← h'.length] at h2
  rw [h'.length] at h2
  rw [h'.length]
  exact (h1.append h').append h2

theorem fill_ok {place : Nat → Option (Nat × Nat)} : ∀ (pl : List (Nat × Nat)) (vals : List V) (ps : List (Nat × Value)) (z : List V) (zc : Array Value) (cs : List V), pl.length = vals.length → ps.map (fun p => place p.1) = pl.map some →
    VRs E vals (ps.map (·.2)) → VRs E z zc.toList → vfill z (pl.zip vals) = some cs → ∃ cc, Instr.fill place zc ps = some cc ∧ VRs E cs cc.toList
  | [], [], ps, z, zc, cs, _, hp, _, hz, hf => by
    have : ps = [] := by simpa using hp
    subst this
    simp only [List.zip_nil_left, vfill, Option.some.injEq] at hf
    subst hf
    exact ⟨zc, rfl, hz⟩
  | [], _ :: _, _, _, _, _, hl, _, _, _, _ => by simp at hl
  | _ :: _, [], _, _, _, _, hl, _, _, _, _ => by simp at hl
  | (off, size) :: pl, v :: vals, ps, z, zc, cs, hl, hp, hv, hz, hf => by
    cases ps with
    | nil => simp at hp
    | cons p ps =>
      simp only [List.map_cons, List.cons.injEq] at hp
      rw [List.map_cons, VRs] at hv
      obtain ⟨c, cs', e, h1, h2⟩ := hv
      cases e
      simp only [List.zip_cons_cons, vfill] at hf
      split at hf
      · rename_i hh
        obtain ⟨h3, h4⟩ := hh
        have h5 := h1.cells
        have h6 : p.2.cells.size = size := by have := h5.length; rw [Array.length_toList] at this; omega
        have h7 : off + p.2.cells.toList.length ≤ zc.size := by have := hz.length; rw [Array.length_toList] at this ⊢; omega
        have h8 := foldl_set p.2.cells.toList off zc h7
        have h9 := VRs.splice hz h5 off h8
        obtain ⟨cc, hcc, hr⟩ := fill_ok pl vals ps _ (((p.2.cells.toList).zipIdx).foldl (fun cs (x : Value × Nat) => cs.setIfInBounds (off + x.2) x.1) zc) cs (by simpa using hl) hp.2 h2 h9 hf
        refine ⟨cc, ?_, hr⟩
        rw [Instr.fill, hp.1]
        have h10 : ¬ (p.2.cells.size ≠ size ∨ zc.size < off + p.2.cells.size) := by rw [Array.length_toList] at h7; omega
        simp only [ne_eq, Bool.or_eq_true, decide_eq_true_eq, gt_iff_lt]
        rw [if_neg (by simpa using h10), ← hcc]
        congr 1
        rw [← Array.foldl_toList, Array.toList_zipIdx]
      · cases hf

theorem mapM_some {α β : Type} {f : α → Option β} : ∀ {l : List α} {r : List β}, l.mapM f = some r → l.map f = r.map some
  | [], r, h => by simp at h; subst h; rfl
  | x :: l, r, h => by
    rw [List.mapM_cons] at h
    simp only [Option.bind_eq_bind, Option.bind_eq_some_iff] at h
    obtain ⟨y, hy, ys, hys, h3⟩ := h
    cases h3
    rw [List.map_cons, List.map_cons, hy, mapM_some hys]

theorem ofCell_ok {v : Value} {u : V} (h : ofCell v = some u) : VR E u v ∧ u.pure = true ∧ u.one = true := by
  cases v <;> simp only [ofCell] at h
  case slice a n c =>
    split at h
    · rename_i e
      obtain ⟨rfl, rfl, rfl⟩ := e
      cases h
      refine ⟨?_, by rw [V.pure]; (intro t h; cases h), rfl⟩
      rw [VR]; exact ⟨none, 0, rfl, Nat.le_refl _, rfl, rfl, .inl rfl⟩
    · cases h
  case func fn first cap =>
    cases fn <;> simp only at h
    case func f =>
      split at h
      · rename_i h0
        cases h
        refine ⟨?_, by rw [V.pure, V.pures], rfl⟩
        rw [VR]
        refine ⟨#[], ?_, by rw [VRs]⟩
        rw [Array.eq_empty_of_size_eq_zero h0.1, Array.eq_empty_of_size_eq_zero h0.2]
      · cases h
    all_goals cases h
  case agg => cases h
  case tuple => cases h
  all_goals
    split at h
    · rename_i hf
      cases h
      exact ⟨VR_mk hf, by rw [V.pure], rfl⟩
    · cases h
theorem ofCells_ok : ∀ {l : List Value} {r : List V}, l.mapM ofCell = some r → VRs E r l ∧ V.clean r = true
  | [], r, h => by simp at h; subst h; exact ⟨by rw [VRs], rfl⟩
  | x :: l, r, h => by
    rw [List.mapM_cons] at h
    simp only [Option.bind_eq_bind, Option.bind_eq_some_iff] at h
    obtain ⟨y, hy, ys, hys, h3⟩ := h
    cases h3
    obtain ⟨h1, h2, h3⟩ := ofCell_ok (E := E) hy
    obtain ⟨h4, h5⟩ := ofCells_ok hys
    refine ⟨by rw [VRs]; exact ⟨x, l, rfl, h1, h4⟩, ?_⟩
    rw [clean_iff] at h5 ⊢
    refine ⟨by rw [V.pures, h2, h5.1]; rfl, fun v hv => ?_⟩
    rcases List.mem_cons.1 hv with rfl | hv
    · exact h3
    · exact h5.2 v hv
theorem ofVal_ok {v : Value} {u : V} (h : ofVal v = some u) : VR E u v := by
  by_cases hv : ∃ a, v = .agg a
  · obtain ⟨a, rfl⟩ := hv
    simp only [ofVal, Option.map_eq_some_iff] at h
    obtain ⟨r, hr, rfl⟩ := h
    rw [VR]; exact ⟨a, rfl, (ofCells_ok hr).1⟩
  · have : ofVal v = ofCell v := by cases v <;> first | rfl | exact absurd ⟨_, rfl⟩ hv
    exact (ofCell_ok (this ▸ h)).1
theorem zeroV_ok {t : TypeId} {z : List V} (h : zeroV P t = some z) : ∃ i zv, P.info? t = some i ∧ i.zero = some zv ∧ VRs E z zv.cells.toList ∧ V.clean z = true := by
  unfold zeroV at h
  split at h
  · rename_i i hi
    split at h
    · rename_i zv hz
      obtain ⟨h1, h2⟩ := ofCells_ok (E := E) h
      exact ⟨i, zv, hi, hz, h1, h2⟩
    · cases h
  · cases h
theorem szOf_ok {t : TypeId} {s : Nat} (h : szOf P t = some s) : ∃ i, P.info? t = some i ∧ i.size = s := by
  unfold szOf at h
  rw [Option.map_eq_some_iff] at h
  exact h
end
end Go.Proofs.YtdefefeifcdogaaGreat
