/- Maps whose values are numbers, and texts of runes: what the machine does with them. Nothing is proved of the program here. -/
import Derived.Test.YtdefefeifcdogaaGreatVg
import Derived.MapKept
import Derived.Laws.Cover4
set_option linter.unusedSimpArgs false
set_option linter.unusedVariables false
namespace Go.Proofs.YtdefefeifcdogaaGreat
open Go.RowKit

section
variable {P : Program} {E : Env} {m : Mm} {w : World}
theorem putObj_same (w : World) (b : Nat) (o : Obj) : SameBut w (w.putObj b o) b := ⟨rfl, rfl, rfl, Nat.le_refl _, by simp [World.putObj], fun k hk => World.putObj_heap_other hk⟩
/-- A block that nothing speaks of may change. -/
theorem MemR.away (h : MemR E m w) {b : Nat} {w' : World} (hs : SameBut w w' b) (hM : ∀ o, E.M b o = none) (hn : ∀ i, ¬ BlkOf E m i b) : MemR E m w' where
  stable := fun k o v hk => by
    have hne : k ≠ b := fun e => by subst e; rw [hM o] at hk; cases hk
    rw [World.cell?_of_block (w := w) (hs.block k hne)]; exact h.stable k o v hk
  fresh := h.fresh
  box := fun i cs t hi => by
    obtain ⟨k, c, h1, h2, h3⟩ := h.box i cs t hi
    exact ⟨k, c, h1, (hs.block k fun e => by subst e; exact hn i (.inl ⟨cs, t, hi, h1⟩)).trans h2, h3⟩
  row := fun i n e size hi => by
    obtain ⟨A, cap, h1, h2, h3, h4⟩ := h.row i n e size hi
    refine ⟨A, cap, h1, h2, h3, fun hlt => ?_⟩
    obtain ⟨k, c, h5, h6, h7⟩ := h4 hlt
    exact ⟨k, c, h5, (hs.block k fun e' => by subst e'; subst h5; exact hn i (.inr (.inl ⟨n, e, size, cap, hi, h1, hlt⟩))).trans h6, h7⟩
  oth := fun i x hi => by
    obtain ⟨k, o, h1, h2, h3⟩ := h.oth i x hi
    exact ⟨k, o, h1, (hs.block k fun e => by subst e; exact hn i (.inr (.inr ⟨x, hi, h1⟩))).trans h2, h3⟩
  inj := h.inj
  siz := fun i cs t s A k b' c hi hl hφ hh => by
    have hne : b' ≠ b := fun e => by subst e; exact hn i (.inl ⟨cs, t, hi, hφ⟩)
    rw [hs.block b' hne] at hh
    exact h.siz i cs t s A k b' c hi hl hφ hh
/-- A new object that is no row of cells. -/
theorem MemR.newOth (h : MemR E m w) {i : Nat} (hi : i < m.next) (hφ : E.φ i = none) (ho : m.obj i = none) (hl : ∀ k, E.loc i k = none) {x : Hob} {o : Obj} (hx : HobR E x o) :
    ∃ E', Step (· = i) E m w E' (m.put i (.oth x)) (w.alloc o) ∧ MemR E' (m.put i (.oth x)) (w.alloc o) ∧ E'.φ i = some w.heap.size := by
  let E' : Env := ⟨E.M, fun j => if j = i then some w.heap.size else E.φ j, E.loc⟩
  have le : E.Le E' := ⟨fun _ _ _ x => x, fun j b hj => by
    show (if j = i then some w.heap.size else E.φ j) = some b
    rw [if_neg (fun e => by subst e; rw [hφ] at hj; cases hj)]; exact hj, fun _ _ _ x => x⟩
  have hobj : ∀ j, j ≠ i → (m.put i (.oth x)).obj j = m.obj j := fun j hj => if_neg hj
  have hobi : (m.put i (.oth x)).obj i = some (.oth x) := if_pos rfl
  have hφ' : ∀ j, j ≠ i → E'.φ j = E.φ j := fun j hj => if_neg hj
  have hφi : E'.φ i = some w.heap.size := if_pos rfl
  have hB : ∀ j b, BlkOf E' (m.put i (.oth x)) j b → (j = i ∧ b = w.heap.size) ∨ (j ≠ i ∧ BlkOf E m j b) := by
    intro j b hb
    by_cases hj : j = i
    · subst hj
      rcases hb with ⟨cs', t', h1, h2⟩ | ⟨n, e, size, cap, h1, h2, h3⟩ | ⟨y, h1, h2⟩
      · rw [hobi] at h1; cases h1
      · rw [hobi] at h1; cases h1
      · rw [hφi] at h2; cases h2; exact .inl ⟨rfl, rfl⟩
    · refine .inr ⟨hj, ?_⟩
      rcases hb with ⟨cs', t', h1, h2⟩ | ⟨n, e, size, cap, h1, h2, h3⟩ | ⟨y, h1, h2⟩
      · exact .inl ⟨cs', t', (hobj j hj).symm.trans h1, (hφ' j hj).symm.trans h2⟩
      · exact .inr (.inl ⟨n, e, size, cap, (hobj j hj).symm.trans h1, h2, h3⟩)
      · exact .inr (.inr ⟨y, (hobj j hj).symm.trans h1, (hφ' j hj).symm.trans h2⟩)
  have hg := h.grow (w' := w.alloc o) fun b hb => Below.heap_alloc w _ b hb
  refine ⟨E', ⟨le, Nat.le_refl _, fun j _ hj => hφ' j hj, fun j _ hj hn => ⟨fun _ => rfl, (hobj j hj).trans hn⟩, rfl, rfl, rfl, Nat.le_refl _, by simp, fun b hb _ => Below.heap_alloc w _ b hb, ?_, fun _ _ _ h => .inl h⟩, ⟨?_, ?_, ?_, ?_, ?_, ?_, ?_⟩, hφi⟩
  · intro j b hb hlt
    rcases hB j b hb with ⟨_, rfl⟩ | ⟨_, h1⟩
    · omega
    · exact ⟨j, h1⟩
  · exact hg.stable
  · intro j hj
    have hji : j ≠ i := fun e => by subst e; exact absurd hi (Nat.not_lt.2 hj)
    have := h.fresh j hj
    exact ⟨(hφ' j hji).trans this.1, this.2.1, (hobj j hji).trans this.2.2⟩
  · intro j cs' t' hj
    by_cases hji : j = i
    · subst hji; rw [hobi] at hj; cases hj
    · obtain ⟨b, c', h1, h2, h3, h4⟩ := hg.box j cs' t' ((hobj j hji).symm.trans hj)
      exact ⟨b, c', (hφ' j hji).trans h1, h2, VRs.mono le h3, h4⟩
  · intro j n e size hj
    by_cases hji : j = i
    · subst hji; rw [hobi] at hj; cases hj
    · exact hg.row j n e size ((hobj j hji).symm.trans hj)
  · intro j y hj
    by_cases hji : j = i
    · subst hji; rw [hobi] at hj; cases hj
      exact ⟨w.heap.size, o, hφi, World.alloc_heap_new w o, HobR.mono le hx⟩
    · obtain ⟨b, o', h1, h2, h3⟩ := hg.oth j y ((hobj j hji).symm.trans hj)
      exact ⟨b, o', (hφ' j hji).trans h1, h2, HobR.mono le h3⟩
  · intro j k b hb hb'
    rcases hB j b hb with ⟨rfl, rfl⟩ | ⟨_, h1⟩
    · rcases hB k _ hb' with ⟨rfl, _⟩ | ⟨_, h2⟩
      · rfl
      · exact absurd (h.blk_lt h2) (Nat.lt_irrefl _)
    · rcases hB k b hb' with ⟨_, rfl⟩ | ⟨_, h2⟩
      · exact absurd (h.blk_lt h1) (Nat.lt_irrefl _)
      · exact h.inj j k b h1 h2
  · intro j cs' t' s A k b c' hj hlj hφj hh
    by_cases hji : j = i
    · subst hji; rw [hobi] at hj; cases hj
    · exact hg.siz j cs' t' s A k b c' ((hobj j hji).symm.trans hj) hlj ((hφ' j hji).symm.trans hφj) hh
/-- Such an object changes. -/
theorem MemR.setOth (h : MemR E m w) {i b : Nat} {x x' : Hob} (hi : m.obj i = some (.oth x)) (hb : E.φ i = some b) {o' : Obj} (hr : HobR E x' o') :
    Step NoX E m w E (m.put i (.oth x')) (w.putObj b o') ∧ MemR E (m.put i (.oth x')) (w.putObj b o') := by
  have hobj : ∀ j, j ≠ i → (m.put i (.oth x')).obj j = m.obj j := fun j hj => if_neg hj
  have hobi : (m.put i (.oth x')).obj i = some (.oth x') := if_pos rfl
  have hs := putObj_same w b o'
  have hBi : BlkOf E m i b := .inr (.inr ⟨x, hi, hb⟩)
  have hB : ∀ j k, BlkOf E (m.put i (.oth x')) j k → BlkOf E m j k := by
    intro j k hk
    by_cases hj : j = i
    · subst hj
      rcases hk with ⟨_, _, h1, _⟩ | ⟨_, _, _, _, h1, _⟩ | ⟨_, h1, h2⟩
      · rw [hobi] at h1; cases h1
      · rw [hobi] at h1; cases h1
      · exact .inr (.inr ⟨x, hi, h2⟩)
    · rcases hk with ⟨x, y, h1, h2⟩ | ⟨x, y, z, u, h1, h2⟩ | ⟨x, h1, h2⟩
      · exact .inl ⟨x, y, (hobj j hj).symm.trans h1, h2⟩
      · exact .inr (.inl ⟨x, y, z, u, (hobj j hj).symm.trans h1, h2⟩)
      · exact .inr (.inr ⟨x, (hobj j hj).symm.trans h1, h2⟩)
  obtain ⟨b0, o0, e0, h0, hx0⟩ := h.oth i x hi
  rw [hb] at e0; cases e0
  have hM : ∀ o, E.M b o = none := fun o => h.othM h0 hx0
  have hlt := heap_lt h0
  refine ⟨⟨.refl E, Nat.le_refl _, fun _ _ _ => rfl, fun j _ _ hn => ⟨fun _ => rfl, (hobj j (fun e => by subst e; rw [hi] at hn; cases hn)).trans hn⟩, hs.os, hs.tape, hs.output, hs.drawn, Nat.le_of_eq hs.size.symm,
    fun k _ hk => hs.block k fun e => by subst e; exact hk i hBi, fun j k hk _ => ⟨j, hB j k hk⟩, fun _ _ _ h => .inl h⟩, ⟨?_, ?_, ?_, ?_, ?_, fun j k x h1 h2 => h.inj j k x (hB j x h1) (hB k x h2), ?_⟩⟩
  · intro k o v hk
    have hne : k ≠ b := fun e => by subst e; rw [hM o] at hk; cases hk
    rw [World.cell?_of_block (w := w) (hs.block k hne)]; exact h.stable k o v hk
  · intro j hj
    have := h.fresh j hj
    exact ⟨this.1, this.2.1, (hobj j (fun e => by subst e; rw [hi] at this; cases this.2.2)).trans this.2.2⟩
  · intro j cs'' t'' hj
    by_cases hji : j = i
    · subst hji; rw [hobi] at hj; cases hj
    · have hj' := (hobj j hji).symm.trans hj
      obtain ⟨k, c'', h1, h2, h3⟩ := h.box j cs'' t'' hj'
      have hne : k ≠ b := fun e => by subst e; exact hji (h.inj j i k (.inl ⟨cs'', t'', hj', h1⟩) hBi)
      exact ⟨k, c'', h1, (hs.block k hne).trans h2, h3⟩
  · intro j n e size hj
    by_cases hji : j = i
    · subst hji; rw [hobi] at hj; cases hj
    · have hj' := (hobj j hji).symm.trans hj
      obtain ⟨A, cap, h1, h2, h3, h4⟩ := h.row j n e size hj'
      refine ⟨A, cap, h1, h2, h3, fun hn => ?_⟩
      obtain ⟨k, c'', h5, h6, h7⟩ := h4 hn
      have hne : k ≠ b := fun e' => by subst e'; subst h5; exact hji (h.inj j i k (.inr (.inl ⟨n, e, size, cap, hj', h1, hn⟩)) hBi)
      exact ⟨k, c'', h5, (hs.block k hne).trans h6, h7⟩
  · intro j y hj
    by_cases hji : j = i
    · subst hji; rw [hobi] at hj; cases hj
      exact ⟨b, o', hb, World.putObj_heap_same hlt, hr⟩
    · have hj' := (hobj j hji).symm.trans hj
      obtain ⟨k, o, h1, h2, h3⟩ := h.oth j y hj'
      have hne : k ≠ b := fun e' => by subst e'; exact hji (h.inj j i k (.inr (.inr ⟨y, hj', h1⟩)) hBi)
      exact ⟨k, o, h1, (hs.block k hne).trans h2, h3⟩
  · intro j cs'' t'' s A k q c'' hj hlj hφj hh
    by_cases hji : j = i
    · subst hji; rw [hobi] at hj; cases hj
    · have hj' := (hobj j hji).symm.trans hj
      have hne : q ≠ b := fun e => by subst e; exact hji (h.inj j i q (.inl ⟨cs'', t'', hj', hφj⟩) hBi)
      rw [hs.block q hne] at hh
      exact h.siz j cs'' t'' s A k q c'' hj' hlj hφj hh
/-- Such an object goes. -/
theorem MemR.loseOth (h : MemR E m w) {i b : Nat} {x : Hob} (hi : m.obj i = some (.oth x)) (hb : E.φ i = some b) (o' : Obj) : Step NoX E m w E (m.del i) (w.putObj b o') ∧ MemR E (m.del i) (w.putObj b o') := by
  obtain ⟨h1, h2⟩ := h.del i
  have hs := putObj_same w b o'
  have hBi : BlkOf E m i b := .inr (.inr ⟨x, hi, hb⟩)
  obtain ⟨b0, o0, e0, h0, hx0⟩ := h.oth i x hi
  rw [hb] at e0; cases e0
  have hB : ∀ j k, BlkOf E (m.del i) j k → j ≠ i ∧ BlkOf E m j k := by
    intro j k hk
    have hd : ∀ o, (m.del i).obj j = some o → j ≠ i ∧ m.obj j = some o := fun o ho => by
      change (if j = i then none else m.obj j) = some o at ho
      by_cases hj : j = i
      · rw [if_pos hj] at ho; cases ho
      · rw [if_neg hj] at ho; exact ⟨hj, ho⟩
    rcases hk with ⟨x, y, h3, h4⟩ | ⟨x, y, z, u, h3, h4⟩ | ⟨x, h3, h4⟩
    · exact ⟨(hd _ h3).1, .inl ⟨x, y, (hd _ h3).2, h4⟩⟩
    · exact ⟨(hd _ h3).1, .inr (.inl ⟨x, y, z, u, (hd _ h3).2, h4⟩)⟩
    · exact ⟨(hd _ h3).1, .inr (.inr ⟨x, (hd _ h3).2, h4⟩)⟩
  refine ⟨{ h1 with os := hs.os, tape := hs.tape, output := hs.output, drawn := hs.drawn, size := Nat.le_of_eq hs.size.symm, kept := fun k hk hn => hs.block k fun e => by subst e; exact hn i hBi }, h2.away hs (fun o => h.othM h0 hx0) fun j hj => ?_⟩
  obtain ⟨h3, h4⟩ := hB j b hj
  exact h3 (h.inj j i b h4 hBi)
theorem run_part1 {t : TypeId} (ht : (∃ k, P.underlying t = some (.int k)) ∨ P.underlying t = some .bool ∨ P.underlying t = some .string) {cs : Array Value} {off : Nat} {v : Value} (hv : cs[off]? = some v) : (part t cs off).run P w = .ok v w := by
  unfold part isAgg
  rcases ht with ⟨k, ht⟩ | ht | ht <;> simp [run_underlying ht, hv]
theorem eqSc_run {t : TypeId} {k : Nat} {x y : Value} {b : Bool} (h : eqSc k x y = some b) (ht : (k = 0 ∧ ∃ k, P.underlying t = some (.int k)) ∨ (k = 1 ∧ P.underlying t = some .bool) ∨ (k = 2 ∧ P.underlying t = some .string)) (d : Nat) :
    (Op.equalIn (d + 1) t x y).run P w = .ok b w := by
  rcases ht with ⟨rfl, k', ht⟩ | ⟨rfl, ht⟩ | ⟨rfl, ht⟩
  · simp only [eqSc] at h
    split at h
    · split at h
      · rename_i hk; cases hk; cases h; exact run_equalIn_int w d t _ _ _ _ ht
      · cases h
    · cases h
  · simp only [eqSc] at h
    split at h
    · cases h; exact run_equalIn_bool w d t _ _ ht
    · cases h
  · simp only [eqSc] at h
    split at h
    · cases h; exact run_equalIn_string w d t _ _ ht
    · cases h
theorem eqFields_run (d : Nat) {xs ys : List V} {cx cy : Array Value} (hx : VRs E xs cx.toList) (hy : VRs E ys cy.toList) : ∀ (fs : List Field) (offs : List (Nat × Nat)) (b : Bool), eqFs P fs = some offs → eqOffs xs ys offs = some b →
    (Op.eqFields (d + 1) cx cy fs).run P w = .ok b w
  | [], offs, b, hf, he => by
    simp only [eqFs, Option.some.injEq] at hf
    subst hf
    simp only [eqOffs, Option.some.injEq] at he
    subst he
    simp [Op.eqFields]
  | f :: fs, offs, b, hf, he => by
    simp only [eqFs] at hf
    split at hf
    · cases hf
    · rename_i hn
      have go : ∀ (k : Nat) (l : List (Nat × Nat)), ((k = 0 ∧ ∃ k, P.underlying f.type = some (.int k)) ∨ (k = 1 ∧ P.underlying f.type = some .bool) ∨ (k = 2 ∧ P.underlying f.type = some .string)) → eqFs P fs = some l → offs = (f.offset, k) :: l →
          (Op.eqFields (d + 1) cx cy (f :: fs)).run P w = .ok b w := by
        intro k l hk hl ho
        subst ho
        simp only [eqOffs] at he
        split at he
        · rename_i u v hu hv
          rw [Option.bind_eq_some_iff] at he
          obtain ⟨e, he1, he⟩ := he
          rw [Option.map_eq_some_iff] at he
          obtain ⟨t, ht, rfl⟩ := he
          obtain ⟨c1, h1, r1⟩ := hx.get hu
          obtain ⟨c2, h2, r2⟩ := hy.get hv
          have e1 := VR_lit r1
          have e2 := VR_lit r2
          subst e1 e2
          rw [Array.getElem?_toList] at h1 h2
          have hk' : (∃ k, P.underlying f.type = some (.int k)) ∨ P.underlying f.type = some .bool ∨ P.underlying f.type = some .string := hk.imp (fun h => h.2) (fun h => h.imp (fun h => h.2) (fun h => h.2))
          have ih := eqFields_run d hx hy fs l t hl ht
          simp only [Op.eqFields, if_pos hn, Sem.run_bind, run_part1 hk' h1, run_part1 hk' h2, Result.andThen_ok, eqSc_run he1 hk d]
          cases e <;> simp [hn, run_part1 hk' h1, run_part1 hk' h2, eqSc_run he1 hk d, ih]
        · cases he
      split at hf
      · rename_i k hk
        rw [Option.map_eq_some_iff] at hf
        obtain ⟨l, hl, e⟩ := hf
        exact go 0 l (.inl ⟨rfl, k, hk⟩) hl e.symm
      · rename_i hk
        rw [Option.map_eq_some_iff] at hf
        obtain ⟨l, hl, e⟩ := hf
        exact go 1 l (.inr (.inl ⟨rfl, hk⟩)) hl e.symm
      · rename_i hk
        rw [Option.map_eq_some_iff] at hf
        obtain ⟨l, hl, e⟩ := hf
        exact go 2 l (.inr (.inr ⟨rfl, hk⟩)) hl e.symm
      · cases hf
def MK.v (k : MK) : V := .lit k.val
theorem MK.flat (k : MK) : flat k.val = true := by cases k <;> rfl
theorem ck_val {n : Nat} {v : V} {k : MK} {c : Value} (h : ckOf n v = some k) (hv : VR E v c) : c = k.val ∧ k.kind = n := by
  unfold ckOf at h
  split at h
  · cases h; exact ⟨VR_lit hv, rfl⟩
  · cases h; exact ⟨VR_lit hv, rfl⟩
  · cases h; exact ⟨VR_lit hv, rfl⟩
  · cases h
theorem cks_val : ∀ {ks : List Nat} {vs : List V} {l : List MK} {cs : List Value}, cksOf ks vs = some l → VRs E vs cs → cs = l.map MK.val ∧ l.map MK.kind = ks
  | [], [], l, cs, h, hv => by
    simp only [cksOf, Option.some.injEq] at h
    subst h
    rw [VRs] at hv
    exact ⟨hv, rfl⟩
  | k :: ks, v :: vs, l, cs, h, hv => by
    simp only [cksOf, Option.bind_eq_some_iff, Option.map_eq_some_iff] at h
    obtain ⟨x, hx, r, hr, rfl⟩ := h
    rw [VRs] at hv
    obtain ⟨c, cs', rfl, h1, h2⟩ := hv
    obtain ⟨e1, e2⟩ := ck_val hx h1
    obtain ⟨e3, e4⟩ := cks_val hr h2
    exact ⟨by rw [e1, e3]; rfl, by rw [List.map_cons, e2, e4]⟩
  | [], _ :: _, l, cs, h, hv => by simp [cksOf] at h
  | _ :: _, [], l, cs, h, hv => by simp [cksOf] at h
theorem key_val {ks : List Nat} {v : V} {l : List MK} {c : Value} (h : keyOf ks v = some l) (hv : VR E v c) : c = mkVal l ∧ l.map MK.kind = ks := by
  unfold keyOf at h
  split at h
  · rw [Option.map_eq_some_iff] at h
    obtain ⟨x, hx, rfl⟩ := h
    obtain ⟨e1, e2⟩ := ck_val hx hv
    exact ⟨e1, by rw [List.map_cons, e2]; rfl⟩
  · rename_i hks
    split at h
    · rw [VR] at hv
      obtain ⟨a, rfl, ha⟩ := hv
      obtain ⟨e1, e2⟩ := cks_val h ha
      refine ⟨?_, e2⟩
      have : mkVal l = .agg (l.map MK.val).toArray := by
        unfold mkVal
        split
        · rename_i x
          exact absurd e2.symm (hks x.kind)
        · rfl
      rw [this]
      congr 1
      exact Array.ext' e1
    · cases h

/-- The keys' type. -/
def KeyTy (P : Program) (t : TypeId) (ks : List Nat) : Prop :=
  (ks = [0] ∧ P.underlying t = some (.int .i64)) ∨ (ks = [1] ∧ P.underlying t = some .bool) ∨ (ks = [2] ∧ P.underlying t = some .string) ∨
  (∃ fs offs, 2 ≤ ks.length ∧ P.underlying t = some (.struct fs) ∧ P.stoodInHeld t = false ∧ eqFs P fs.toList = some offs ∧ offs = (List.range ks.length).zip ks)

/-- Where a key stands. -/
def mfind : List (List MK × Int) → List MK → Nat → Option (Nat × Value)
  | [], _, _ => none
  | x :: r, k, i => if x.1 = k then some (i, .int .i64 x.2) else mfind r k (i + 1)
theorem mfind_mget : ∀ (es : List (List MK × Int)) (k : List MK) (i : Nat), (mfind es k i).map (·.2) = (mget es k).map (Value.int .i64)
  | [], _, _ => rfl
  | x :: r, k, i => by
    simp only [mfind, mget]
    split
    · rfl
    · exact mfind_mget r k (i + 1)
theorem one_kind {l : List MK} {k : Nat} (h : l.map MK.kind = [k]) : ∃ x, l = [x] ∧ x.kind = k := by
  cases l with
  | nil => simp at h
  | cons x r =>
    simp only [List.map_cons, List.cons.injEq, List.map_eq_nil_iff] at h
    exact ⟨x, by rw [h.2], h.1⟩
theorem mkVal_many {l : List MK} {ks : List Nat} (h : l.map MK.kind = ks) (h2 : 2 ≤ ks.length) : mkVal l = .agg (l.map MK.val).toArray := by
  unfold mkVal
  split
  · simp at h; subst h; simp at h2
  · rfl
theorem findNow_one {d : TypeDesc} {k : Nat} (hd : (k = 0 ∧ d = .int .i64) ∨ (k = 1 ∧ d = .bool) ∨ (k = 2 ∧ d = .string)) {x : MK} (hx : x.kind = k) : ∀ (es : List (List MK × Int)) (L : List MapEntry) (i : Nat),
    (L.map fun e => (e.key, e.val)) = (es.map fun x => (mkVal x.1, Value.int .i64 x.2)) → (∀ y ∈ es, y.1.map MK.kind = [k]) → Instr.findNow d (mkVal [x]) L i = some (mfind es [x] i)
  | [], L, i, h, _ => by
    have : L = [] := by simpa using h
    subst this; rfl
  | y :: es, [], i, h, _ => by simp at h
  | y :: es, e :: L, i, h, hk => by
    simp only [List.map_cons, List.cons.injEq, Prod.mk.injEq] at h
    obtain ⟨⟨h1, h2⟩, h3⟩ := h
    obtain ⟨z, hz, hzk⟩ := one_kind (hk y (List.mem_cons_self ..))
    have ih := findNow_one hd hx es L (i + 1) h3 fun y hy => hk y (List.mem_cons_of_mem _ hy)
    have hs : Instr.sameNow d (mkVal [x]) e.key = some (decide (y.1 = [x])) := by
      rw [h1, hz]
      rcases hd with ⟨rfl, rfl⟩ | ⟨rfl, rfl⟩ | ⟨rfl, rfl⟩
      · cases x <;> cases z <;> simp [MK.kind] at hx hzk
        rename_i a b
        simp only [mkVal, MK.val, Instr.sameNow]
        by_cases e : a = b
        · subst e; simp
        · have : ¬ b = a := fun h => e h.symm
          simp [e, this]
      · cases x <;> cases z <;> simp [MK.kind] at hx hzk
        rename_i a b
        simp only [mkVal, MK.val, Instr.sameNow]
        cases a <;> cases b <;> simp
      · cases x <;> cases z <;> simp [MK.kind] at hx hzk
        rename_i a b
        simp only [mkVal, MK.val, Instr.sameNow]
        by_cases e : a = b
        · subst e; simp [MapKept.bytes_beq]
        · have : ¬ b = a := fun h => e h.symm
          have h2 : ((⟨a.toArray⟩ : ByteArray) == ⟨b.toArray⟩) = false := by
            rw [Bool.eq_false_iff]
            intro h
            rw [MapKept.bytes_beq] at h
            exact e (by simpa using h)
          simp [h2, this]
    unfold Instr.findNow
    rw [hs, mfind]
    by_cases hy : y.1 = [x]
    · rw [decide_eq_true hy, if_pos hy]
      show some (some (i, e.val)) = _
      rw [h2]
    · rw [decide_eq_false hy, if_neg hy]
      exact ih
theorem eqSc_mk {a b : MK} (h : a.kind = b.kind) : eqSc a.kind a.val b.val = some (decide (a = b)) := by
  cases a <;> cases b <;> simp [MK.kind] at h <;> simp only [MK.kind, MK.val, eqSc, if_true]
  · rename_i x y
    by_cases e : x = y
    · subst e; simp
    · simp [e]
  · rename_i x y
    cases x <;> cases y <;> simp
  · rename_i x y
    have e1 : ∀ z : List UInt8, (⟨z.toArray⟩ : ByteArray).toList = z := fun z => by rw [ByteArray.toList_eq]
    rw [e1, e1]
    by_cases e : x = y
    · subst e; simp
    · simp [e]
theorem eqOffs_mk : ∀ (l l' : List MK) (p p' : List V) (i : Nat), p.length = i → p'.length = i → l.map MK.kind = l'.map MK.kind →
    eqOffs (p ++ l.map MK.v) (p' ++ l'.map MK.v) ((List.range' i l.length).zip (l.map MK.kind)) = some (decide (l = l'))
  | [], l', p, p', i, _, _, hk => by
    have : l' = [] := by simpa using hk.symm
    subst this
    simp [eqOffs]
  | a :: l, [], p, p', i, _, _, hk => by simp at hk
  | a :: l, b :: l', p, p', i, hp, hp', hk => by
    simp only [List.map_cons, List.cons.injEq] at hk
    have ih := eqOffs_mk l l' (p ++ [a.v]) (p' ++ [b.v]) (i + 1) (by simp [hp]) (by simp [hp']) hk.2
    rw [List.length_cons, List.range'_succ, List.map_cons, List.map_cons, List.map_cons, List.zip_cons_cons, eqOffs]
    have e1 : (p ++ a.v :: l.map MK.v)[i]? = some (.lit a.val) := by rw [List.getElem?_append_right (by omega), hp, Nat.sub_self]; rfl
    have e2 : (p' ++ b.v :: l'.map MK.v)[i]? = some (.lit b.val) := by rw [List.getElem?_append_right (by omega), hp', Nat.sub_self]; rfl
    rw [e1, e2]
    simp only
    rw [eqSc_mk hk.1, Option.bind_some]
    rw [List.append_assoc, List.append_assoc] at ih
    rw [show p ++ a.v :: l.map MK.v = p ++ ([a.v] ++ l.map MK.v) from rfl, show p' ++ b.v :: l'.map MK.v = p' ++ ([b.v] ++ l'.map MK.v) from rfl, ih]
    by_cases h1 : a = b
    · by_cases h2 : l = l' <;> simp [h1, h2]
    · simp [h1]
theorem VRs_mk (l : List MK) : VRs E (l.map MK.v) (l.map MK.val).toArray.toList := by
  show VRs E (l.map MK.v) (l.map MK.val)
  induction l with
  | nil => rw [List.map_nil, List.map_nil, VRs]
  | cons a l ih => rw [List.map_cons, List.map_cons, VRs]; exact ⟨_, _, rfl, VR_mk a.flat, ih⟩

theorem run_equal_mk {t : TypeId} {fs : Array Field} {ks : List Nat} (ht : P.underlying t = some (.struct fs)) (hs : P.stoodInHeld t = false) (hf : eqFs P fs.toList = some ((List.range ks.length).zip ks)) {l l' : List MK} (hl : l.map MK.kind = ks) (hl' : l'.map MK.kind = ks) :
    (Op.equal t (.agg (l.map MK.val).toArray) (.agg (l'.map MK.val).toArray)).run P w = .ok (decide (l = l')) w := by
  have hft : P.fieldsOf t = fs := by simp [Program.fieldsOf, ht]
  have hlen : l.length = ks.length := by rw [← hl, List.length_map]
  have h1 := eqOffs_mk l l' [] [] 0 rfl rfl (hl.trans hl'.symm)
  rw [List.nil_append, List.nil_append, ← List.range_eq_range', hlen, hl] at h1
  have hE : (⟨fun _ _ => none, fun _ => none, fun _ _ => none⟩ : Env) = ⟨fun _ _ => none, fun _ => none, fun _ _ => none⟩ := rfl
  have hrun := eqFields_run (P := P) (w := w) (E := ⟨fun _ _ => none, fun _ => none, fun _ _ => none⟩) 9998 (VRs_mk l) (VRs_mk l') fs.toList _ _ hf h1
  have := run_equalIn_struct (P := P) w 9999 t (l.map MK.val).toArray (l'.map MK.val).toArray (by rw [hft]; exact ht) hs
  rw [hft] at this
  exact this.trans hrun
theorem findAsking_mk {t : TypeId} {fs : Array Field} {ks : List Nat} (ht : P.underlying t = some (.struct fs)) (hs : P.stoodInHeld t = false) (hf : eqFs P fs.toList = some ((List.range ks.length).zip ks)) (h2 : 2 ≤ ks.length) {k : List MK} (hk : k.map MK.kind = ks) :
    ∀ (es : List (List MK × Int)) (L : List MapEntry) (i : Nat), (L.map fun e => (e.key, e.val)) = (es.map fun x => (mkVal x.1, Value.int .i64 x.2)) → (∀ y ∈ es, y.1.map MK.kind = ks) →
      (Instr.findAsking t (mkVal k) L i).run P w = .ok (mfind es k i) w
  | [], L, i, h, _ => by
    have : L = [] := by simpa using h
    subst this; rfl
  | y :: es, [], i, h, _ => by simp at h
  | y :: es, e :: L, i, h, hks => by
    simp only [List.map_cons, List.cons.injEq, Prod.mk.injEq] at h
    obtain ⟨⟨h1, h3⟩, h4⟩ := h
    have hy := hks y (List.mem_cons_self ..)
    have ih := findAsking_mk ht hs hf h2 hk es L (i + 1) h4 fun y hy => hks y (List.mem_cons_of_mem _ hy)
    unfold Instr.findAsking
    rw [h1, mkVal_many hk h2, mkVal_many hy h2]
    rw [mkVal_many hk h2] at ih
    simp only [Sem.run_bind, run_equal_mk ht hs hf hk hy, Result.andThen_ok, mfind]
    by_cases hky : k = y.1
    · rw [decide_eq_true hky, if_pos rfl, if_pos hky.symm, h3]; rfl
    · rw [decide_eq_false hky, if_neg (by simp), if_neg (fun e => hky e.symm)]; exact ih
theorem run_findKey_mk {t : TypeId} {ks : List Nat} (hT : KeyTy P t ks) {k : List MK} (hk : k.map MK.kind = ks) {es : List (List MK × Int)} {L : List MapEntry} (hL : (L.map fun e => (e.key, e.val)) = (es.map fun x => (mkVal x.1, Value.int .i64 x.2)))
    (hks : ∀ y ∈ es, y.1.map MK.kind = ks) : (Instr.findKey t (mkVal k) L).run P w = .ok (mfind es k 0) w := by
  have one : ∀ {n : Nat} {d : TypeDesc}, P.underlying t = some d → ((n = 0 ∧ d = .int .i64) ∨ (n = 1 ∧ d = .bool) ∨ (n = 2 ∧ d = .string)) → ks = [n] → (Instr.findKey t (mkVal k) L).run P w = .ok (mfind es k 0) w := by
    intro n d hd hn hkn
    subst hkn
    obtain ⟨x, rfl, hx⟩ := one_kind hk
    exact MapKept.run_findKey hd (findNow_one hn hx es L 0 hL hks)
  rcases hT with ⟨h1, h2⟩ | ⟨h1, h2⟩ | ⟨h1, h2⟩ | ⟨fs, offs, h1, h2, h3, h4, h5⟩
  · exact one h2 (.inl ⟨rfl, rfl⟩) h1
  · exact one h2 (.inr (.inl ⟨rfl, rfl⟩)) h1
  · exact one h2 (.inr (.inr ⟨rfl, rfl⟩)) h1
  · subst h5
    have hA := findAsking_mk (w := w) h2 h3 h4 h1 hk es L 0 hL hks
    unfold Instr.findKey
    simp only [Sem.run_bind, run_underlying h2, Result.andThen_ok]
    have hn : Instr.findNow (.struct fs) (mkVal k) L 0 = none ∨ (L = [] ∧ Instr.findNow (.struct fs) (mkVal k) L 0 = some none) := by
      cases L with
      | nil => exact .inr ⟨rfl, rfl⟩
      | cons e L => left; unfold Instr.findNow; rfl
    rcases hn with hn | ⟨rfl, hn⟩
    · rw [hn]; exact hA
    · rw [hn]
      have : es = [] := by simpa using hL.symm
      subst this; rfl
theorem run_checkKey_mk {t : TypeId} {ks : List Nat} (hT : KeyTy P t ks) {k : List MK} (hk : k.map MK.kind = ks) (em : Bool) : (Instr.checkKey em 10000 t (mkVal k)).run P w = .ok () w := by
  have one : ∀ {n : Nat} {d : TypeDesc}, P.underlying t = some d → ((n = 0 ∧ d = .int .i64) ∨ (n = 1 ∧ d = .bool) ∨ (n = 2 ∧ d = .string)) → ks = [n] → (Instr.checkKey em (9999 + 1) t (mkVal k)).run P w = .ok () w := by
    intro n d hd hn hkn
    subst hkn
    obtain ⟨x, rfl, hx⟩ := one_kind hk
    refine MapKept.run_checkKey hd ?_ em 9999
    rcases hn with ⟨rfl, rfl⟩ | ⟨rfl, rfl⟩ | ⟨rfl, rfl⟩ <;> cases x <;> simp [MK.kind] at hx <;> simp [mkVal, MK.val, MapKept.IsKey]
  rcases hT with ⟨h1, h2⟩ | ⟨h1, h2⟩ | ⟨h1, h2⟩ | ⟨fs, offs, h1, h2, h3, h4, h5⟩
  · exact one h2 (.inl ⟨rfl, rfl⟩) h1
  · exact one h2 (.inr (.inl ⟨rfl, rfl⟩)) h1
  · exact one h2 (.inr (.inr ⟨rfl, rfl⟩)) h1
  · subst h5
    rw [mkVal_many hk h1]
    show (Instr.checkKey em (9999 + 1) t _).run P w = _
    unfold Instr.checkKey
    simp only [Sem.run_bind, run_underlying h2, Result.andThen_ok]
    rw [← Array.forIn_toList]
    have hlen : k.length = ks.length := by rw [← hk, List.length_map]
    have each : ∀ (F : List Field) (i : Nat) (K : List Nat), eqFs P F = some ((List.range' i K.length).zip K) → i + K.length = ks.length → K = ks.drop i → ∀ f ∈ F, ∃ n v, (Instr.checkKey em 9999 f.type v).run P w = .ok () w ∧ f.name ≠ "_" ∧ (part f.type (k.map MK.val).toArray f.offset).run P w = .ok v w ∧ n = 0 := by
      intro F
      induction F with
      | nil => intro i K _ _ _ f hf; cases hf
      | cons g F ih =>
        intro i K hF hi hK f hf
        simp only [eqFs] at hF
        split at hF
        · cases hF
        · rename_i hn
          have step : ∀ (kd : Nat) (d : TypeDesc), P.underlying g.type = some d → ((kd = 0 ∧ ∃ q, d = .int q) ∨ (kd = 1 ∧ d = .bool) ∨ (kd = 2 ∧ d = .string)) → (eqFs P F).map ((g.offset, kd) :: ·) = some ((List.range' i K.length).zip K) → ∃ n v, (Instr.checkKey em 9999 f.type v).run P w = .ok () w ∧ f.name ≠ "_" ∧ (part f.type (k.map MK.val).toArray f.offset).run P w = .ok v w ∧ n = 0 := by
            intro kd d hd hkd he
            rw [Option.map_eq_some_iff] at he
            obtain ⟨r, hr, he⟩ := he
            cases K with
            | nil => simp at he
            | cons k0 K =>
              rw [List.length_cons, List.range'_succ, List.zip_cons_cons] at he
              simp only [List.cons.injEq, Prod.mk.injEq] at he
              obtain ⟨⟨he1, he2⟩, he3⟩ := he
              rw [List.length_cons] at hi
              have hlt : i < k.length := by omega
              rcases List.mem_cons.1 hf with rfl | hf
              · have hv : (k.map MK.val).toArray[f.offset]? = some (k[i]'hlt).val := by
                  rw [he1]; simp [List.getElem?_eq_getElem hlt]
                have hkk : (k[i]'hlt).kind = kd := by
                  have h6 : ks[i]? = some k0 := by
                    have := congrArg List.head? hK
                    rw [List.head?_drop] at this
                    exact this.symm
                  have h7 : ks[i]? = some (k[i]'hlt).kind := by rw [← hk, List.getElem?_map, List.getElem?_eq_getElem hlt]; rfl
                  rw [h6] at h7
                  have := Option.some.inj h7
                  omega
                refine ⟨0, (k[i]'hlt).val, ?_, hn, run_part1 ?_ hv, rfl⟩
                · show (Instr.checkKey em (9998 + 1) f.type _).run P w = _
                  generalize (k[i]'hlt) = x at hkk
                  unfold Instr.checkKey
                  simp only [Sem.run_bind, run_underlying hd, Result.andThen]
                  rcases hkd with ⟨rfl, q, rfl⟩ | ⟨rfl, rfl⟩ | ⟨rfl, rfl⟩ <;> cases x <;> simp [MK.kind] at hkk <;> simp [MK.val]
                · rcases hkd with ⟨_, q, rfl⟩ | ⟨_, rfl⟩ | ⟨_, rfl⟩
                  · exact .inl ⟨q, hd⟩
                  · exact .inr (.inl hd)
                  · exact .inr (.inr hd)
              · refine ih (i + 1) K (by rw [hr, he3]) (by omega) ?_ f hf
                have := congrArg List.tail hK
                rw [List.tail_cons, List.tail_drop] at this
                exact this
          split at hF
          · rename_i q hq; exact step 0 _ hq (.inl ⟨rfl, _, rfl⟩) hF
          · rename_i hq; exact step 1 _ hq (.inr (.inl ⟨rfl, rfl⟩)) hF
          · rename_i hq; exact step 2 _ hq (.inr (.inr ⟨rfl, rfl⟩)) hF
          · cases hF
    have each := each fs.toList 0 ks (by rw [← List.range_eq_range']; exact h4) (by omega) (by simp)
    generalize fs.toList = F at each
    induction F with
    | nil => simp
    | cons f F ih =>
      obtain ⟨n, v, p2, hn, p1, _⟩ := each f (by simp)
      simp only [List.forIn_cons, Sem.run_bind, hn, ne_eq, not_false_eq_true, if_true, Result.andThen_ok, p1, p2, Sem.run_pure]
      exact ih fun y hy => each y (by simp [hy])

/-- An entry is looked up. -/
theorem run_lookup_mk {t kt et : TypeId} {ks : List Nat} (ht : P.underlying t = some (.map kt et)) (hT : KeyTy P kt ks) (hz : (zeroValue et).run P w = .ok (.int .i64 0) w) {b : Nat} {es : List (List MK × Int)} {a : Array MapEntry} {clock : Nat} (hb : w.heap[b]? = some (.map a clock))
    (hL : (a.toList.map fun e => (e.key, e.val)) = (es.map fun x => (mkVal x.1, Value.int .i64 x.2))) (hks : ∀ y ∈ es, y.1.map MK.kind = ks) {k : List MK} (hk : k.map MK.kind = ks) (ok : Bool) :
    (Instr.lookup t (.map (some b)) (mkVal k) ok).run P w = .ok (if ok = true then .tuple #[.int .i64 ((mget es k).getD 0), .bool (mget es k).isSome] else .int .i64 ((mget es k).getD 0)) w := by
  have hf := run_findKey_mk (w := w) hT hk hL hks
  have hm := mfind_mget es k 0
  unfold Instr.lookup
  simp only [Sem.run_bind, run_underlying ht, Result.andThen_ok, MapKept.run_getObj_map hb, Sem.run_pure, run_checkKey_mk hT hk, hf]
  cases h : mfind es k 0 with
  | none =>
    rw [h] at hm
    cases h2 : mget es k with
    | some v => rw [h2] at hm; cases hm
    | none => cases ok <;> simp [Sem.run_bind, hz, Result.andThen_ok, Sem.run_pure]
  | some p =>
    obtain ⟨i, v⟩ := p
    rw [h] at hm
    cases h2 : mget es k with
    | none => rw [h2] at hm; cases hm
    | some n =>
      rw [h2] at hm
      have : v = .int .i64 n := by simpa using hm
      subst this
      cases ok <;> simp [Sem.run_pure, Sem.run_bind, Result.andThen_ok]

theorem mfind_spec (k : List MK) (n : Int) : ∀ (es : List (List MK × Int)) (j : Nat), (mfind es k j = none ∧ mset es k n = es ++ [(k, n)]) ∨ ∃ i v, mfind es k j = some (j + i, v) ∧ (∃ x, es[i]? = some x ∧ x.1 = k) ∧ mset es k n = es.set i (k, n)
  | [], j => .inl ⟨rfl, rfl⟩
  | x :: es, j => by
    by_cases h : x.1 = k
    · exact .inr ⟨0, .int .i64 x.2, by simp [mfind, h], ⟨x, rfl, h⟩, by simp [mset, h]⟩
    · rcases mfind_spec k n es (j + 1) with ⟨h1, h2⟩ | ⟨i, v, h1, h2, h3⟩
      · exact .inl ⟨by rw [mfind, if_neg h, h1], by rw [mset, if_neg h, h2]; rfl⟩
      · exact .inr ⟨i + 1, v, by rw [mfind, if_neg h, h1]; congr 2; omega, h2, by rw [mset, if_neg h, h3]; rfl⟩
theorem sameBits_mk (k : MK) (d : Nat) : Instr.sameBits d k.val k.val = true := by
  cases k <;> cases d <;> simp [MK.val, Instr.sameBits, MapKept.bytes_beq]
theorem keep_mk (k : List MK) : (Instr.keyThatStays (mkVal k) (mkVal k)).run P w = .ok (mkVal k) w := by
  have h : Instr.sameBits (9999 + 1) (mkVal k) (mkVal k) = true := by
    unfold mkVal
    split
    · exact sameBits_mk _ _
    · simp only [Instr.sameBits, beq_self_eq_true, Bool.true_and, List.all_eq_true]
      rintro ⟨x, y⟩ hxy
      have : x = y := by
        rw [List.mem_iff_getElem?] at hxy
        obtain ⟨q, hq⟩ := hxy
        rw [List.getElem?_zip_eq_some] at hq
        obtain ⟨h1, h2⟩ := hq
        rw [h1] at h2
        exact Option.some.inj h2
      subst this
      have hx := (List.of_mem_zip hxy).1
      simp only [List.mem_map] at hx
      obtain ⟨z, _, rfl⟩ := hx
      exact sameBits_mk z _
  unfold Instr.keyThatStays
  rw [if_pos h]; rfl
/-- An entry is written. -/
theorem run_mput_mk {t kt et : TypeId} {ks : List Nat} (ht : P.underlying t = some (.map kt et)) (hT : KeyTy P kt ks) {b : Nat} {es : List (List MK × Int)} {a : Array MapEntry} {clock : Nat} (hb : w.heap[b]? = some (.map a clock))
    (hL : (a.toList.map fun e => (e.key, e.val)) = (es.map fun x => (mkVal x.1, Value.int .i64 x.2))) (hks : ∀ y ∈ es, y.1.map MK.kind = ks) {k : List MK} (hk : k.map MK.kind = ks) (n : Int) :
    ∃ a' clock', (Instr.mapUpdate t (.map (some b)) (mkVal k) (.int .i64 n)).run P w = .ok () (w.putObj b (.map a' clock')) ∧ (a'.toList.map fun e => (e.key, e.val)) = ((mset es k n).map fun x => (mkVal x.1, Value.int .i64 x.2)) := by
  have hf := run_findKey_mk (w := w) hT hk hL hks
  unfold Instr.mapUpdate
  simp only [Sem.run_bind, run_underlying ht, Result.andThen_ok, MapKept.run_getObj_map hb, Sem.run_pure, run_checkKey_mk hT hk, hf]
  rcases mfind_spec k n es 0 with ⟨h1, h2⟩ | ⟨i, v, h1, ⟨x, hx, hxk⟩, h3⟩
  · rw [h1, h2]
    exact ⟨_, _, MapKept.run_setObj_map _ hb, by simp [hL]⟩
  · rw [h1, h3]
    rw [Nat.zero_add]
    have hi := congrArg (·[i]?) hL
    simp only [List.getElem?_map, hx, Option.map_some, Array.getElem?_toList] at hi
    rw [Option.map_eq_some_iff] at hi
    obtain ⟨e, he, hee⟩ := hi
    have hek : e.key = mkVal k := by rw [← hxk]; exact congrArg Prod.fst hee
    simp only [he, Option.map_some, Option.getD_some, hek, Sem.run_bind, keep_mk, Result.andThen_ok]
    refine ⟨_, _, MapKept.run_setObj_map _ hb, ?_⟩
    apply List.ext_getElem?
    intro q
    have hq := congrArg (·[q]?) hL
    simp only [List.getElem?_map, Array.getElem?_toList] at hq
    simp only [List.getElem?_map, Array.getElem?_toList, Array.getElem?_modify, List.getElem?_set]
    by_cases hiq : i = q
    · subst hiq
      have hlt := (List.getElem?_eq_some_iff.1 hx).1
      simp [he, hlt]
    · simp only [hiq, if_false]
      exact hq
end
end Go.Proofs.YtdefefeifcdogaaGreat
