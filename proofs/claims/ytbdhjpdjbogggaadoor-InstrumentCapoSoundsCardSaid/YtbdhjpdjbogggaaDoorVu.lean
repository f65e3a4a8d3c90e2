/- What a function returns may be its own boxes: nobody writes them any more. Nothing is proved of the program here. -/
import Derived.Test.YtbdhjpdjbogggaaDoorVt
set_option linter.unusedSimpArgs false
set_option linter.unusedVariables false
namespace Go.Proofs.YtbdhjpdjbogggaaDoor
open Go.RowKit

mutual
/-- As others may see it: boxes of the call's own, from number n0 on, stand for good. -/
def V.pubM (n0 : Nat) (m : Mm) : V → Option V
  | .lit v => some (.lit v)
  | .agg cs => (V.pubsM n0 m cs).map .agg
  | .tup cs => (V.pubsM n0 m cs).map .tup
  | .sl n xs _ => some (.sl n xs .no)
  | .ptr _ _ => none
  | .bsl i off n _ => match m.obj i with
    | some (.box cs _) => if n0 ≤ i ∧ V.clean cs = true then some (.sl n (cs.drop off) .no) else none
    | _ => none
  | .ept xs o => some (.ept xs o)
  | .fn f cs => (V.pubsM n0 m cs).map (.fn f)
def V.pubsM (n0 : Nat) (m : Mm) : List V → Option (List V)
  | [] => some []
  | v :: l => (V.pubM n0 m v).bind fun u => (V.pubsM n0 m l).map fun us => u :: us
end

section
variable {E E' : Env} {n0 : Nat} {m : Mm}
/-- What E' must know of the boxes. -/
def Shown (E E' : Env) (n0 : Nat) (m : Mm) : Prop := (∀ b o v, E.M b o = some v → E'.M b o = some v) ∧ ∀ i cs t b, n0 ≤ i → m.obj i = some (.box cs t) → V.clean cs = true → E.φ i = some b → At E' b 0 cs
mutual
theorem VR.pubM (hs : Shown E E' n0 m) : ∀ {v u : V} {c : Value}, v.pubM n0 m = some u → VR E v c → VR E' u c ∧ u.pure = true
  | .lit _, _, _, hp, h => by rw [V.pubM] at hp; cases hp; rw [VR] at h ⊢; exact ⟨h, by rw [V.pure]⟩
  | .agg _, _, _, hp, h => by
    rw [V.pubM, Option.map_eq_some_iff] at hp
    obtain ⟨us, hus, rfl⟩ := hp
    rw [VR] at h; obtain ⟨a, e, h1⟩ := h
    have h2 := VRs.pubM hs hus h1
    exact ⟨by rw [VR]; exact ⟨a, e, h2.1⟩, by rw [V.pure]; exact h2.2⟩
  | .tup _, _, _, hp, h => by
    rw [V.pubM, Option.map_eq_some_iff] at hp
    obtain ⟨us, hus, rfl⟩ := hp
    rw [VR] at h; obtain ⟨a, e, h1⟩ := h
    have h2 := VRs.pubM hs hus h1
    exact ⟨by rw [VR]; exact ⟨a, e, h2.1⟩, by rw [V.pure]; exact h2.2⟩
  | .sl n xs k, _, c, hp, h => by
    rw [V.pubM] at hp; cases hp
    rw [VR] at h
    obtain ⟨A, cap, e, hn, _, hx⟩ := h
    have h1 : VR E (.sl n xs .no) c := by rw [VR]; exact ⟨A, cap, e, hn, trivial, hx⟩
    have hp : V.pure (.sl n xs .no) = true := by rw [V.pure]; intro t h; cases h
    exact ⟨VR.pureM hs.1 hp h1, hp⟩
  | .ptr _ _, _, _, hp, _ => by rw [V.pubM] at hp; cases hp
  | .bsl i off n cap, _, _, hp, h => by
    rw [V.pubM] at hp
    rw [VR] at h
    obtain ⟨b, hφ, cap', e, hn, hc⟩ := h
    split at hp
    · rename_i cs t ho
      split at hp
      · rename_i hh
        cases hp
        obtain ⟨hi, hcl⟩ := hh
        refine ⟨?_, by rw [V.pure]; intro t h; cases h⟩
        rw [VR]
        have hat := (hs.2 i cs t b hi ho hcl hφ).drop off cs.length
        have hcd := clean_slice hcl off cs.length
        rw [Nat.zero_add, List.take_of_length_le (by rw [List.length_drop]; omega)] at hat
        rw [List.take_of_length_le (by rw [List.length_drop]; omega)] at hcd
        exact ⟨_, cap', e, Nat.le_trans hn hc, trivial, hcd, .inr ⟨b, off, rfl, hat⟩⟩
      · cases hp
    · cases hp
  | .ept xs o, _, _, hp, h => by
    rw [V.pubM] at hp; cases hp
    have hp : V.pure (.ept xs o) = true := by rw [V.pure]
    exact ⟨VR.pureM hs.1 hp h, hp⟩
  | .fn _ _, _, _, hp, h => by
    rw [V.pubM, Option.map_eq_some_iff] at hp
    obtain ⟨us, hus, rfl⟩ := hp
    rw [VR] at h; obtain ⟨a, e, h1⟩ := h
    have h2 := VRs.pubM hs hus h1
    exact ⟨by rw [VR]; exact ⟨a, e, h2.1⟩, by rw [V.pure]; exact h2.2⟩
theorem VRs.pubM (hs : Shown E E' n0 m) : ∀ {v u : List V} {c : List Value}, V.pubsM n0 m v = some u → VRs E v c → VRs E' u c ∧ V.pures u = true
  | [], _, _, hp, h => by rw [V.pubsM] at hp; cases hp; rw [VRs] at h ⊢; exact ⟨h, by rw [V.pures]⟩
  | v :: l, _, _, hp, h => by
    rw [V.pubsM, Option.bind_eq_some_iff] at hp
    obtain ⟨u, hu, hp⟩ := hp
    rw [Option.map_eq_some_iff] at hp
    obtain ⟨us, hus, rfl⟩ := hp
    rw [VRs] at h
    obtain ⟨c, cs, e, h1, h2⟩ := h
    have h3 := VR.pubM hs hu h1
    have h4 := VRs.pubM hs hus h2
    exact ⟨by rw [VRs]; exact ⟨c, cs, e, h3.1, h4.1⟩, by rw [V.pures, h3.2, h4.2]; rfl⟩
end
end

/-- Boxes of the call's own are shown, or forgotten. -/
theorem SFn.dropM {P : Program} {G : Ground} {f : FuncId} {args : List V} {m : Mm} {Q : V → Prop}
    (h : SFn P G f args m fun r' m' => ∃ r, r'.pubM m.next m' = some r ∧ Q r ∧ ∀ i, i < m.next → m'.obj i = m.obj i) : SFn P G f args m fun r' m' => Q r' ∧ m' = m := by
  intro E w cargs hG hm hv
  refine (h E w cargs hG hm hv).mono ?_
  rintro e w' ⟨v, r', m', E', he, ⟨r, hr, hQ, ho⟩, hs, hm', hvr⟩
  have lt : ∀ i o, m.obj i = some o → i < m.next := fun i o hi => by
    rcases Nat.lt_or_ge i m.next with h1 | h1
    · exact h1
    · rw [(hm.fresh i h1).2.2] at hi; cases hi
  -- the blocks that are shown
  let S : Nat → Nat → Prop := fun b o => ∃ i cs t, m.next ≤ i ∧ m'.obj i = some (.box cs t) ∧ V.clean cs = true ∧ E'.φ i = some b ∧ o < cs.length
  haveI hdec : ∀ b o, Decidable (S b o) := fun _ _ => Classical.propDecidable _
  let M2 : Nat → Nat → Option Value := fun b o => if S b o then w'.cell? ⟨b, o, none⟩ else E'.M b o
  let E2 : Env := ⟨M2, (E'.restr m.next).φ, (E'.restr m.next).loc⟩
  have hM2 : ∀ b o v, E'.M b o = some v → M2 b o = some v := fun b o v hM => by
    show (if S b o then _ else _) = _
    rw [if_neg]
    · exact hM
    · rintro ⟨i, cs, t, _, hi, _, hφ, _⟩
      obtain ⟨b', c, hφ', _, _, hn⟩ := hm'.box i cs t hi
      rw [hφ] at hφ'; cases hφ'
      rw [hn o] at hM; cases hM
  have hM2n : ∀ b o, (∀ i cs t, m.next ≤ i → m'.obj i = some (.box cs t) → E'.φ i ≠ some b) → M2 b o = E'.M b o := fun b o hb => by
    show (if S b o then _ else _) = _
    rw [if_neg]
    rintro ⟨i, cs, t, hi, hoi, _, hφ, _⟩
    exact hb i cs t hi hoi hφ
  have hre : ∀ {i : Nat}, i < m.next → E2.φ i = E'.φ i := fun hi => if_pos hi
  have hrl : ∀ {i : Nat}, i < m.next → ∀ k, E2.loc i k = E'.loc i k := fun hi k => if_pos hi
  have hB : ∀ i b, BlkOf E2 m i b → BlkOf E' m' i b := by
    rintro i b (⟨cs, t, h1, h2⟩ | ⟨n, e, size, cap, h1, h2, h3⟩)
    · have hi := lt i _ h1
      exact .inl ⟨cs, t, (ho i hi).trans h1, (hre hi).symm.trans h2⟩
    · have hi := lt i _ h1
      exact .inr ⟨n, e, size, cap, (ho i hi).trans h1, (hrl hi n).symm.trans h2, h3⟩
  have hshow : Shown E' E2 m.next m' := by
    refine ⟨hM2, fun i cs t b hi hoi hcl hφ => ?_⟩
    obtain ⟨b', c, hφ', hh, hvr', _⟩ := hm'.box i cs t hoi
    rw [hφ] at hφ'; cases hφ'
    refine At.of_get fun j u hu => ?_
    obtain ⟨x, hx, hxr⟩ := hvr'.get hu
    have hjl : j < cs.length := (List.getElem?_eq_some_iff.1 hu).1
    rw [List.getElem?_take, if_pos hjl, Array.getElem?_toList] at hx
    refine ⟨x, ?_, VR.pureM hM2 (pures_get (clean_pures hcl) hu) hxr⟩
    rw [Nat.zero_add]
    show (if S b j then _ else _) = _
    rw [if_pos ⟨i, cs, t, hi, hoi, hcl, hφ, hjl⟩, cell_of_row w' b j c t (0, 0) hh]
    exact hx
  have hp := VR.pubM hshow hr hvr
  refine ⟨v, r, m, E2, he, ⟨hQ, rfl⟩, ⟨⟨fun b o x hx => hM2 b o x (hs.le.M b o x hx), ?_, ?_⟩, Nat.le_refl _, ?_, ?_, hs.os, hs.tape, hs.output, hs.size, hs.kept, fun i b hi hb => hs.blk i b (hB i b hi) hb⟩, ⟨?_, ?_, ?_, ?_, ?_⟩, hp.1⟩
  · intro i b hb
    have hi : i < m.next := by
      rcases Nat.lt_or_ge i m.next with h1 | h1
      · exact h1
      · rw [(hm.fresh i h1).1] at hb; cases hb
    rw [hre hi]; exact hs.le.φ i b hb
  · intro i n x hx
    have hi : i < m.next := by
      rcases Nat.lt_or_ge i m.next with h1 | h1
      · exact h1
      · rw [(hm.fresh i h1).2.1 n] at hx; cases hx
    rw [hrl hi]; exact hs.le.loc i n x hx
  · intro i hi _; rw [hre hi]; exact hs.oldφ i hi (fun h => h)
  · intro i hi _ hoi
    exact ⟨fun n => by rw [hrl hi]; exact (hs.oldloc i hi (fun h => h) hoi).1 n, hoi⟩
  · intro b o x hx
    change (if S b o then _ else _) = _ at hx
    by_cases hS : S b o
    · rw [if_pos hS] at hx; exact hx
    · rw [if_neg hS] at hx; exact hm'.stable b o x hx
  · intro i hi
    exact ⟨if_neg (Nat.not_lt.2 hi), fun n => if_neg (Nat.not_lt.2 hi), (hm.fresh i hi).2.2⟩
  · intro i cs t hi
    have hlt := lt i _ hi
    obtain ⟨b, c, h1, h2, h3, h4⟩ := hm'.box i cs t ((ho i hlt).trans hi)
    obtain ⟨b0, c0, _, _, h5, _⟩ := hm.box i cs t hi
    have hsc := VRs.scoped (fun j hj => (hm.fresh j hj).1) (fun j hj => (hm.fresh j hj).2.1) h5
    have h6 := VRs.restr hsc h3
    refine ⟨b, c, (hre hlt).trans h1, h2, VRs.mono (E := E'.restr m.next) (E' := E2) ⟨hM2, fun _ _ x => x, fun _ _ _ x => x⟩ h6, fun o => (hM2n b o fun j cs' t' hj hoj hφ => ?_).trans (h4 o)⟩
    have := hm'.inj i j b (.inl ⟨cs, t, (ho i hlt).trans hi, h1⟩) (.inl ⟨cs', t', hoj, hφ⟩)
    omega
  · intro i n e size hi
    have hlt := lt i _ hi
    obtain ⟨A, cap, h1, h2, h3, h4⟩ := hm'.row i n e size ((ho i hlt).trans hi)
    refine ⟨A, cap, (hrl hlt n).trans h1, fun k hk => (hrl hlt k).trans (h2 k hk), h3, fun hn => ?_⟩
    obtain ⟨b, c, h5, h6, h7, h8⟩ := h4 hn
    refine ⟨b, c, h5, h6, h7, fun o hoo => (hM2n b o fun j cs' t' hj hoj hφ => ?_).trans (h8 o hoo)⟩
    subst h5
    have := hm'.inj i j b (.inr ⟨n, e, size, cap, (ho i hlt).trans hi, h1, hn⟩) (.inl ⟨cs', t', hoj, hφ⟩)
    omega
  · exact fun i j b hi hj => hm'.inj i j b (hB i b hi) (hB j b hj)

/-- What a function comes to that only computes, its boxes shown. -/
def FinM (m : Mm) (rs : List VRes) (r : V) (e : VX) (s' : St) : Prop := (e = .nrm ∨ e = .ret) ∧ ∃ r', resV s' rs = some r' ∧ r'.pubM m.next s'.m = some r ∧ ∀ i, i < m.next → s'.m.obj i = m.obj i
theorem finM_ret {m : Mm} {rs : List VRes} {r r' : V} {s' : St} (h1 : resV s' rs = some r') (h2 : r'.pubM m.next s'.m = some r) (h3 : ∀ i, i < m.next → s'.m.obj i = m.obj i) : FinM m rs r .ret s' := ⟨.inr rfl, r', h1, h2, h3⟩
theorem Fn.of_vxM {P : Program} {bx : Nat → Bool} {G : Ground} {f : FuncId} {nt : Nat} {c : VC} {rs : List VRes} (hc : Comp P bx G.tab f nt c rs) {args : List V} {r : V} (hn : args.length ≤ nt)
    (h : ∀ m, c.vx P G (FinM m rs r) ⟨initT args, m⟩) : Fn P G f args r :=
  fun m => SFn.dropM (Q := fun r' => r' = r) (SFn.mono (SFn.of_vx hc hn (Post := fun r' m' => r'.pubM m.next m' = some r ∧ ∀ i, i < m.next → m'.obj i = m.obj i) (h m)) fun r' m' ⟨h1, h2⟩ => ⟨r, h1, rfl, h2⟩)
/-- A function with memory: what it comes to. -/
def FinS (rs : List VRes) (Post : V → Mm → Prop) (e : VX) (s' : St) : Prop := (e = .nrm ∨ e = .ret) ∧ ∃ r, resV s' rs = some r ∧ Post r s'.m
theorem finS_ret {rs : List VRes} {Post : V → Mm → Prop} {r : V} {s' : St} (h1 : resV s' rs = some r) (h2 : Post r s'.m) : FinS rs Post .ret s' := ⟨.inr rfl, r, h1, h2⟩
theorem SFn.of_vxS {P : Program} {bx : Nat → Bool} {G : Ground} {f : FuncId} {nt : Nat} {c : VC} {rs : List VRes} (hc : Comp P bx G.tab f nt c rs) {args : List V} {m : Mm} {Post : V → Mm → Prop} (hn : args.length ≤ nt)
    (h : c.vx P G (FinS rs Post) ⟨initT args, m⟩) : SFn P G f args m Post := SFn.of_vx hc hn h
end Go.Proofs.YtbdhjpdjbogggaaDoor
