/- Values by numbers: every operation is as the numbers say. Nothing is proved of the program here. -/
import Derived.Test.YtdefefeifcdogaaGreatVq
import Derived.Laws.StructEq
import Derived.Laws.Shifts
import Derived.Laws.IdiomCopy
/-! The operations that do not look at memory, one by one. Nothing is proved of the program here. -/
set_option linter.unusedSimpArgs false
set_option linter.unusedVariables false
namespace Go.Proofs.YtdefefeifcdogaaGreat
open Go.RowKit

section
variable {P : Program} {E : Env} {m : Mm} {w : World} {o : Oper} {a : Act} {id : Nat} {K : V → Mm → Prop} {vo : VO} {args : List Operand} {vals : List V} {r : V}

theorem VRs_l0 {vs : List V} (h : VRs E vs []) : vs = [] := List.eq_nil_of_length_eq_zero (by have := h.length; simpa using this.symm)
theorem VRs_l1 {vs : List V} {c : Value} (h : VRs E vs [c]) : ∃ v, vs = [v] ∧ VR E v c := by
  cases vs with
  | nil => rw [VRs] at h; cases h
  | cons v l => rw [VRs] at h; obtain ⟨c', cs, e, h1, h2⟩ := h; cases e; exact ⟨v, by rw [VRs_l0 h2], h1⟩
theorem VRs_l2 {vs : List V} {c d : Value} (h : VRs E vs [c, d]) : ∃ v u, vs = [v, u] ∧ VR E v c ∧ VR E u d := by
  cases vs with
  | nil => rw [VRs] at h; cases h
  | cons v l => rw [VRs] at h; obtain ⟨c', cs, e, h1, h2⟩ := h; cases e; obtain ⟨u, rfl, h3⟩ := VRs_l1 h2; exact ⟨v, u, rfl, h1, h3⟩
theorem VRs_l3 {vs : List V} {c d f : Value} (h : VRs E vs [c, d, f]) : ∃ v u x, vs = [v, u, x] ∧ VR E v c ∧ VR E u d ∧ VR E x f := by
  cases vs with
  | nil => rw [VRs] at h; cases h
  | cons v l => rw [VRs] at h; obtain ⟨c', cs, e, h1, h2⟩ := h; cases e; obtain ⟨u, x, rfl, h3⟩ := VRs_l2 h2; exact ⟨v, u, x, rfl, h1, h3⟩

theorem run_part {t : TypeId} {s : Nat} {d : TypeDesc} (hd : P.underlying t = some d) (hs : szOf P t = some s) (cs : Array Value) (off : Nat) :
    (part t cs off).run P w = if isAggB P t = true then .ok (.agg (cs.extract off (off + s))) w else match cs[off]? with | some v => .ok v w | none => .halt (.stuck "part: no such cell") w := by
  obtain ⟨i, hi, rfl⟩ := szOf_ok hs
  unfold part isAgg isAggB
  rw [hd]
  cases d <;> simp [run_underlying hd, sizeOf, typeInfo, hi] <;> (cases cs[off]? <;> rfl)

theorem p_mv (hm : MemR E m w) {x : Operand} (hrun : (execOp a.eval o).run P w = .ok (.value (a.eval x)) w) (hV : VRs E vals [a.eval x]) (hr : pureSem .mv vals = some r) (hK : K r m) : OpOut P o a w (OpR E m w id K) := by
  obtain ⟨v, rfl, h⟩ := VRs_l1 hV
  simp only [pureSem, Option.some.injEq] at hr
  subst hr
  exact pure_out hm hrun h hK

theorem p_pick (hm : MemR E m w) {c x y : Operand} (hop : o.op = .pick c x y) (hV : VRs E vals [a.eval c, a.eval x, a.eval y]) (hr : pureSem .pick vals = some r) (hK : K r m) : OpOut P o a w (OpR E m w id K) := by
  obtain ⟨v, u, z, rfl, h1, h2, h3⟩ := VRs_l3 hV
  simp only [pureSem] at hr
  split at hr
  · rename_i t p q e
    cases e
    cases hr
    have e1 := VR_lit h1
    refine pure_out hm (v := if t = true then a.eval x else a.eval y) ?_ ?_ hK
    · simp only [execOp, hop, e1, asBool]; rfl
    · cases t
      · exact h3
      · exact h2
  · cases hr

theorem p_nilck (hm : MemR E m w) {x : Operand} (hop : o.op = .nilCheck x) (hV : VRs E vals [a.eval x]) (hr : pureSem .nilck vals = some r) (hK : K r m) : OpOut P o a w (OpR E m w id K) := by
  obtain ⟨v, rfl, h⟩ := VRs_l1 hV
  simp only [pureSem] at hr
  split at hr
  · rename_i e; cases e; cases hr
    have h0 := h
    rw [VR] at h
    obtain ⟨b, _, e1⟩ := h
    exact pure_out hm (v := a.eval x) (by simp [execOp, hop, e1]) h0 hK
  · rename_i e; cases e; cases hr
    have h0 := h
    rw [VR] at h
    obtain ⟨b, o', e1, _⟩ := h
    exact pure_out hm (v := a.eval x) (by simp [execOp, hop, e1]) h0 hK
  · rename_i e; cases e; cases hr
    have h0 := h
    rw [VR] at h
    obtain ⟨b, e1, _⟩ := h
    exact pure_out hm (v := a.eval x) (by simp [execOp, hop, e1]) h0 hK
  · cases hr

theorem p_fld (hm : MemR E m w) {t : TypeId} {x : Operand} {i : Nat} (hop : o.op = .field t x i) {fields : Array Field} {f : Field} {s : Nat} {d : TypeDesc} (ht : P.underlying t = some (.struct fields)) (hf : fields[i]? = some f)
    (hs : szOf P f.type = some s) (hd : P.underlying f.type = some d) (hV : VRs E vals [a.eval x]) (hr : pureSem (.fld f.offset s (isAggB P f.type)) vals = some r) (hK : K r m) : OpOut P o a w (OpR E m w id K) := by
  obtain ⟨v, rfl, h⟩ := VRs_l1 hV
  simp only [pureSem] at hr
  split at hr
  · rename_i cs e; cases e
    rw [VR] at h
    obtain ⟨c, e1, h1⟩ := h
    have hrun : ∀ v, (part f.type c f.offset).run P w = .ok v w → (execOp a.eval o).run P w = .ok (.value v) w := fun v hv => by
      simp [execOp, hop, Instr.field, run_underlying ht, hf, e1, asAgg, hv]
    have hp := run_part (w := w) hd hs c f.offset
    split at hr
    · rename_i hb
      rw [if_pos hb] at hp
      split at hr
      · rename_i hl
        cases hr
        refine pure_out hm (hrun _ hp) ?_ hK
        rw [VR]
        refine ⟨_, rfl, ?_⟩
        have := h1.slice f.offset s
        rwa [Array.toList_extract, List.extract_eq_take_drop, Nat.add_sub_cancel_left]
      · cases hr
    · rename_i hb
      rw [if_neg hb] at hp
      obtain ⟨u, hu, hr'⟩ := h1.get hr
      rw [Array.getElem?_toList] at hu
      rw [hu] at hp
      exact pure_out hm (hrun _ hp) hr' hK
  · cases hr

theorem p_fldA (hm : MemR E m w) {t : TypeId} {x : Operand} {i : Nat} (hop : o.op = .fieldAddr t x i) {fields : Array Field} {f : Field} {s : Nat} (ht : P.underlying t = some (.struct fields)) (hf : fields[i]? = some f)
    (hs : szOf P f.type = some s) (h0 : s ≠ 0) (hV : VRs E vals [a.eval x]) (hr : pureSem (.fldA f.offset) vals = some r) (hK : K r m) : OpOut P o a w (OpR E m w id K) := by
  obtain ⟨v, rfl, h⟩ := VRs_l1 hV
  obtain ⟨j, hj, rfl⟩ := szOf_ok hs
  have hrun : ∀ b off, a.eval x = .pointer (some ⟨b, off, none⟩) → (execOp a.eval o).run P w = .ok (.value (.pointer (some ⟨b, off + f.offset, none⟩))) w := fun b off e => by
    simp [execOp, hop, Instr.fieldAt, run_underlying ht, hf, e, Instr.sureAddr, fieldPlace, sizeOf, typeInfo, hj, h0, Addr.add_lit]
  simp only [pureSem] at hr
  split at hr
  · rename_i e; cases e; cases hr
    rw [VR] at h
    obtain ⟨b, h1, e1⟩ := h
    exact pure_out hm (hrun _ _ e1) (by rw [VR]; exact ⟨b, h1, rfl⟩) hK
  · rename_i e; cases e; cases hr
    rw [VR] at h
    obtain ⟨b, o', e1, h1⟩ := h
    exact pure_out hm (hrun _ _ e1) (by rw [VR]; exact ⟨b, o', by rw [Nat.add_assoc], h1⟩) hK
  · cases hr

theorem p_ixA (hm : MemR E m w) {t : TypeId} {x i : Operand} (hop : o.op = .indexAddr t x i) {e : TypeId} {s : Nat} (ht : P.underlying t = some (.slice e)) (hs : szOf P e = some s)
    (hV : VRs E vals [a.eval x, a.eval i]) (hr : pureSem (.ixA s) vals = some r) (hK : K r m) : OpOut P o a w (OpR E m w id K) := by
  obtain ⟨v, u, rfl, h, h'⟩ := VRs_l2 hV
  obtain ⟨j, hj, rfl⟩ := szOf_ok hs
  have hrun : ∀ b off n cap k (q : Int), a.eval x = .slice (some ⟨b, off, none⟩) n cap → a.eval i = .int k q → 0 ≤ q ∧ q < n →
      (execOp a.eval o).run P w = .ok (.value (.pointer (some ⟨b, off + q.toNat * j.size, none⟩))) w := fun b off n cap k q e1 e2 hq => by
    simp [execOp, hop, Instr.indexAt, run_underlying ht, e1, e2, asIntOf, hq.1, hq.2, sizeOf, typeInfo, hj, Addr.add_lit]
  simp only [pureSem] at hr
  split at hr
  · rename_i n xs k k' q e0; cases e0
    split at hr
    · rename_i hq
      cases hr
      have e2 := VR_lit h'
      obtain ⟨A, cap, cs, e1, _, _, hp, _, hx⟩ := sl_cells hm h hq.2.2.1 hq.2.2.2
      rcases hx with ⟨h0, _⟩ | ⟨b, off, rfl, hat, _⟩
      · have := hq.1; have := hq.2.1; omega
      · exact pure_out hm (hrun b off n cap k' q e1 e2 ⟨hq.1, hq.2.1⟩) (by rw [VR]; exact ⟨b, off, rfl, hp, hat⟩) hK
    · cases hr
  · rename_i b off n cap k' q e0; cases e0
    split at hr
    · rename_i hq
      cases hr
      have e2 := VR_lit h'
      rw [VR] at h
      obtain ⟨b', h1, cap', e1, _⟩ := h
      exact pure_out hm (hrun b' off n cap' k' q e1 e2 hq) (by rw [VR]; exact ⟨b', h1, rfl⟩) hK
    · cases hr
  · rename_i b n s' k' q e0; cases e0
    split at hr
    · rename_i hq
      cases hr
      have e2 := VR_lit h'
      rw [VR] at h
      obtain ⟨b', h1, cap', e1, _⟩ := h
      have h3 := hrun b' 0 n cap' k' q e1 e2 hq
      rw [Nat.zero_add] at h3
      exact pure_out hm h3 (by rw [VR]; exact ⟨b', h1, rfl⟩) hK
    · cases hr
  · cases hr

theorem p_ixAA (hm : MemR E m w) {t : TypeId} {x i : Operand} (hop : o.op = .indexAddr t x i) {e : TypeId} {len s : Nat} (ht : P.underlying t = some (.array len e)) (hs : szOf P e = some s)
    (hV : VRs E vals [a.eval x, a.eval i]) (hr : pureSem (.ixAA len s) vals = some r) (hK : K r m) : OpOut P o a w (OpR E m w id K) := by
  obtain ⟨v, u, rfl, h, h'⟩ := VRs_l2 hV
  obtain ⟨j, hj, rfl⟩ := szOf_ok hs
  have hrun : ∀ b off k (q : Int), a.eval x = .pointer (some ⟨b, off, none⟩) → a.eval i = .int k q → 0 ≤ q ∧ q < len →
      (execOp a.eval o).run P w = .ok (.value (.pointer (some ⟨b, off + q.toNat * j.size, none⟩))) w := fun b off k q e1 e2 hq => by
    simp [execOp, hop, Instr.indexAt, run_underlying ht, e1, e2, asIntOf, hq.1, hq.2, sizeOf, typeInfo, hj, Addr.add_lit, Instr.sureAddr]
  simp only [pureSem] at hr
  split at hr
  · rename_i b off k' q e0; cases e0
    split at hr
    · rename_i hq
      cases hr
      have e2 := VR_lit h'
      rw [VR] at h
      obtain ⟨b', h1, e1⟩ := h
      exact pure_out hm (hrun b' off k' q e1 e2 hq) (by rw [VR]; exact ⟨b', h1, rfl⟩) hK
    · cases hr
  · rename_i xs off k' q e0; cases e0
    split at hr
    · rename_i hq
      cases hr
      have e2 := VR_lit h'
      rw [VR] at h
      obtain ⟨b', o', e1, h1⟩ := h
      exact pure_out hm (hrun b' _ k' q e1 e2 hq) (by rw [VR]; exact ⟨b', o', by rw [Nat.add_assoc], h1⟩) hK
    · cases hr
  · cases hr

theorem p_ixV (hm : MemR E m w) {t : TypeId} {x i : Operand} (hop : o.op = .index t x i) {e : TypeId} {len s : Nat} {d : TypeDesc} (ht : P.underlying t = some (.array len e)) (hs : szOf P e = some s) (hd : P.underlying e = some d)
    (hV : VRs E vals [a.eval x, a.eval i]) (hr : pureSem (.ixV len s (isAggB P e)) vals = some r) (hK : K r m) : OpOut P o a w (OpR E m w id K) := by
  obtain ⟨v, u, rfl, h, h'⟩ := VRs_l2 hV
  obtain ⟨j, hj, hjs⟩ := szOf_ok hs
  simp only [pureSem] at hr
  split at hr
  · rename_i cs k q e0; cases e0
    split at hr
    · rename_i hq
      have e2 := VR_lit h'
      rw [VR] at h
      obtain ⟨c, e1, h1⟩ := h
      have hrun : ∀ v, (part e c (q.toNat * s)).run P w = .ok v w → (execOp a.eval o).run P w = .ok (.value v) w := fun v hv => by
        simp [execOp, hop, Instr.index, run_underlying ht, e1, e2, asIntOf, hq.1, hq.2, sizeOf, typeInfo, hj, hjs, hv]
      have hp := run_part (w := w) hd hs c (q.toNat * s)
      split at hr
      · rename_i hb
        rw [if_pos hb] at hp
        split at hr
        · cases hr
          refine pure_out hm (hrun _ hp) ?_ hK
          rw [VR]
          refine ⟨_, rfl, ?_⟩
          have := h1.slice (q.toNat * s) s
          rwa [Array.toList_extract, List.extract_eq_take_drop, Nat.add_sub_cancel_left]
        · cases hr
      · rename_i hb
        rw [if_neg hb] at hp
        obtain ⟨u, hu, hr'⟩ := h1.get hr
        rw [Array.getElem?_toList] at hu
        rw [hu] at hp
        exact pure_out hm (hrun _ hp) hr' hK
    · cases hr
  · cases hr

theorem p_ixS (hm : MemR E m w) {t : TypeId} {x i : Operand} (hop : o.op = .index t x i) (ht : P.underlying t = some .string)
    (hV : VRs E vals [a.eval x, a.eval i]) (hr : pureSem .ixS vals = some r) (hK : K r m) : OpOut P o a w (OpR E m w id K) := by
  obtain ⟨v, u, rfl, h, h'⟩ := VRs_l2 hV
  simp only [pureSem] at hr
  split at hr
  · rename_i s k q e0; cases e0
    have e1 := VR_lit h
    have e2 := VR_lit h'
    split at hr
    · rename_i hq
      rw [Option.map_eq_some_iff] at hr
      obtain ⟨b, hb, rfl⟩ := hr
      exact pure_out hm (by simp [execOp, hop, Instr.index, run_underlying ht, e1, e2, asIntOf, hq, hb]) (VR_mk rfl) hK
    · cases hr
  · cases hr

theorem p_ext (hm : MemR E m w) {x : Operand} {i : Nat} (hop : o.op = .extract x i) (hV : VRs E vals [a.eval x]) (hr : pureSem (.ext i) vals = some r) (hK : K r m) : OpOut P o a w (OpR E m w id K) := by
  obtain ⟨v, rfl, h⟩ := VRs_l1 hV
  simp only [pureSem] at hr
  split at hr
  · rename_i vs e; cases e
    rw [VR] at h
    obtain ⟨c, e1, h1⟩ := h
    obtain ⟨u, hu, hr'⟩ := h1.get hr
    rw [Array.getElem?_toList] at hu
    exact pure_out hm (by simp [execOp, hop, Instr.extract, e1, hu]) hr' hK
  · cases hr

theorem p_mkfn (hm : MemR E m w) {f : FuncId} {first cap : Array Operand} (hop : o.op = .makeFunc (.func f) first cap) (hf : first.size = 0) (hV : VRs E vals (cap.toList.map a.eval)) (hr : pureSem (.mkfn f) vals = some r) (hK : K r m) :
    OpOut P o a w (OpR E m w id K) := by
  simp only [pureSem, Option.some.injEq] at hr
  subst hr
  obtain rfl : first = #[] := Array.eq_empty_of_size_eq_zero hf
  exact pure_out hm (v := .func (.func f) #[] (cap.map a.eval)) (by simp [execOp, hop, Instr.makeFunc]) (by rw [VR]; exact ⟨_, rfl, by rwa [Array.toList_map]⟩) hK

theorem p_un (hm : MemR E m w) {op : UnOp} {t : TypeId} {x : Operand} (hop : o.op = .unOp op t x) (hV : VRs E vals [a.eval x]) (hr : pureSem (.un op) vals = some r) (hK : K r m) : OpOut P o a w (OpR E m w id K) := by
  obtain ⟨v, rfl, h⟩ := VRs_l1 hV
  simp only [pureSem] at hr
  split at hr
  · rename_i e; cases e; cases hr
    have e1 := VR_lit h
    exact pure_out hm (by simp [execOp, hop, Op.unary, e1, Op.intArith]) (VR_mk rfl) hK
  · rename_i e; cases e; cases hr
    have e1 := VR_lit h
    exact pure_out hm (by simp [execOp, hop, Op.unary, e1]) (VR_mk rfl) hK
  · cases hr

theorem p_cvt (hm : MemR E m w) {s d : TypeId} {x : Operand} {k0 k : IntKind} (hop : o.op = .convert s d x) (hs : P.underlying s = some (.int k0)) (hd : P.underlying d = some (.int k)) (hV : VRs E vals [a.eval x]) (hr : pureSem (.cvt k) vals = some r) (hK : K r m) :
    OpOut P o a w (OpR E m w id K) := by
  obtain ⟨v, rfl, h⟩ := VRs_l1 hV
  simp only [pureSem] at hr
  split at hr
  · rename_i e; cases e; cases hr
    have e1 := VR_lit h
    exact pure_out hm (by simp [execOp, hop, convert, run_underlying hs, run_underlying hd, e1, Conv.intToInt]) (VR_mk rfl) hK
  · cases hr
theorem p_cvtS (hm : MemR E m w) {s d : TypeId} {x : Operand} (hop : o.op = .convert s d x) (hs : P.underlying s = some .string) (hd : P.underlying d = some .string) (hV : VRs E vals [a.eval x]) (hr : pureSem .cvtS vals = some r) (hK : K r m) :
    OpOut P o a w (OpR E m w id K) := by
  obtain ⟨v, rfl, h⟩ := VRs_l1 hV
  simp only [pureSem] at hr
  split at hr
  · rename_i e; cases e; cases hr
    have e1 := VR_lit h
    exact pure_out hm (by simp [execOp, hop, convert, run_underlying hs, run_underlying hd, e1]) (VR_mk rfl) hK
  · cases hr
theorem runes_val : ∀ {xs : List V} {l : List Int} {cs : List Value}, xs.mapM runeOf = some l → VRs E xs cs → cs = l.map (Value.int .i32)
  | [], l, cs, h, hv => by
    simp at h; subst h
    rw [VRs] at hv; exact hv
  | x :: xs, l, cs, h, hv => by
    rw [List.mapM_cons] at h
    simp only [Option.bind_eq_bind, Option.bind_eq_some_iff] at h
    obtain ⟨n, hn, r, hr, e⟩ := h
    cases e
    rw [VRs] at hv
    obtain ⟨c, cs', rfl, h1, h2⟩ := hv
    have e2 := runes_val hr h2
    unfold runeOf at hn
    split at hn
    · cases hn
      rw [VR_lit h1, e2]; rfl
    · cases hn
theorem p_runes (hm : MemR E m w) {s d e : TypeId} {x : Operand} (hop : o.op = .convert s d x) (hs : P.underlying s = some (.slice e)) (he : P.underlying e = some (.int .i32)) (hd : P.underlying d = some .string) (hV : VRs E vals [a.eval x]) (hr : pureSem .runes vals = some r) (hK : K r m) :
    OpOut P o a w (OpR E m w id K) := by
  obtain ⟨v, rfl, hv⟩ := VRs_l1 hV
  simp only [pureSem] at hr
  split at hr
  · rename_i n xs k heq
    cases heq
    split at hr
    · rename_i hl
      rw [Option.map_eq_some_iff] at hr
      obtain ⟨l, hl2, rfl⟩ := hr
      obtain ⟨A, cap, cs, e1, hn, _, hp, h1, h2⟩ := sl_cells hm hv (size := 1) (by rw [hl, Nat.mul_one]) (by decide)
      have hcs := runes_val hl2 h1
      have hlen : cs.length = n := h1.length.trans hl
      have hrun0 : (convert s d (a.eval x)).run P w = .ok (.string (runesS l)) w := by
        rw [e1, run_convert_runes_string w s d e A n cap hs he hd]
        rcases h2 with ⟨rfl, hc0⟩ | ⟨b, o, rfl, _, hc⟩
        · have hl0 : l = [] := by rw [hc0] at hcs; simpa using hcs.symm
          subst hl0
          cases A with
          | none => rfl
          | some q => exact run_runesToString w q 0 cap [] (by have := run_loadCells_list (P := P) w q [] (fun j v hv => by simp at hv); simpa using this)
        · refine run_runesToString w ⟨b, o, none⟩ n cap l ?_
          have := run_loadCells_list (P := P) w ⟨b, o, none⟩ cs hc
          rw [hlen, hcs] at this
          exact this
      exact pure_out hm (by simp only [execOp, hop, Sem.run_bind, hrun0, Result.andThen_ok, Sem.run_pure]) (VR_mk rfl) hK
    · cases hr
  · cases hr
end
end Go.Proofs.YtdefefeifcdogaaGreat
/-! The operations that do not look at memory: numbers, slices, aggregates. Nothing is proved of the program here. -/
namespace Go.Proofs.YtdefefeifcdogaaGreat
open Go.RowKit

section
variable {P : Program} {E : Env} {m : Mm} {w : World} {o : Oper} {a : Act} {id : Nat} {K : V → Mm → Prop} {vo : VO} {args : List Operand} {vals : List V} {r : V}

theorem p_bin (hm : MemR E m w) {op : BinOp} {t t' : TypeId} {x y : Operand} (hop : o.op = .binOp op t x y t')
    (hV : VRs E vals [a.eval x, a.eval y]) (hr : pureSem (.bin op) vals = some r) (hK : K r m) : OpOut P o a w (OpR E m w id K) := by
  obtain ⟨v, u, rfl, h, h'⟩ := VRs_l2 hV
  simp only [pureSem] at hr
  split at hr
  · rename_i k p k' q e
    cases e
    have e1 := VR_lit h
    have e2 := VR_lit h'
    split at hr
    · rename_i hk
      subst hk
      rw [Option.map_eq_some_iff] at hr
      obtain ⟨z, hz, rfl⟩ := hr
      have hg : ∀ w, (eqGuard op t x y (.int k p) (.int k q)).run P w = .ok () w := fun w => by cases op <;> rfl
      refine pure_out hm (v := z) ?_ ?_ hK
      · simp only [execOp, hop, e1, e2, Sem.run_bind, hg, Result.andThen_ok]
        cases op <;> simp only [vbinI] at hz <;> first
          | (cases hz; simp [binOp, Op.intArith, Op.intCmp]; done)
          | (split at hz <;> cases hz; rename_i h0; simp [binOp, Op.intDiv, h0]; done)
          | (split at hz <;> cases hz; rename_i h0; simp [binOp, shift_shr_any _ _ _ _ h0]; done)
          | cases hz
      · cases op <;> simp only [vbinI] at hz <;> first
          | (cases hz; exact VR_mk rfl)
          | (split at hz <;> cases hz; exact VR_mk rfl)
          | cases hz
    · cases hr
  · rename_i p q e
    cases e
    have e1 := VR_lit h
    have e2 := VR_lit h'
    rw [Option.map_eq_some_iff] at hr
    obtain ⟨z, hz, rfl⟩ := hr
    have hg : ∀ w, (eqGuard op t x y (.string p) (.string q)).run P w = .ok () w := fun w => by cases op <;> rfl
    refine pure_out hm (v := z) ?_ ?_ hK
    · simp only [execOp, hop, e1, e2, Sem.run_bind, hg, Result.andThen_ok]
      cases op <;> simp only [vbinS] at hz <;> first
        | (cases hz; simp [binOp, Op.stringOp]; done)
        | (split at hz <;> cases hz
           rename_i h0
           have h1 : ¬ ((p.size : Int) + (q.size : Int) > 9223372036854775807) := by omega
           have h2 : IntKind.i64.max = 9223372036854775807 := rfl
           simp [binOp, Op.stringOp, h2]; omega)
        | cases hz
    · cases op <;> simp only [vbinS] at hz <;> first
        | (cases hz; exact VR_mk rfl)
        | (split at hz <;> cases hz; exact VR_mk rfl)
        | cases hz
  · cases hr

theorem p_eqB (hm : MemR E m w) {op : BinOp} {t t' : TypeId} {x y : Operand} (neg : Bool) (hop : o.op = .binOp op t x y t') (hneg : op = if neg = true then .neq else .eql) (ht : P.underlying t = some .bool)
    (hV : VRs E vals [a.eval x, a.eval y]) (hr : pureSem (.eqB neg) vals = some r) (hK : K r m) : OpOut P o a w (OpR E m w id K) := by
  obtain ⟨v, u, rfl, h, h'⟩ := VRs_l2 hV
  simp only [pureSem] at hr
  split at hr
  · rename_i p q e
    cases e
    cases hr
    have e1 := VR_lit h
    have e2 := VR_lit h'
    refine pure_out hm (v := .bool ((p == q) != neg)) ?_ (VR_mk rfl) hK
    have hg : ∀ op w, (eqGuard op t x y (.bool p) (.bool q)).run P w = .ok () w := fun op w => by cases op <;> rfl
    have he := fun w => run_equalIn_bool (P := P) w 9999 t p q ht
    cases neg
    · have h0 : op = .eql := hneg
      subst h0
      simp [execOp, hop, e1, e2, hg, binOp, Op.equal, Op.maxDepth, he]
    · have h0 : op = .neq := hneg
      subst h0
      simp [execOp, hop, e1, e2, hg, binOp, Op.equal, Op.maxDepth, he]
  · cases hr

theorem p_mn (hm : MemR E m w) {c : Call} {x y : Operand} (hop : o.op = .call c) (hc : c.callee = .builtin .min) (hx : c.args.toList = [x, y])
    (hV : VRs E vals [a.eval x, a.eval y]) (hr : pureSem .mn vals = some r) (hK : K r m) : OpOut P o a w (OpR E m w id K) := by
  obtain ⟨v, u, rfl, h, h'⟩ := VRs_l2 hV
  simp only [pureSem] at hr
  split at hr
  · rename_i k p k' q e
    cases e; cases hr
    have e1 := VR_lit h
    have e2 := VR_lit h'
    have hl : (c.args.map a.eval).toList = [.int k p, .int k' q] := by rw [Array.toList_map, hx]; simp only [List.map_cons, List.map_nil, e1, e2]
    exact pure_out hm (by simp [execOp, hop, resolve, hc, invoke, builtin, Builtin.min_, Array.toList_map, hx, Builtin.min2, e1, e2]) (VR_mk rfl) hK
  · cases hr
theorem p_mx (hm : MemR E m w) {c : Call} {x y : Operand} (hop : o.op = .call c) (hc : c.callee = .builtin .max) (hx : c.args.toList = [x, y])
    (hV : VRs E vals [a.eval x, a.eval y]) (hr : pureSem .mx vals = some r) (hK : K r m) : OpOut P o a w (OpR E m w id K) := by
  obtain ⟨v, u, rfl, h, h'⟩ := VRs_l2 hV
  simp only [pureSem] at hr
  split at hr
  · rename_i k p k' q e
    cases e; cases hr
    have e1 := VR_lit h
    have e2 := VR_lit h'
    exact pure_out hm (by simp [execOp, hop, resolve, hc, invoke, builtin, Builtin.max_, Array.toList_map, hx, Builtin.max2, e1, e2]) (VR_mk rfl) hK
  · cases hr

theorem p_len (hm : MemR E m w) {c : Call} {x : Operand} {t : TypeId} {e : TypeId} (hop : o.op = .call c) (hc : c.callee = .builtin .len) (ht : c.argTypes[0]? = some t) (hu : P.underlying t = some (.slice e)) (hx : c.args.toList = [x])
    (hV : VRs E vals [a.eval x]) (hr : pureSem .len vals = some r) (hK : K r m) : OpOut P o a w (OpR E m w id K) := by
  obtain ⟨v, rfl, h⟩ := VRs_l1 hV
  have hx0 : c.args = #[x] := by apply Array.ext'; exact hx
  have hrun : ∀ A n cap, a.eval x = .slice A n cap → (execOp a.eval o).run P w = .ok (.value (.int .i64 n)) w := fun A n cap e1 => by
    simp [execOp, hop, resolve, hc, invoke, builtin, Builtin.len_, hx0, ht, run_underlying hu, e1, goInt]
  simp only [pureSem] at hr
  split at hr
  · rename_i e0; cases e0; cases hr
    rw [VR] at h
    obtain ⟨A, cap, e1, _⟩ := h
    exact pure_out hm (hrun _ _ _ e1) (VR_mk rfl) hK
  · rename_i e0; cases e0; cases hr
    rw [VR] at h
    obtain ⟨b, _, _, e1, _⟩ := h
    exact pure_out hm (hrun _ _ _ e1) (VR_mk rfl) hK
  · rename_i e0; cases e0; cases hr
    rw [VR] at h
    obtain ⟨b, _, _, e1, _⟩ := h
    exact pure_out hm (hrun _ _ _ e1) (VR_mk rfl) hK
  · cases hr
theorem p_lenS (hm : MemR E m w) {c : Call} {x : Operand} {t : TypeId} (hop : o.op = .call c) (hc : c.callee = .builtin .len) (ht : c.argTypes[0]? = some t) (hu : P.underlying t = some .string) (hx : c.args.toList = [x])
    (hV : VRs E vals [a.eval x]) (hr : pureSem .lenS vals = some r) (hK : K r m) : OpOut P o a w (OpR E m w id K) := by
  obtain ⟨v, rfl, h⟩ := VRs_l1 hV
  have hx0 : c.args = #[x] := by apply Array.ext'; exact hx
  simp only [pureSem] at hr
  split at hr
  · rename_i e0; cases e0; cases hr
    have e1 := VR_lit h
    exact pure_out hm (by simp [execOp, hop, resolve, hc, invoke, builtin, Builtin.len_, hx0, ht, run_underlying hu, e1, goInt]) (VR_mk rfl) hK
  · cases hr

/-! ### Structs that are compared -/
theorem p_eqP (hm : MemR E m w) {op : BinOp} {t t' : TypeId} {x y : Operand} (neg : Bool) (hop : o.op = .binOp op t x y t') (hneg : op = if neg = true then .neq else .eql) {fs : Array Field} (ht : P.underlying t = some (.struct fs))
    (h1 : P.stoodInHeld t = false) (h2 : P.eqGuardType P.depth t = false) {offs : List (Nat × Nat)} (hf : eqFs P fs.toList = some offs)
    (hV : VRs E vals [a.eval x, a.eval y]) (hr : pureSem (.eqP offs neg) vals = some r) (hK : K r m) : OpOut P o a w (OpR E m w id K) := by
  obtain ⟨v, u, rfl, h, h'⟩ := VRs_l2 hV
  simp only [pureSem] at hr
  split at hr
  · rename_i xs ys e
    cases e
    rw [Option.map_eq_some_iff] at hr
    obtain ⟨b, hb, rfl⟩ := hr
    rw [VR] at h h'
    obtain ⟨cx, e1, hx⟩ := h
    obtain ⟨cy, e2, hy⟩ := h'
    have hft : P.fieldsOf t = fs := by simp [Program.fieldsOf, ht]
    have hrun := eqFields_run (P := P) (w := w) 9998 hx hy fs.toList offs b hf hb
    have he : (Op.equalIn 10000 t (.agg cx) (.agg cy)).run P w = .ok b w := by
      have := run_equalIn_struct (P := P) w 9999 t cx cy (by rw [hft]; exact ht) h1
      rw [hft] at this
      exact this.trans hrun
    have hg := fun op => run_eqGuard_agg (P := P) w op t x y cx cy h2
    refine pure_out hm (v := .bool (b != neg)) ?_ (VR_mk rfl) hK
    cases neg
    · have h0 : op = .eql := hneg
      subst h0
      simp only [execOp, hop, e1, e2, Sem.run_bind, hg, Result.andThen_ok, run_eql_struct, he, Sem.run_pure]
      cases b <;> rfl
    · have h0 : op = .neq := hneg
      subst h0
      simp only [execOp, hop, e1, e2, Sem.run_bind, hg, Result.andThen_ok, run_neq_struct, he, Sem.run_pure]
      cases b <;> rfl
  · cases hr
end
end Go.Proofs.YtdefefeifcdogaaGreat
/-! The operations that do not look at memory: slices, aggregates that are built, and all of them together. Nothing is proved of the program here. -/
namespace Go.Proofs.YtdefefeifcdogaaGreat
open Go.RowKit

section
variable {P : Program} {E : Env} {m : Mm} {w : World} {o : Oper} {a : Act} {id : Nat} {K : V → Mm → Prop} {vo : VO} {args : List Operand} {vals : List V} {r : V}

theorem addr_at (b off n : Nat) : (⟨b, off, none⟩ : Addr).add n = ⟨b, off + n, none⟩ := by unfold Addr.add; split <;> simp_all

theorem p_build (hm : MemR E m w) {t : TypeId} {parts : Array (Nat × Operand)} (hop : o.op = .build t parts) {z : List V} (hz : zeroV P t = some z) {pl : List (Nat × Nat)}
    (ht : (∃ fields, P.underlying t = some (.struct fields) ∧ (fields.toList.all fun f => (P.info? f.type).isSome) = true ∧ parts.toList.mapM (fun p => plB P fields p.1) = some pl) ∨
      (∃ n e s, P.underlying t = some (.array n e) ∧ szOf P e = some s ∧ pl = parts.toList.map fun p => (p.1 * s, s)))
    (hV : VRs E vals ((parts.toList.map (·.2)).map a.eval)) (hr : pureSem (.build z pl) vals = some r) (hK : K r m) : OpOut P o a w (OpR E m w id K) := by
  obtain ⟨i, zv, hi, hzi, hzr, _⟩ := zeroV_ok (E := E) hz
  simp only [pureSem] at hr
  split at hr
  · rename_i hl
    rw [Option.map_eq_some_iff] at hr
    obtain ⟨cs, hcs, rfl⟩ := hr
    have hps : (parts.map fun (i, x) => (i, a.eval x)).toList.map (·.2) = (parts.toList.map (·.2)).map a.eval := by
      rw [Array.toList_map, List.map_map, List.map_map]; rfl
    rcases ht with ⟨fields, ht, hall, hpl⟩ | ⟨n, e, s, ht, hs, rfl⟩
    · have hplaces : ∃ places : Array (Nat × Nat), (∀ w, (fields.mapM fun f => (do pure (f.offset, ← sizeOf f.type) : Sem (Nat × Nat))).run P w = .ok places w) ∧ ∀ i x, plB P fields i = some x → places[i]? = some x := by
        have key : ∀ (g : Field → Sem (Nat × Nat)), (∀ f j, P.info? f.type = some j → ∀ w, (g f).run P w = .ok (f.offset, j.size) w) → ∀ (l : List Field), (l.all fun f => (P.info? f.type).isSome) = true →
            ∃ q : List (Nat × Nat), (∀ w, (l.mapM g).run P w = .ok q w) ∧ ∀ i x, plB P l.toArray i = some x → q[i]? = some x := by
          intro g hg l
          induction l with
          | nil => intro _; exact ⟨[], fun w => rfl, fun i x hx => by simp [plB] at hx⟩
          | cons f l ih =>
            intro hall
            rw [List.all_cons, Bool.and_eq_true] at hall
            obtain ⟨j, hj⟩ := Option.isSome_iff_exists.1 hall.1
            obtain ⟨q, hq, hq2⟩ := ih hall.2
            refine ⟨(f.offset, j.size) :: q, fun w => ?_, fun i x hx => ?_⟩
            · rw [List.mapM_cons]
              simp only [Sem.run_bind, hg f j hj, Result.andThen_ok, hq, Sem.run_pure]
            · cases i with
              | zero => simp [plB, hj] at hx; simp [hx]
              | succ i => simp only [List.getElem?_cons_succ]; exact hq2 i x (by simpa [plB] using hx)
        obtain ⟨q, hq, hq2⟩ := key (fun f => (do pure (f.offset, ← sizeOf f.type) : Sem (Nat × Nat))) (fun f j hj w => by simp [sizeOf, typeInfo, hj]) fields.toList hall
        refine ⟨q.toArray, fun w => ?_, fun i x hx => by rw [List.getElem?_toArray]; exact hq2 i x (by simpa using hx)⟩
        rw [Array.mapM_eq_mapM_toList, map_eq_pure_bind]
        simp only [Sem.run_bind, hq, Result.andThen_ok, Sem.run_pure]
      obtain ⟨places, hpr, hpg⟩ := hplaces
      have hmap : (parts.map fun (i, x) => (i, a.eval x)).toList.map (fun p => (places[·]?) p.1) = pl.map some := by
        rw [Array.toList_map, List.map_map]
        have h1 := mapM_some hpl
        rw [← h1]
        refine List.map_congr_left fun p hp => ?_
        have : plB P fields p.1 ∈ parts.toList.map fun p => plB P fields p.1 := List.mem_map.2 ⟨p, hp, rfl⟩
        rw [h1] at this
        obtain ⟨x, _, hx⟩ := List.mem_map.1 this
        show places[p.1]? = plB P fields p.1
        rw [← hx, hpg p.1 x hx.symm]
      obtain ⟨cc, hcc, hres⟩ := fill_ok pl vals _ z zv.cells cs hl hmap (by rw [hps]; exact hV) hzr hcs
      refine pure_out hm (v := .agg cc) ?_ (by rw [VR]; exact ⟨cc, rfl, hres⟩) hK
      have hzero : (zeroValue t).run P w = .ok zv w := by simp [zeroValue, typeInfo, hi, hzi]
      simp only [execOp, hop, Instr.build, Sem.run_bind, hzero, Result.andThen_ok, run_underlying ht, hpr, hcc, Sem.run_pure]
    · obtain ⟨j, hj, rfl⟩ := szOf_ok hs
      obtain ⟨cc, hcc, hres⟩ := fill_ok (place := fun i => some (i * j.size, j.size)) (parts.toList.map fun p => (p.1 * j.size, j.size)) vals (parts.map fun (i, x) => (i, a.eval x)).toList z zv.cells cs hl (by rw [Array.toList_map, List.map_map, List.map_map]; rfl) (by rw [hps]; exact hV) hzr hcs
      refine pure_out hm (v := .agg cc) ?_ (by rw [VR]; exact ⟨cc, rfl, hres⟩) hK
      have hzero : (zeroValue t).run P w = .ok zv w := by simp [zeroValue, typeInfo, hi, hzi]
      have hsize : (sizeOf e).run P w = .ok j.size w := by simp [sizeOf, typeInfo, hj]
      simp only [execOp, hop, Instr.build, Sem.run_bind, hzero, hsize, Result.andThen_ok, run_underlying ht, hcc, Sem.run_pure]
  · cases hr

theorem flat_get {α : Type} [Inhabited α] (z : List α) (hz : 0 < z.length) : ∀ (n i : Nat), i < n * z.length → (List.flatten (List.replicate n z))[i]? = z[i % z.length]?
  | 0, i, h => by omega
  | n + 1, i, h => by
    rw [List.replicate_succ, List.flatten_cons]
    by_cases hi : i < z.length
    · rw [List.getElem?_append_left hi, Nat.mod_eq_of_lt hi]
    · rw [List.getElem?_append_right (by omega), flat_get z hz n (i - z.length) (by rw [Nat.add_mul] at h; omega), ← Nat.mod_eq_sub_mod (by omega)]
theorem flat_length {α : Type} (z : List α) (n : Nat) : (List.flatten (List.replicate n z)).length = n * z.length := by
  simp [List.length_flatten]
/-- Zeros, as the machine makes them. -/
theorem zeros_ok {z : List V} {zv : Array Value} (h : VRs E z zv.toList) (n : Nat) (h0 : 0 < z.length) : VRs E (List.flatten (List.replicate n z)) ((Array.range (n * z.length)).map (zv[· % zv.size]!)).toList := by
  have hl := h.length
  rw [Array.length_toList] at hl
  refine VRs.of_get (by simp [flat_length]) fun i v c hv hc => ?_
  have hi : i < n * z.length := by have := (List.getElem?_eq_some_iff.1 hv).1; rwa [flat_length] at this
  rw [flat_get z h0 n i hi] at hv
  obtain ⟨u, hu, hr⟩ := h.get hv
  have hlt : i % zv.size < zv.size := Nat.mod_lt _ (by omega)
  rw [Array.getElem?_toList, ← hl] at hu
  rw [Array.toList_map, Array.toList_range, List.getElem?_map, List.getElem?_range hi, Option.map_some] at hc
  cases hc
  rw [getElem!_pos zv (i % zv.size) hlt]
  rw [Array.getElem?_eq_getElem hlt] at hu
  cases hu
  exact hr
theorem pures_flat {z : List V} (h : V.pures z = true) (n : Nat) : V.pures (List.flatten (List.replicate n z)) = true := by
  rw [pures_iff] at h ⊢
  intro v hv
  obtain ⟨l, hl, hv⟩ := List.mem_flatten.1 hv
  rw [List.eq_of_mem_replicate hl] at hv
  exact h v hv
theorem pures_cells {v : V} (h : v.pure = true) : V.pures v.cells = true := by
  cases v <;> simp only [V.cells] <;> first
    | (rw [V.pure] at h; exact h)
    | (rw [V.pures, V.pures, h]; rfl)
theorem pures_splice {cs vs : List V} (h : V.pures cs = true) (h' : V.pures vs = true) (off : Nat) : V.pures (splice cs off vs) = true := by
  unfold splice
  rw [pures_append, pures_append, h', Bool.and_true]
  rw [pures_iff] at h
  rw [pures_iff.2 fun v hv => h v (List.mem_of_mem_take hv), pures_iff.2 fun v hv => h v (List.mem_of_mem_drop hv)]
  rfl
theorem vfill_pures : ∀ (ps : List ((Nat × Nat) × V)) (z cs : List V), V.pures z = true → V.pures (ps.map (·.2)) = true → vfill z ps = some cs → V.pures cs = true
  | [], z, cs, hz, _, h => by simp only [vfill, Option.some.injEq] at h; subst h; exact hz
  | ((off, size), v) :: ps, z, cs, hz, hp, h => by
    simp only [vfill] at h
    rw [List.map_cons, V.pures, Bool.and_eq_true] at hp
    split at h
    · exact vfill_pures ps _ cs (pures_splice hz (pures_cells hp.1) off) hp.2 h
    · cases h
theorem vfill_length : ∀ (ps : List ((Nat × Nat) × V)) (z cs : List V), vfill z ps = some cs → cs.length = z.length
  | [], z, cs, h => by simp only [vfill, Option.some.injEq] at h; subst h; rfl
  | ((off, size), v) :: ps, z, cs, h => by
    simp only [vfill] at h
    split at h
    · rename_i hh
      rw [vfill_length ps _ cs h]
      unfold splice
      simp only [List.length_append, List.length_take, List.length_drop]
      omega
    · cases h

/-- A value in a box of its own that nobody writes to. -/
theorem p_boxE (hm : MemR E m w) {t : TypeId} {x : Operand} (hop : o.op = .box t x) (hV : VRs E vals [a.eval x]) (hr : pureSem .boxE vals = some r) (hK : K r m) : OpOut P o a w (OpR E m w id K) := by
  obtain ⟨v, rfl, h1⟩ := VRs_l1 hV
  simp only [pureSem] at hr
  rw [Option.bind_eq_some_iff] at hr
  obtain ⟨u, hu, hr⟩ := hr
  split at hr
  · rename_i hone
    cases hr
    obtain ⟨h2, hpu⟩ := VR.pub hu h1
    have hc := h2.cells
    have hl := hc.length
    obtain ⟨hst, hm'⟩ := hm.newCells (a.eval x).cells t u.cells.length
    refine .inl ⟨.pointer (some ⟨w.heap.size, 0, none⟩), w.alloc (.cells (a.eval x).cells t), ?_, _, m, _, hK, hst.weaken (fun _ _ h => h.elim), hm', ?_⟩
    · simp only [execOp, hop, Instr.box, Sem.run_bind]
      simp [newVar, newRow]
    · rw [VR]
      refine ⟨w.heap.size, 0, rfl, by rw [V.clean, pures_cells hpu, hone]; rfl, At.of_get fun q v hv => ?_⟩
      obtain ⟨y, hy, hr'⟩ := hc.get hv
      refine ⟨y, ?_, hr'.mono hst.le⟩
      show (if w.heap.size = w.heap.size then ((a.eval x).cells.toList.take u.cells.length)[0 + q]? else _) = some y
      rw [if_pos rfl, Nat.zero_add, List.take_of_length_le (by omega)]
      exact hy
  · cases hr
theorem p_mksl (hm : MemR E m w) {t : TypeId} {n : Nat} {parts : Array (Nat × Operand)} (hop : o.op = .buildSlice t n parts) {e : TypeId} {s : Nat} {z : List V} (ht : P.underlying t = some (.slice e)) (hs : szOf P e = some s) (hz : zeroV P e = some z)
    (hn : n * s ≤ 16777216 ∧ z.length = s ∧ 0 < s) (hV : VRs E vals ((parts.toList.map (·.2)).map a.eval)) (hr : pureSem (.mksl n s (List.flatten (List.replicate n z)) (parts.toList.map fun p => (p.1 * s, s))) vals = some r) (hK : K r m) : OpOut P o a w (OpR E m w id K) := by
  obtain ⟨i, zv, hi, hzi, hzr, hzc⟩ := zeroV_ok (E := E) hz
  obtain ⟨j, hj, rfl⟩ := szOf_ok hs
  simp only [pureSem] at hr
  split at hr
  · rename_i hl
    rw [Option.bind_eq_some_iff] at hr
    obtain ⟨us, hus, hr⟩ := hr
    rw [Option.bind_eq_some_iff] at hr
    obtain ⟨cs, hcs, hr⟩ := hr
    split at hr
    · rename_i hone
      cases hr
      obtain ⟨hV', hpu⟩ := VRs.pub hus hV
      have hps : (parts.map fun (i, x) => (i, a.eval x)).toList.map (·.2) = (parts.toList.map (·.2)).map a.eval := by
        rw [Array.toList_map, List.map_map, List.map_map]; rfl
      have hzs : zv.cells.size = j.size := by have := hzr.length; rw [Array.length_toList] at this; omega
      have hz0 := zeros_ok hzr n (by omega)
      rw [hn.2.1] at hz0
      have hul : us.length = vals.length := by rw [← hV'.length, hV.length]
      obtain ⟨cc, hcc, hres⟩ := fill_ok (place := fun i => some (i * j.size, j.size)) (parts.toList.map fun p => (p.1 * j.size, j.size)) us (parts.map fun (i, x) => (i, a.eval x)).toList _ _ cs (hl.1.trans hul.symm) (by rw [Array.toList_map, List.map_map, List.map_map]; rfl) (by rw [hps]; exact hV') hz0 hcs
      have hcsl : cs.length = n * j.size := by rw [vfill_length _ _ _ hcs, flat_length, hn.2.1]
      have hccs : cc.size = n * j.size := by have := hres.length; rw [Array.length_toList] at this; omega
      have hcp : V.pures cs = true := vfill_pures _ _ _ (pures_flat (clean_pures hzc) n) (by rw [List.map_snd_zip (by rw [hl.1, hul]; exact Nat.le_refl _)]; exact hpu) hcs
      obtain ⟨hst, hm'⟩ := hm.newCells cc e (n * j.size)
      refine .inl ⟨.slice (some ⟨w.heap.size, 0, none⟩) n n, w.alloc (.cells cc e), ?_, _, m, _, hK, hst.weaken (fun _ _ h => h.elim), hm', ?_⟩
      · have h1 : ¬ (n * j.size > 2 ^ 24) := by omega
        have hsize : ∀ w, (sizeOf e).run P w = .ok j.size w := fun w => by simp [sizeOf, typeInfo, hj]
        have hzero : ∀ w, (zeroValue e).run P w = .ok zv w := fun w => by simp [zeroValue, typeInfo, hi, hzi]
        have hrun : (Instr.buildSlice t n (parts.map fun (i, x) => (i, a.eval x))).run P w = .ok (.slice (some ⟨w.heap.size, 0, none⟩) n n) (w.alloc (.cells cc e)) := by
          unfold Instr.buildSlice
          simp only [Sem.run_bind, run_underlying ht, Result.andThen_ok, hsize, if_neg h1, Sem.run_pure]
          by_cases h0 : n * j.size = 0
          · have e0 : ∀ zz : Array Value, (Array.range (n * j.size)).map (fun x => zz[x % zz.size]!) = #[] := fun zz => by rw [h0]; simp
            rw [e0] at hcc
            simp only [if_pos h0, Sem.run_pure, Result.andThen_ok, e0, hcc]
            simp [newRow]
          · simp only [if_neg h0, Sem.run_bind, hzero, Sem.run_pure, Result.andThen_ok, hcc]
            simp [newRow]
        simp only [execOp, hop, Sem.run_bind, hrun, Result.andThen_ok, Sem.run_pure]
      · rw [VR]
        have hcl : V.clean cs = true := by rw [V.clean, hcp, hone]; rfl
        refine ⟨some ⟨w.heap.size, 0, none⟩, n, rfl, Nat.le_refl _, rfl, hcl, .inr ⟨w.heap.size, 0, rfl, At.of_get fun q v hv => ?_⟩⟩
        obtain ⟨u, hu, hr'⟩ := hres.get hv
        refine ⟨u, ?_, hr'.mono hst.le⟩
        show (if w.heap.size = w.heap.size then (cc.toList.take (n * j.size))[0 + q]? else _) = some u
        rw [if_pos rfl, Nat.zero_add, List.take_of_length_le (by rw [Array.length_toList]; omega)]
        exact hu
    · cases hr
  · cases hr
end
end Go.Proofs.YtdefefeifcdogaaGreat
/-! The operations that do not look at memory: slices of slices and strings, and all of them together. Nothing is proved of the program here. -/
namespace Go.Proofs.YtdefefeifcdogaaGreat
open Go.RowKit

section
variable {P : Program} {E : Env} {m : Mm} {w : World} {o : Oper} {a : Act} {id : Nat} {K : V → Mm → Prop} {vo : VO} {args : List Operand} {vals : List V} {r : V}

/-- A bound that stands there, or one that does not. -/
def BV (a : Act) (x : Option Operand) (d l : Nat) : Prop :=
  match x with
  | none => l = d
  | some x => ∃ k, a.eval x = .int k (l : Int)

theorem run_bound (w : World) {x : Value} {k : IntKind} {l y : Nat} (h : x = .int k (l : Int)) (hl : l ≤ y) (c : BoundsCode) : (Instr.sliceBound x y c).run P w = .ok l w := by
  subst h
  have h1 : (0 : Int) ≤ (l : Int) ∧ (l : Int) ≤ (y : Int) := by omega
  simp only [Instr.sliceBound, asIntOf, Sem.run_bind, Sem.run_pure, Result.andThen_ok, if_pos h1, Int.toNat_natCast]
theorem run_bounds (w : World) {lo hi : Option Operand} {n cap l h : Nat} (isS : Bool) (hl : BV a lo 0 l) (hh : BV a hi n h) (h1 : l ≤ h) (h2 : h ≤ cap) :
    (Instr.sliceBounds isS n cap (lo.map a.eval) (hi.map a.eval) none).run P w = .ok (l, h, cap) w := by
  unfold Instr.sliceBounds
  cases hi with
  | none =>
    simp only [BV] at hh
    subst hh
    cases lo with
    | none => simp only [BV] at hl; subst hl; rfl
    | some x =>
      obtain ⟨k, hk⟩ := hl
      simp only [Option.map_none, Option.map_some, Sem.run_bind, Sem.run_pure, Result.andThen_ok, run_bound w hk h1]
  | some y =>
    obtain ⟨k', hk'⟩ := hh
    cases lo with
    | none =>
      simp only [BV] at hl; subst hl
      simp only [Option.map_none, Option.map_some, Sem.run_bind, Sem.run_pure, Result.andThen_ok, run_bound w hk' h2]
    | some x =>
      obtain ⟨k, hk⟩ := hl
      simp only [Option.map_none, Option.map_some, Sem.run_bind, Sem.run_pure, Result.andThen_ok, run_bound w hk' h2, run_bound w hk h1]

theorem run_slc {t e : TypeId} {lo hi : Option Operand} {x : Operand} {s : Nat} (hop : o.op = .slice t x lo hi none) (ht : P.underlying t = some (.slice e)) (hs : szOf P e = some s) {A : Option Addr} {n cap l h : Nat} (hx : a.eval x = .slice A n cap)
    (hl : BV a lo 0 l) (hh : BV a hi n h) (h1 : l ≤ h) (h2 : h ≤ cap) : (execOp a.eval o).run P w = .ok (.value (.slice (if cap = l then A else A.map (·.add (l * s))) (h - l) (cap - l))) w := by
  obtain ⟨j, hj, rfl⟩ := szOf_ok hs
  have hsize : ∀ w, (sizeOf e).run P w = .ok j.size w := fun w => by simp [sizeOf, typeInfo, hj]
  simp only [execOp, hop, Instr.sliceAt, Instr.slice, hx, Sem.run_bind, run_underlying ht, Result.andThen_ok, Option.map_none, run_bounds w true hl hh h1 h2, hsize, Sem.run_pure]

/-- The value of a slice that is cut. -/
theorem VR_cut {n cap : Nat} {xs xs' : List V} {k : Tok} {A : Option Addr} (h : VR E (.sl n xs k) (.slice A n cap)) {l g s : Nat} (h1 : l ≤ g) (h2 : g ≤ n) (hx : xs' = (xs.drop (l * s)).take ((g - l) * s)) :
    VR E (.sl (g - l) xs' .no) (.slice (if cap = l then A else A.map (·.add (l * s))) (g - l) (cap - l)) := by
  rw [VR] at h ⊢
  obtain ⟨A', cap', e, hn, _, hp, hx0⟩ := h
  cases e
  refine ⟨_, _, rfl, by omega, trivial, by subst hx; exact clean_slice hp _ _, ?_⟩
  rcases Nat.eq_zero_or_pos (g - l) with h0 | h0
  · left; subst hx; rw [h0, Nat.zero_mul, List.take_zero]
  · rw [if_neg (by omega)]
    rcases hx0 with rfl | ⟨b, off, rfl, hat⟩
    · left; subst hx; simp
    · right
      exact ⟨b, off + l * s, by rw [Option.map_some, addr_at], by subst hx; exact hat.drop _ _⟩

theorem int_nat {q : Int} (h : 0 ≤ q) : ((q.toNat : Nat) : Int) = q := Int.toNat_of_nonneg h

theorem bnds_ok {lo hi : Option Operand} {bs : List V} {n : Nat} {l h : Int} (hb : VRs E bs ((lo.toList ++ hi.toList).map a.eval)) (hr : bnds lo.isSome hi.isSome n bs = some (l, h)) (h0 : 0 ≤ l) (h1 : 0 ≤ h) : BV a lo 0 l.toNat ∧ BV a hi n h.toNat := by
  cases lo <;> cases hi <;> simp only [Option.isSome_none, Option.isSome_some, Option.toList_none, Option.toList_some, List.nil_append, List.append_nil, List.map_nil, List.map_cons, List.singleton_append] at hr hb
  · obtain rfl := VRs_l0 hb
    simp [bnds] at hr
    obtain ⟨rfl, rfl⟩ := hr
    exact ⟨rfl, by simp [BV]⟩
  · obtain ⟨y, rfl, hy⟩ := VRs_l1 hb
    simp only [bnds, ↓reduceIte, Bool.false_eq_true] at hr
    split at hr
    · rename_i k q heq; cases heq; cases hr
      exact ⟨rfl, k, by rw [int_nat h1]; exact VR_lit hy⟩
    · cases hr
  · obtain ⟨y, rfl, hy⟩ := VRs_l1 hb
    simp only [bnds, ↓reduceIte, Bool.false_eq_true] at hr
    split at hr
    · rename_i k q r0 heq; cases heq
      split at hr
      · cases hr
        exact ⟨⟨k, by rw [int_nat h0]; exact VR_lit hy⟩, by simp [BV]⟩
      · rename_i e; exact (e rfl).elim
    · cases hr
  · obtain ⟨y, z, rfl, hy, hz⟩ := VRs_l2 hb
    simp only [bnds, ↓reduceIte] at hr
    split at hr
    · rename_i k q r0 heq; cases heq
      split at hr
      · rename_i k' q' heq'; cases heq'; cases hr
        exact ⟨⟨k, by rw [int_nat h0]; exact VR_lit hy⟩, k', by rw [int_nat h1]; exact VR_lit hz⟩
      · cases hr
    · cases hr

theorem p_slc (hm : MemR E m w) {t e : TypeId} {lo hi : Option Operand} {x : Operand} {s : Nat} (hop : o.op = .slice t x lo hi none) (ht : P.underlying t = some (.slice e)) (hs : szOf P e = some s)
    (hV : VRs E vals (([x] ++ lo.toList ++ hi.toList).map a.eval)) (hr : pureSem (.slc s lo.isSome hi.isSome) vals = some r) (hK : K r m) : OpOut P o a w (OpR E m w id K) := by
  cases vals with
  | nil => have := hV.length; simp at this
  | cons v bs =>
    rw [List.append_assoc, List.map_append, List.map_cons, List.map_nil, List.singleton_append, VRs] at hV
    obtain ⟨c, cs, e0, h, hb⟩ := hV
    cases e0
    simp only [pureSem, vslc] at hr
    split at hr
    · rename_i n xs k
      have hv := h
      rw [VR] at h
      obtain ⟨A, cap, e1, hn, _, _, _⟩ := h
      rw [e1] at hv
      split at hr
      · rename_i l g hbn
        split at hr
        · rename_i hq
          cases hr
          obtain ⟨b1, b2⟩ := bnds_ok hb hbn hq.1 (by omega)
          exact pure_out hm (run_slc (P := P) (w := w) hop ht hs e1 b1 b2 (by omega) (by omega)) (VR_cut hv (by omega) (by omega) rfl) hK
        · cases hr
      · cases hr
    · rename_i i off n cap
      rw [VR] at h
      obtain ⟨b, h1, cap', e1, hn, hcc⟩ := h
      split at hr
      · rename_i l g hbn
        split at hr
        · rename_i hq
          obtain ⟨b1, b2⟩ := bnds_ok hb hbn hq.1 (by omega)
          split at hr
          · cases hr
            refine pure_out hm (run_slc (P := P) (w := w) hop ht hs e1 b1 b2 (by omega) (by omega)) ?_ hK
            rw [VR]
            refine ⟨b, h1, cap' - l.toNat, ?_, by omega, by omega⟩
            congr 1
            split
            · rename_i e2
              have : l.toNat = 0 := by omega
              rw [this, Nat.zero_mul, Nat.add_zero]
            · rw [Option.map_some, addr_at]
          · cases hr
            refine pure_out hm (run_slc (P := P) (w := w) hop ht hs e1 b1 b2 (by omega) (by omega)) ?_ hK
            rw [show g.toNat - l.toNat = 0 by omega, VR]
            exact ⟨_, _, rfl, Nat.zero_le _, trivial, rfl, .inl rfl⟩
        · cases hr
      · cases hr
    · rename_i i n s'
      rw [VR] at h
      obtain ⟨b, h1, cap', e1, hn, hl⟩ := h
      split at hr
      · rename_i l g hbn
        split at hr
        · rename_i hq
          obtain ⟨b1, b2⟩ := bnds_ok hb hbn hq.1 (by omega)
          split at hr
          · rename_i hl0
            cases hr
            refine pure_out hm (run_slc (P := P) (w := w) hop ht hs e1 b1 b2 (by omega) (by omega)) ?_ hK
            subst hl0
            rw [VR]
            refine ⟨b, h1, cap', ?_, by omega, hl⟩
            congr 1
            split
            · rfl
            · rw [Option.map_some, addr_at]; simp
          · split at hr
            · cases hr
              refine pure_out hm (run_slc (P := P) (w := w) hop ht hs e1 b1 b2 (by omega) (by omega)) ?_ hK
              rw [VR]
              refine ⟨b, h1, cap' - l.toNat, ?_, by omega, by omega⟩
              congr 1
              rw [if_neg (by omega), Option.map_some, addr_at, Nat.zero_add]
            · cases hr
              refine pure_out hm (run_slc (P := P) (w := w) hop ht hs e1 b1 b2 (by omega) (by omega)) ?_ hK
              rw [show g.toNat - l.toNat = 0 by omega, VR]
              exact ⟨_, _, rfl, Nat.zero_le _, trivial, rfl, .inl rfl⟩
        · cases hr
      · cases hr
    · cases hr

theorem p_slS (hm : MemR E m w) {t : TypeId} {lo hi : Option Operand} {x : Operand} (hop : o.op = .slice t x lo hi none) (ht : P.underlying t = some .string)
    (hV : VRs E vals (([x] ++ lo.toList ++ hi.toList).map a.eval)) (hr : pureSem (.slS lo.isSome hi.isSome) vals = some r) (hK : K r m) : OpOut P o a w (OpR E m w id K) := by
  cases vals with
  | nil => have := hV.length; simp at this
  | cons v bs =>
    rw [List.append_assoc, List.map_append, List.map_cons, List.map_nil, List.singleton_append, VRs] at hV
    obtain ⟨c, cs, e0, h, hb⟩ := hV
    cases e0
    simp only [pureSem] at hr
    split at hr
    · rename_i s bs' heq
      cases heq
      have e1 := VR_lit h
      simp only [vslS] at hr
      split at hr
      · rename_i l g hbn
        split at hr
        · rename_i hq
          cases hr
          obtain ⟨b1, b2⟩ := bnds_ok hb hbn hq.1 (by omega)
          have hrun : (execOp a.eval o).run P w = .ok (.value (.string (s.extract l.toNat g.toNat))) w := by
            simp only [execOp, hop, Instr.sliceAt, Instr.slice, e1, Sem.run_bind, run_underlying ht, Result.andThen_ok, Option.map_none, Option.isSome_none, Bool.false_eq_true, if_false, run_bounds w false b1 b2 (by omega) (show g.toNat ≤ s.size by omega), Sem.run_pure]
          exact pure_out hm hrun (VR_mk rfl) hK
        · cases hr
      · cases hr
    · cases hr

theorem evals_map {ρ : Operand → Value} {l : List Operand} {r : List Value} (h : l.map ρ = r) : l.map ρ = r := h

/-- All operations that do not look at memory. -/
theorem run_eqlNilP {t e : TypeId} (ht : P.underlying t = some (.pointer e)) (A : Option Addr) (w : World) : (Op.equal t (.pointer A) (.pointer none)).run P w = .ok A.isNone w := by
  unfold Op.equal
  show (Op.equalIn (9999 + 1) t _ _).run P w = _
  generalize 9999 = d
  cases A <;> simp [Op.equalIn, run_underlying ht]
theorem p_eqQ (hm : MemR E m w) {op : BinOp} {t t' e : TypeId} {x y : Operand} (neg : Bool) (hop : o.op = .binOp op t x y t') (hneg : op = if neg = true then .neq else .eql) (ht : P.underlying t = some (.pointer e)) (hy : isNilP y = true)
    (hV : VRs E vals [a.eval x]) (hr : pureSem (.eqQ neg) vals = some r) (hK : K r m) : OpOut P o a w (OpR E m w id K) := by
  obtain ⟨v, rfl, hv⟩ := VRs_l1 hV
  have ey : a.eval y = .pointer none := by
    unfold isNilP at hy
    split at hy
    · rfl
    · cases hy
  have hrun : ∀ A, a.eval x = .pointer A → (execOp a.eval o).run P w = .ok (.value (.bool (A.isNone != neg))) w := fun A e1 => by
    have hg : ∀ op w, (eqGuard op t x y (.pointer A) (.pointer none)).run P w = .ok () w := fun op w => by cases op <;> rfl
    cases neg
    · have h0 : op = .eql := hneg
      subst h0
      simp only [execOp, hop, e1, ey, Sem.run_bind, hg, Result.andThen_ok, binOp, run_eqlNilP ht, Sem.run_pure, Bool.bne_false]
    · have h0 : op = .neq := hneg
      subst h0
      simp only [execOp, hop, e1, ey, Sem.run_bind, hg, Result.andThen_ok, binOp, run_eqlNilP ht, Sem.run_pure, Bool.bne_true]
  simp only [pureSem] at hr
  split at hr
  · rename_i heq; cases heq; cases hr
    have e1 := VR_lit hv
    refine pure_out hm (hrun _ e1) (VR_mk rfl) ?_
    cases neg <;> exact hK
  · rename_i heq; cases heq; cases hr
    rw [VR] at hv
    obtain ⟨b, _, e1⟩ := hv
    refine pure_out hm (hrun _ e1) (VR_mk rfl) ?_
    cases neg <;> exact hK
  · rename_i heq; cases heq; cases hr
    rw [VR] at hv
    obtain ⟨b, _, e1, _⟩ := hv
    refine pure_out hm (hrun _ e1) (VR_mk rfl) ?_
    cases neg <;> exact hK
  · cases hr
theorem run_eqlNilI {t : TypeId} {ms : Array (String × TypeId)} (ht : P.underlying t = some (.interface ms)) (w : World) : (Op.equal t .nilIface .nilIface).run P w = .ok true w := by
  unfold Op.equal
  show (Op.equalIn (9999 + 1) t _ _).run P w = _
  generalize 9999 = d
  simp [Op.equalIn, run_underlying ht]
theorem run_eqlNilJ {t : TypeId} {ms : Array (String × TypeId)} (ht : P.underlying t = some (.interface ms)) (te : TypeId) (pe : Value) (w : World) : (Op.equal t (.iface te pe) .nilIface).run P w = .ok false w := by
  unfold Op.equal
  show (Op.equalIn (9999 + 1) t _ _).run P w = _
  generalize 9999 = d
  simp [Op.equalIn, run_underlying ht]
theorem p_eqI (hm : MemR E m w) {op : BinOp} {t t' : TypeId} {ms : Array (String × TypeId)} {x y : Operand} (neg : Bool) (hop : o.op = .binOp op t x y t') (hneg : op = if neg = true then .neq else .eql) (ht : P.underlying t = some (.interface ms)) (hy : isNilI y = true)
    (hV : VRs E vals [a.eval x]) (hr : pureSem (.eqI neg) vals = some r) (hK : K r m) : OpOut P o a w (OpR E m w id K) := by
  obtain ⟨v, rfl, hv⟩ := VRs_l1 hV
  obtain rfl : y = .const .nilIface := by
    unfold isNilI at hy
    split at hy
    · rfl
    · cases hy
  have ey : a.eval (.const .nilIface) = .nilIface := rfl
  simp only [pureSem] at hr
  split at hr
  · rename_i heq; cases heq; cases hr
    have e1 := VR_lit hv
    have hrun : (execOp a.eval o).run P w = .ok (.value (.bool (!neg))) w := by
      have hg : ∀ op w, (eqGuard op t x (.const .nilIface) .nilIface .nilIface).run P w = .ok () w := fun op w => by cases op <;> simp [eqGuard] <;> rfl
      cases neg
      · have h0 : op = .eql := hneg
        subst h0
        simp only [execOp, hop, e1, ey, Sem.run_bind, hg, Result.andThen_ok, binOp, run_eqlNilI ht, Sem.run_pure] <;> rfl
      · have h0 : op = .neq := hneg
        subst h0
        simp only [execOp, hop, e1, ey, Sem.run_bind, hg, Result.andThen_ok, binOp, run_eqlNilI ht, Sem.run_pure] <;> rfl
    exact pure_out hm hrun (VR_mk rfl) hK
  · rename_i te pe heq; cases heq; cases hr
    have e1 := VR_lit hv
    have hrun : (execOp a.eval o).run P w = .ok (.value (.bool neg)) w := by
      have hg : ∀ op w, (eqGuard op t x (.const .nilIface) (.iface te pe) .nilIface).run P w = .ok () w := fun op w => by cases op <;> rfl
      cases neg
      · have h0 : op = .eql := hneg
        subst h0
        simp only [execOp, hop, e1, ey, Sem.run_bind, hg, Result.andThen_ok, binOp, run_eqlNilJ ht, Sem.run_pure] <;> rfl
      · have h0 : op = .neq := hneg
        subst h0
        simp only [execOp, hop, e1, ey, Sem.run_bind, hg, Result.andThen_ok, binOp, run_eqlNilJ ht, Sem.run_pure] <;> rfl
    exact pure_out hm hrun (VR_mk rfl) hK
  · cases hr
theorem p_sl00 (hm : MemR E m w) {t e : TypeId} {x hi mx : Operand} {s : Nat} (hop : o.op = .slice t x none (some hi) (some mx)) (ht : P.underlying t = some (.slice e)) (hs : szOf P e = some s) (h1 : isZeroC hi = true) (h2 : isZeroC mx = true)
    (hV : VRs E vals [a.eval x]) (hr : pureSem .sl00 vals = some r) (hK : K r m) : OpOut P o a w (OpR E m w id K) := by
  obtain ⟨v, rfl, hv⟩ := VRs_l1 hV
  obtain ⟨j, hj, rfl⟩ := szOf_ok hs
  have hsize : ∀ w, (sizeOf e).run P w = .ok j.size w := fun w => by simp [sizeOf, typeInfo, hj]
  have ez : ∀ y, isZeroC y = true → a.eval y = .int .i64 0 := fun y hy => by
    unfold isZeroC at hy
    split at hy
    · rename_i n
      have h0 : n = 0 := by simpa using hy
      subst h0
      rfl
    · cases hy
  have hrun : ∀ A n cap, a.eval x = .slice A n cap → (execOp a.eval o).run P w = .ok (.value (.slice A 0 0)) w := fun A n cap hx => by
    have hb : ∀ y c, (Instr.sliceBound (.int .i64 0) y c).run P w = .ok 0 w := fun y c => run_bound w (l := 0) rfl (Nat.zero_le _) c
    have hbs : (Instr.sliceBounds true n cap none (some (.int .i64 0)) (some (.int .i64 0))).run P w = .ok (0, 0, 0) w := by
      unfold Instr.sliceBounds
      simp only [Sem.run_bind, hb, Result.andThen_ok, Sem.run_pure, if_true]
    simp only [execOp, hop, Instr.sliceAt, Instr.slice, hx, ez hi h1, ez mx h2, Sem.run_bind, run_underlying ht, Result.andThen_ok, Option.map_none, Option.map_some, hbs, hsize, Sem.run_pure, if_true, Nat.sub_self]
  have fin : ∀ A n cap, a.eval x = .slice A n cap → r = .sl 0 [] .exact → OpOut P o a w (OpR E m w id K) := by
    rintro A n cap e1 rfl
    refine pure_out hm (hrun _ _ _ e1) ?_ hK
    rw [VR]
    exact ⟨A, 0, rfl, Nat.le_refl _, rfl, rfl, .inl rfl⟩
  simp only [pureSem] at hr
  split at hr
  · rename_i heq; cases heq; cases hr
    rw [VR] at hv
    obtain ⟨A, cap, e1, _⟩ := hv
    exact fin _ _ _ e1 rfl
  · rename_i heq; cases heq; cases hr
    rw [VR] at hv
    obtain ⟨b, _, cap, e1, _⟩ := hv
    exact fin _ _ _ e1 rfl
  · rename_i heq; cases heq; cases hr
    rw [VR] at hv
    obtain ⟨b, _, cap, e1, _⟩ := hv
    exact fin _ _ _ e1 rfl
  · cases hr
theorem rdL_rdS {size : Nat} {y : V} {p : Nat × List V} (m : Mm) (h : rdL size y = some p) : rdS m size y = some p := by
  unfold rdL at h
  split at h
  · exact h
  · cases h

theorem pure_sound (hm : MemR E m w) {bx : Nat → Bool} (hc : cvOp P bx o = some (vo, args)) (hV : VRs E vals (args.map a.eval)) (hmem : vo.isMem = false) (hr : pureSem vo vals = some r) (hK : K r m) : OpOut P o a w (OpR E m w id K) := by
  unfold cvOp at hc
  cases hop : o.op <;> simp only [hop] at hc
  case move x => cases hc; exact p_mv hm (by simp [execOp, hop]) hV hr hK
  case assign x => cases hc; exact p_mv hm (by simp [execOp, hop]) hV hr hK
  case pick c x y => cases hc; exact p_pick hm hop hV hr hK
  case alloc t => rw [Option.map_eq_some_iff] at hc; obtain ⟨z, _, e⟩ := hc; cases e; cases hmem
  case box t x =>
    generalize mxOf bx o.dst = mb at hc
    cases mb
    · cases hc; cases hmem
    · cases hc; exact p_boxE hm hop hV hr hK
  case build t parts =>
    split at hc
    · rename_i fields z ht hz
      split at hc
      · rename_i hall
        rw [Option.map_eq_some_iff] at hc
        obtain ⟨pl, hpl, e⟩ := hc
        cases e
        exact p_build hm hop hz (.inl ⟨fields, ht, hall, hpl⟩) hV hr hK
      · cases hc
    · rename_i n e z ht hz
      rw [Option.map_eq_some_iff] at hc
      obtain ⟨s, hs, e'⟩ := hc
      cases e'
      exact p_build hm hop hz (.inr ⟨n, e, s, ht, hs, rfl⟩) hV hr hK
    · cases hc
  case buildSlice t n parts =>
    split at hc
    · rename_i e ht
      split at hc
      · rename_i s z hs hz
        split at hc
        · rename_i hn
          generalize bxOf bx o.dst = bb at hc
          cases bb
          · cases hc; exact p_mksl hm hop ht hs hz hn hV hr hK
          · cases hc; cases hmem
        · cases hc
      · cases hc
    · cases hc
  case load t x =>
    split at hc
    · cases hc; split at hmem <;> cases hmem
    · cases hc
  case store t x v => rw [Option.map_eq_some_iff] at hc; obtain ⟨z, _, e⟩ := hc; cases e; cases hmem
  case nilCheck x => cases hc; exact p_nilck hm hop hV hr hK
  case binOp op xt x y yt =>
    cases op <;> simp only at hc
    case eql =>
      split at hc
      · cases hc; exact p_bin hm hop hV hr hK
      · cases hc; exact p_bin hm hop hV hr hK
      · rename_i ht; cases hc; exact p_eqB hm false hop rfl ht hV hr hK
      · split at hc <;> cases hc; cases hmem
      · rename_i e ht
        split at hc
        · rename_i hy; cases hc; exact p_eqQ hm false hop rfl ht hy hV hr hK
        · cases hc
      · rename_i fs ht
        split at hc
        · rename_i h12
          rw [Option.map_eq_some_iff] at hc
          obtain ⟨l, hl, e⟩ := hc
          cases e
          exact p_eqP hm false hop rfl ht h12.1 h12.2 hl hV hr hK
        · cases hc
      · rename_i ms ht
        split at hc
        · rename_i hy; cases hc; exact p_eqI hm false hop rfl ht hy hV hr hK
        · cases hc
      · cases hc
    case neq =>
      split at hc
      · cases hc; exact p_bin hm hop hV hr hK
      · cases hc; exact p_bin hm hop hV hr hK
      · rename_i ht; cases hc; exact p_eqB hm true hop rfl ht hV hr hK
      · split at hc <;> cases hc; cases hmem
      · rename_i e ht
        split at hc
        · rename_i hy; cases hc; exact p_eqQ hm true hop rfl ht hy hV hr hK
        · cases hc
      · rename_i fs ht
        split at hc
        · rename_i h12
          rw [Option.map_eq_some_iff] at hc
          obtain ⟨l, hl, e⟩ := hc
          cases e
          exact p_eqP hm true hop rfl ht h12.1 h12.2 hl hV hr hK
        · cases hc
      · rename_i ms ht
        split at hc
        · rename_i hy; cases hc; exact p_eqI hm true hop rfl ht hy hV hr hK
        · cases hc
      · cases hc
    all_goals (cases hc; exact p_bin hm hop hV hr hK)
  case unOp op t x => cases hc; exact p_un hm hop hV hr hK
  case convert s d x =>
    split at hc
    · rename_i hs hd; cases hc; exact p_cvt hm hop hs hd hV hr hK
    · rename_i hs hd; cases hc; exact p_cvtS hm hop hs hd hV hr hK
    · rename_i e hs hd
      split at hc
      · rename_i he; cases hc; exact p_runes hm hop hs he hd hV hr hK
      · cases hc
    · cases hc
  case slice t x lo hi mx =>
    cases mx with
    | some mx =>
      cases lo with
      | some _ => simp only at hc; cases hc
      | none =>
        cases hi with
        | none => simp only at hc; cases hc
        | some hi =>
          simp only at hc
          split at hc
          · rename_i e ht
            split at hc
            · rename_i hz
              rw [Option.map_eq_some_iff] at hc
              obtain ⟨s, hs, e'⟩ := hc
              cases e'
              exact p_sl00 hm hop ht hs hz.1 hz.2 hV hr hK
            · cases hc
          · cases hc
    | none =>
      simp only at hc
      split at hc
      · rename_i e ht
        rw [Option.map_eq_some_iff] at hc
        obtain ⟨s, hs, e'⟩ := hc
        cases e'
        exact p_slc hm hop ht hs hV hr hK
      · rename_i ht
        cases hc
        exact p_slS hm hop ht hV hr hK
      · cases hc
  case fieldAddr t x i =>
    split at hc
    · rename_i fields ht
      split at hc
      · rename_i f hf
        split at hc
        · rename_i s hs
          split at hc
          · cases hc
          · rename_i h0
            cases hc
            exact p_fldA hm hop ht hf hs h0 hV hr hK
        · cases hc
      · cases hc
    · cases hc
  case field t x i =>
    split at hc
    · rename_i fields ht
      split at hc
      · rename_i f hf
        split at hc
        · rename_i s d hs hd
          cases hc
          exact p_fld hm hop ht hf hs hd hV hr hK
        · cases hc
      · cases hc
    · cases hc
  case indexAddr t x i =>
    split at hc
    · rename_i e ht
      rw [Option.map_eq_some_iff] at hc
      obtain ⟨s, hs, e'⟩ := hc
      cases e'
      exact p_ixA hm hop ht hs hV hr hK
    · rename_i n e ht
      rw [Option.map_eq_some_iff] at hc
      obtain ⟨s, hs, e'⟩ := hc
      cases e'
      exact p_ixAA hm hop ht hs hV hr hK
    · cases hc
  case index t x i =>
    split at hc
    · rename_i n e ht
      split at hc
      · rename_i s d hs hd
        cases hc
        exact p_ixV hm hop ht hs hd hV hr hK
      · cases hc
    · rename_i ht
      cases hc
      exact p_ixS hm hop ht hV hr hK
    · cases hc
  case makeSlice t l c =>
    split at hc
    · split at hc
      · split at hc
        · cases hc; cases hmem
        · cases hc
      · cases hc
    · cases hc
  case extract x i => cases hc; exact p_ext hm hop hV hr hK
  case makeFunc fn first cap =>
    cases fn <;> simp only at hc
    case func f =>
      split at hc
      · rename_i h0
        cases hc
        exact p_mkfn hm hop h0 hV hr hK
      · cases hc
    all_goals cases hc
  case call c =>
    split at hc
    · rename_i hcal
      split at hc
      · rename_i t ht
        split at hc
        · rename_i e hu
          split at hc
          · rename_i x hx
            cases hc
            exact p_len hm hop hcal ht hu hx hV hr hK
          · cases hc
        · rename_i hu
          split at hc
          · rename_i x hx
            cases hc
            exact p_lenS hm hop hcal ht hu hx hV hr hK
          · cases hc
        · cases hc
      · cases hc
    · split at hc
      · split at hc
        · split at hc
          · split at hc
            · split at hc
              · generalize bxOf bx o.dst = bb at hc
                generalize mxOf bx o.dst = mb at hc
                cases bb <;> cases mb <;> cases hc <;> cases hmem
              · cases hc
            · cases hc
          · cases hc
        · cases hc
      · cases hc
    · split at hc
      · split at hc
        · split at hc
          · split at hc
            · cases hc; cases hmem
            · cases hc
          · cases hc
        · cases hc
      · cases hc
    · split at hc
      · split at hc
        · split at hc
          · split at hc
            · split at hc
              · cases hc; cases hmem
              · cases hc
            · cases hc
          · cases hc
        · cases hc
      · cases hc
    · rename_i hcal
      split at hc
      · rename_i x y hx
        cases hc
        exact p_mn hm hop hcal hx hV hr hK
      · cases hc
    · rename_i hcal
      split at hc
      · rename_i x y hx
        cases hc
        exact p_mx hm hop hcal hx hV hr hK
      · cases hc
    · split at hc
      · by_cases hbb : bxOf bx o.dst = true ∧ mxOf bx o.dst = false
        · rw [if_pos hbb] at hc; cases hc; cases hmem
        · rw [if_neg hbb] at hc; cases hc; cases hmem
      · cases hc
    · cases hc; cases hmem
    · cases hc
  case makeMap t r =>
    cases r with
    | some r => simp only at hc; cases hc
    | none =>
      simp only at hc
      split at hc
      · rw [Option.map_eq_some_iff] at hc; obtain ⟨ks, _, e⟩ := hc; cases e; cases hmem
      · cases hc
  case lookup t x i ok =>
    split at hc
    · rw [Option.map_eq_some_iff] at hc; obtain ⟨ks, _, e⟩ := hc; cases e; cases hmem
    · cases hc
  case mapUpdate t x i v =>
    split at hc
    · rw [Option.map_eq_some_iff] at hc; obtain ⟨ks, _, e⟩ := hc; cases e; cases hmem
    · cases hc
  all_goals cases hc
end
end Go.Proofs.YtdefefeifcdogaaGreat
/-! The operations that look at memory, and all operations together. Nothing is proved of the program here. -/
namespace Go.Proofs.YtdefefeifcdogaaGreat
open Go.RowKit

section
variable {P : Program} {G : Ground} {E : Env} {m : Mm} {w : World} {o : Oper} {a : Act} {id base : Nat} {md : Option (List Nat)} {K : V → Mm → Prop} {vo : VO} {args : List Operand} {vals : List V} {r : V}

theorem m_alloc (hm : MemR E m w) (hi : id < m.next) (hφ : E.φ id = none) (ho : m.obj id = none) (hloc : ∀ k, E.loc id k = none) {t : TypeId} {z : List V} (hop : o.op = .alloc t) (hz : zeroV P t = some z)
    (h : K (.ptr id 0) (m.put id (.box z t))) : OpOut P o a w (OpR E m w id K) := by
  obtain ⟨i, zv, hi', hzi, hzr, _⟩ := zeroV_ok (E := E) hz
  obtain ⟨E', hs, hm', hφ'⟩ := hm.newBox hi hφ ho hloc hzr.all t
  refine .inl ⟨.pointer (some ⟨w.heap.size, 0, none⟩), _, ?_, _, _, E', h, hs, hm', by rw [VR]; exact ⟨_, hφ', rfl⟩⟩
  have hzero : (zeroValue t).run P w = .ok zv w := by simp [zeroValue, typeInfo, hi', hzi]
  simp only [execOp, hop, Instr.alloc, Sem.run_bind, hzero, Result.andThen_ok]
  simp [newVar, newRow]

theorem m_box (hm : MemR E m w) (hi : id < m.next) (hφ : E.φ id = none) (ho : m.obj id = none) (hloc : ∀ k, E.loc id k = none) {t : TypeId} {x : Operand} {v : V} (hop : o.op = .box t x) (hv : VR E v (a.eval x))
    (h : K (.ptr id 0) (m.put id (.box v.cells t))) : OpOut P o a w (OpR E m w id K) := by
  obtain ⟨E', hs, hm', hφ'⟩ := hm.newBox hi hφ ho hloc hv.cells.all t
  refine .inl ⟨.pointer (some ⟨w.heap.size, 0, none⟩), _, ?_, _, _, E', h, hs, hm', by rw [VR]; exact ⟨_, hφ', rfl⟩⟩
  simp only [execOp, hop, Instr.box, Sem.run_bind]
  simp [newVar, newRow]

theorem m_mk (hm : MemR E m w) (hi : id < m.next) (hφ : E.φ id = none) (ho : m.obj id = none) (hloc : ∀ k, E.loc id k = none) {t e : TypeId} {x y : Operand} {i : TypeInfo} {z : List V} (hop : o.op = .makeSlice t x y) (ht : P.underlying t = some (.slice e)) (hi' : P.info? e = some i) (hz : zeroV P e = some z)
    (hzl : z.length = i.size) (h0 : 0 < i.size) (hV : VRs E vals [a.eval x, a.eval y]) (h : sem P G id base md (.mk e i.size i.bytes z) vals m K) : OpOut P o a w (OpR E m w id K) := by
  obtain ⟨v, u, rfl, h1, h2⟩ := VRs_l2 hV
  simp only [sem] at h
  split at h
  · rename_i k l k' c heq
    cases heq
    obtain ⟨hl0, hlc, hcb, hc47, _, hK⟩ := h
    have e1 := VR_lit h1
    have e2 := VR_lit h2
    obtain ⟨i', zv, hi'', hzi, hzr, _⟩ := zeroV_ok (E := E) hz
    rw [hi'] at hi''
    cases hi''
    have hzs : zv.cells.size = i.size := by have := hzr.length; rw [Array.length_toList] at this; omega
    have hcells := zeros_ok hzr c.toNat (by omega)
    rw [hzl] at hcells
    obtain ⟨E', hs, hm', hφ'⟩ := hm.newBox hi hφ ho hloc hcells.all e
    refine .inl ⟨.slice (some ⟨w.heap.size, 0, none⟩) l.toNat c.toNat, _, ?_, _, _, E', hK, hs, hm', by rw [VR]; exact ⟨_, hφ', _, rfl, by omega, Nat.le_refl _⟩⟩
    have hwl : IntKind.i64.wrap l = l := IntWalk.i64_in _ (by omega)
    have hwc : IntKind.i64.wrap c = c := IntWalk.i64_in _ (by omega)
    have hsize : ∀ w, (sizeOf e).run P w = .ok i.size w := fun w => by simp [sizeOf, typeInfo, hi']
    have hzero : ∀ w, (zeroValue e).run P w = .ok zv w := fun w => by simp [zeroValue, typeInfo, hi', hzi]
    have hinfo : ∀ w, (typeInfo e).run P w = .ok i w := fun w => by simp [typeInfo, hi']
    have hcb' : (i.bytes : Int) * c ≤ 140737488355328 := by rw [Int.mul_comm]; exact hcb
    have hroom : c.toNat * i.bytes ≤ 140737488355328 := by
      have h3 : ((c.toNat * i.bytes : Nat) : Int) = c * i.bytes := by rw [Int.natCast_mul, int_nat (by omega)]
      omega
    have hrun : (Instr.makeSlice t (a.eval x) (a.eval y)).run P w = .ok (.slice (some ⟨w.heap.size, 0, none⟩) l.toNat c.toNat) (w.alloc (.cells ((Array.range (c.toNat * i.size)).map (zv.cells[· % zv.cells.size]!)) e)) := by
      unfold Instr.makeSlice
      rw [e1, e2]
      simp only [Sem.run_bind, run_underlying ht, Result.andThen_ok, asInt, asIntOf, Sem.run_pure, hinfo, hwl, hwc]
      have c1 : (decide (c < 0) || decide ((i.bytes : Int) * c > 2 ^ 48) || decide (l < 0) || decide (l > c)) = false := by
        simp only [Bool.or_eq_false_iff, decide_eq_false_iff_not]
        omega
      rw [c1]
      simp only [Bool.false_eq_true, if_false, Sem.run_bind, Sem.run_pure, Result.andThen_ok]
      have c2 : ∀ w, (askRoom (c.toNat * i.bytes)).run P w = .ok () w := fun w => by
        unfold askRoom roomBytes
        rw [if_neg (by omega)]; rfl
      simp only [c2, Result.andThen_ok, hsize]
      by_cases hn : c.toNat * i.size = 0
      · have e0 : ∀ zz : Array Value, (Array.range (c.toNat * i.size)).map (fun x => zz[x % zz.size]!) = #[] := fun zz => by rw [hn]; simp
        simp only [if_pos hn, Sem.run_pure, Result.andThen_ok, e0]
        simp [newRow]
      · simp only [if_neg hn, Sem.run_bind, hzero, Result.andThen_ok, Sem.run_pure]
        simp [newRow]
    simp only [execOp, hop, Sem.run_bind, hrun, Result.andThen_ok, Sem.run_pure]
  · exact h.elim

theorem run_isAgg {t : TypeId} {d : TypeDesc} (hd : P.underlying t = some d) : (isAgg t).run P w = .ok (isAggB P t) w := by
  unfold isAgg isAggB
  rw [hd]
  cases d <;> simp [run_underlying hd]
theorem run_ld1 {t : TypeId} {x : Operand} {d : TypeDesc} (hop : o.op = .load t x) (hd : P.underlying t = some d) (hb : isAggB P t = false) {b off : Nat} {v : Value} (hx : a.eval x = .pointer (some ⟨b, off, none⟩)) (hc : w.cell? ⟨b, off, none⟩ = some v) :
    (execOp a.eval o).run P w = .ok (.value v) w := by
  have hl : (load ⟨b, off, none⟩).run P w = .ok v w := by simp [load, Sem.run, hc]
  simp only [execOp, hop, Instr.loadAt, hx, Instr.sureAddr, loadVar, Sem.run_bind, Sem.run_pure, Result.andThen_ok, run_isAgg hd, hb, Bool.false_eq_true, if_false, hl]
theorem run_ldA {t : TypeId} {x : Operand} {d : TypeDesc} {s : Nat} (hop : o.op = .load t x) (hd : P.underlying t = some d) (hs : szOf P t = some s) (hb : isAggB P t = true) {b off : Nat} {cs : List Value} (hl : cs.length = s) (hx : a.eval x = .pointer (some ⟨b, off, none⟩))
    (hc : ∀ (j : Nat) (v : Value), cs[j]? = some v → w.cell? ⟨b, off + j, none⟩ = some v) : (execOp a.eval o).run P w = .ok (.value (.agg cs.toArray)) w := by
  obtain ⟨i, hi, rfl⟩ := szOf_ok hs
  have hsize : ∀ w, (sizeOf t).run P w = .ok i.size w := fun w => by simp [sizeOf, typeInfo, hi]
  have hl' := run_loadCells_list (P := P) w ⟨b, off, none⟩ cs (fun j v hv => by rw [addr_at]; exact hc j v hv)
  rw [hl] at hl'
  simp only [execOp, hop, Instr.loadAt, hx, Instr.sureAddr, loadVar, Sem.run_bind, Sem.run_pure, Result.andThen_ok, run_isAgg hd, hb, if_true, hsize, hl']

theorem m_ld1 (hm : MemR E m w) {t : TypeId} {x : Operand} {d : TypeDesc} (hop : o.op = .load t x) (hd : P.underlying t = some d) (hb : isAggB P t = false) (hV : VRs E vals [a.eval x]) (h : sem P G id base md .ld1 vals m K) : OpOut P o a w (OpR E m w id K) := by
  obtain ⟨v, rfl, hv⟩ := VRs_l1 hV
  simp only [sem] at h
  split at h
  · rename_i xs off heq; cases heq
    rw [VR] at hv
    obtain ⟨b, o', e1, _, hat⟩ := hv
    split at h
    · rename_i u hu
      obtain ⟨c, hc, hr⟩ := hat.get hu
      exact pure_out hm (run_ld1 hop hd hb e1 (hm.stable _ _ _ hc)) hr h
    · exact h.elim
  · rename_i i off heq; cases heq
    rw [VR] at hv
    obtain ⟨b, hφ, e1⟩ := hv
    obtain ⟨_, h⟩ := h
    split at h
    · rename_i cs t' hobj
      obtain ⟨b', c, hφ', hh, hr, _⟩ := hm.box i cs t' hobj
      rw [hφ] at hφ'; cases hφ'
      split at h
      · rename_i u hu
        obtain ⟨c', hc, hr'⟩ := hr.get hu
        rw [List.getElem?_take] at hc
        split at hc
        case isFalse => cases hc
        rw [Array.getElem?_toList] at hc
        exact pure_out hm (run_ld1 hop hd hb e1 (by rw [cell_of_row w b off c t' (0, 0) hh]; exact hc)) hr' h
      · exact h.elim
    · exact h.elim
  · exact h.elim

theorem m_ldA (hm : MemR E m w) {t : TypeId} {x : Operand} {d : TypeDesc} {s : Nat} (hop : o.op = .load t x) (hd : P.underlying t = some d) (hs : szOf P t = some s) (hb : isAggB P t = true) (hV : VRs E vals [a.eval x]) (h : sem P G id base md (.ldA s) vals m K) : OpOut P o a w (OpR E m w id K) := by
  obtain ⟨v, rfl, hv⟩ := VRs_l1 hV
  simp only [sem] at h
  split at h
  · rename_i xs off heq; cases heq
    rw [VR] at hv
    obtain ⟨b, o', e1, _, hat⟩ := hv
    obtain ⟨hl, h⟩ := h
    obtain ⟨cs, hr, hc⟩ := (hat.drop off s).cells
    have hlen : cs.length = s := by rw [hr.length, List.length_take, List.length_drop]; omega
    refine pure_out hm (run_ldA hop hd hs hb hlen e1 fun j v hv => hm.stable _ _ _ (hc j v hv)) (by rw [VR]; exact ⟨_, rfl, hr⟩) h
  · rename_i i off heq; cases heq
    rw [VR] at hv
    obtain ⟨b, hφ, e1⟩ := hv
    obtain ⟨_, h⟩ := h
    split at h
    · rename_i cs t' hobj
      obtain ⟨b', c, hφ', hh, hr, _⟩ := hm.box i cs t' hobj
      rw [hφ] at hφ'; cases hφ'
      obtain ⟨hl, h⟩ := h
      have hr' := hr.slice off s
      have hlen : (((c.toList.take cs.length).drop off).take s).length = s := by rw [hr'.length, List.length_take, List.length_drop]; omega
      refine pure_out hm (run_ldA hop hd hs hb hlen e1 fun j v hv => ?_) (by rw [VR]; exact ⟨_, rfl, hr'⟩) h
      rw [List.getElem?_take] at hv
      split at hv
      · rw [List.getElem?_drop, List.getElem?_take] at hv
        split at hv
        · rw [Array.getElem?_toList] at hv; rw [cell_of_row w b _ c t' (0, 0) hh]; exact hv
        · cases hv
      · cases hv
    · exact h.elim
  · exact h.elim

theorem m_st (hm : MemR E m w) {t : TypeId} {x y : Operand} {s : Nat} (hop : o.op = .store t x y) (hs : szOf P t = some s) (hV : VRs E vals [a.eval x, a.eval y]) (h : sem P G id base md (.st s) vals m K) : OpOut P o a w (OpR E m w id K) := by
  obtain ⟨v, u, rfl, hv, hu⟩ := VRs_l2 hV
  obtain ⟨j, hj, rfl⟩ := szOf_ok hs
  simp only [sem] at h
  split at h
  · rename_i i off u' heq
    cases heq
    rw [VR] at hv
    obtain ⟨b, hφ, e1⟩ := hv
    obtain ⟨_, h⟩ := h
    split at h
    · rename_i cs t' hobj
      obtain ⟨hl, hone, hfit, hK⟩ := h
      obtain ⟨b', c, hφ', hh, hr, _⟩ := hm.box i cs t' hobj
      rw [hφ] at hφ'; cases hφ'
      have hcl := hu.cells
      have hsz : (a.eval y).cells.size = j.size := by have := hcl.length; rw [Array.length_toList] at this; omega
      have hcs : cs.length ≤ c.size := by have := hr.length; rw [List.length_take] at this; have := Array.length_toList (xs := c); omega
      have hfit' : off + (a.eval y).cells.toList.length ≤ c.size := by rw [Array.length_toList]; omega
      have hones := hcl.ones (List.all_eq_true.1 hone)
      have hst := run_storeCells_cells (P := P) b off (a.eval y).cells.toList 0 w
        (fun q hq => by rw [cell_of_row w b _ c t' (0, 0) hh]; simp; omega)
        (fun q hq => by simp [World.frozen?, hh]) hones
      rw [Nat.add_zero] at hst
      obtain ⟨hsb, c', hc', hcl'⟩ := setCells_spec b (a.eval y).cells.toList off w c t' (0, 0) hh hfit'
      obtain ⟨hstep, hm'⟩ := hm.setBox hobj hφ hsb hc' (fun c0 h0 => by
        rw [hh] at h0; cases h0
        have := congrArg List.length hcl'
        simp only [List.length_append, List.length_take, List.length_drop, Array.length_toList] at this
        have e2 := Array.length_toList (xs := (a.eval y).cells)
        omega) (by
        rw [hcl', show (splice cs off u.cells).length = cs.length by unfold splice; simp only [List.length_append, List.length_take, List.length_drop]; omega, take_splice _ _ _ _ (by have := Array.length_toList (xs := (a.eval y).cells); omega) (by have := Array.length_toList (xs := c); omega)]
        exact VRs.splice hr hcl off rfl)
      refine .inr (.inl ⟨_, ?_, _, _, E, hK, hstep.weaken (fun _ _ h => h.elim), hm', VR_mk rfl⟩)
      have hsize : ∀ w, (sizeOf t).run P w = .ok j.size w := fun w => by simp [sizeOf, typeInfo, hj]
      simp only [execOp, hop, Instr.storeAt, e1, Instr.sureAddr, storeVar, Sem.run_bind, Sem.run_pure, Result.andThen_ok, hsize, hsz, ne_eq, not_true_eq_false, if_false, hst]
    · exact h.elim
  · exact h.elim
end
end Go.Proofs.YtdefefeifcdogaaGreat
/-! append, calls, and all operations together. Nothing is proved of the program here. -/
namespace Go.Proofs.YtdefefeifcdogaaGreat
open Go.RowKit

section
variable {P : Program} {G : Ground} {E : Env} {m : Mm} {w : World} {o : Oper} {a : Act} {id base : Nat} {md : Option (List Nat)} {K : V → Mm → Prop} {vo : VO} {args : List Operand} {vals : List V} {r : V}

theorem run_app {c : Call} {x y : Operand} {t t2 : TypeId} {v : Value} {w' : World} (hop : o.op = .call c) (hc : c.callee = .builtin .append) (hx : c.args.toList = [x, y]) (ht : c.argTypes.toList = [t, t2])
    (h : (Builtin.append_ #[t, t2] o.type #[a.eval x, a.eval y]).run P w = .ok v w') : (execOp a.eval o).run P w = .ok (.value v) w' := by
  have hx0 : c.args = #[x, y] := by apply Array.ext'; exact hx
  have ht0 : c.argTypes = #[t, t2] := by apply Array.ext'; exact ht
  unfold execOp
  simp only [hop, resolve, hc, invoke, builtin, Sem.run_bind, Sem.run_pure, Result.andThen_ok, hx0, ht0, List.map_toArray, List.map_cons, List.map_nil, h]

theorem m_app (hm : MemR E m w) (hi : id < m.next) (ho : m.obj id = none) (hloc : ∀ k, E.loc id k = none) {c : Call} {x y : Operand} {t t2 e e2 : TypeId} {i : TypeInfo} {z : List V} (hop : o.op = .call c) (hc : c.callee = .builtin .append) (hx : c.args.toList = [x, y]) (hty : c.argTypes.toList = [t, t2])
    (ht : P.underlying t = some (.slice e)) (ht2 : P.underlying t2 = some (.slice e2)) (hi' : P.info? e = some i) (hz : zeroV P e = some z) (hzl : z.length = i.size) (h0 : 0 < i.size)
    (hV : VRs E vals [a.eval x, a.eval y]) (h : sem P G id base md (.app e i.size i.bytes) vals m K) : OpOut P o a w (OpR E m w id K) := by
  obtain ⟨v, u, rfl, hv, hu⟩ := VRs_l2 hV
  obtain ⟨i', zv, hi'', hzi, hzr, _⟩ := zeroV_ok (E := E) hz
  rw [hi'] at hi''; cases hi''
  have hzs : zv.cells.size = i.size := by have := hzr.length; rw [Array.length_toList] at this; omega
  simp only [sem] at h
  split at h
  · rename_i n xs k j ys k2 heq
    cases heq
    obtain ⟨hxl, hyl, hbytes, hmax, h⟩ := h
    have h63 : n + j ≤ 9223372036854775807 := by unfold maxLen at hmax; omega
    obtain ⟨news, hny, hnl, hsrc⟩ := src_of (P := P) hm hu hyl h0 ht2
    obtain ⟨olds, hox, hold⟩ := olds_of (P := P) hm hv hxl h0
    obtain ⟨A, cap, cs, e1, hn, htok, hclean, hcs, hcells⟩ := sl_cells hm hv hxl h0
    obtain ⟨_, _, _, _, _, _, hcy, _, _⟩ := sl_cells hm hu hyl h0
    have hol : olds.length = n * i.size := hox.length.trans hxl
    -- a row in a new block
    have grow : ∀ (t' : Nat), t' < m.next → ((m.obj t' = none ∧ t' = id) ∨ ∃ n' e' s', m.obj t' = some (.row n' e' s')) → (∀ q, n + j ≤ q → E.loc t' q = none) → cap < n + j →
        K (.sl (n + j) (xs ++ ys) (.own t')) (m.put t' (.row (n + j) e i.size)) → OpOut P o a w (OpR E m w id K) := by
      intro t' ht' hot hlt hlt2 hK
      have hr := run_append_grow_src (P := P) w t t2 o.type e i zv ht hi' hzi A n cap olds (by rw [← e1]; exact hold) (a.eval y) j news hsrc hlt2 (by omega) (growslice_fits hlt2 hbytes)
      have hcapge := grownCap_ge w (n + j) cap e
      obtain ⟨E', hs, hm', hl', hat⟩ := hm.rowNew (· = id) ht' hot hlt e i.size (grownCap w (n + j) cap e) hcapge
        ((olds ++ news).toArray ++ Builtin.zeroCells zv.cells (grownCap w (n + j) cap e - (n + j))) (by
          simp only [Array.size_append, List.size_toArray, List.length_append, size_zeroCells, hzs, hol, hnl]
          rw [← Nat.add_mul, ← Nat.add_mul]
          congr 1; omega)
      refine .inl ⟨_, _, run_app hop hc hx hty (by rw [e1]; exact hr), _, _, E', hK, hs, hm', ?_⟩
      rw [VR]
      refine ⟨_, _, rfl, hcapge, hl', clean_append hclean hcy, .inr ⟨w.heap.size, 0, rfl, hat _ ?_⟩⟩
      rw [Array.toList_append, List.take_append_of_le_length (by simp [hol, hnl, Nat.add_mul]), List.take_of_length_le (by simp [hol, hnl, Nat.add_mul])]
      exact hox.append hny
    split at h
    · -- no room known
      have hcap : cap = n := htok
      subst hcap
      rcases Nat.eq_zero_or_pos j with hj | hj
      · subst hj
        have hnl0 : news = [] := List.eq_nil_of_length_eq_zero (by rw [hnl, Nat.zero_mul])
        have hyl0 : ys = [] := List.eq_nil_of_length_eq_zero (by rw [hyl, Nat.zero_mul])
        subst hnl0
        subst hyl0
        rw [Nat.add_zero, List.append_nil] at h
        obtain ⟨E', hs, hm', hl'⟩ := hm.rowHere (t := id) hi ho hloc (A := A) cap e i.size
        have hrun : (Builtin.append_ #[t, t2] o.type #[a.eval x, a.eval y]).run P w = .ok (.slice A cap cap) w := by
          rw [e1]
          rcases hsrc.kind with ⟨e', hk⟩ | hk <;> cases A <;> simp [Builtin.append_, run_underlying ht, run_underlying hk, sizeOf, typeInfo, hi', hsrc.len, hsrc.cells, storeCells]
        refine .inl ⟨_, _, run_app hop hc hx hty hrun, _, _, E', h, hs, hm', ?_⟩
        have hv' := hv.mono hs.le
        rw [e1] at hv'
        rw [VR] at hv' ⊢
        obtain ⟨A', cap', e2, hn', _, hp, hx'⟩ := hv'
        cases e2
        exact ⟨A, cap, rfl, hn', hl', hp, hx'⟩
      · exact grow id hi (.inl ⟨ho, rfl⟩) (fun q _ => hloc q) (by omega) h
    · rename_i t'
      obtain ⟨_, h⟩ := h
      split at h
      · rename_i n' e' s' hobj
        obtain ⟨rfl, rfl, rfl, hK⟩ := h
        have ht' : t' < m.next := hm.lt hobj
        obtain ⟨A', cap', hl', hfree, hnc, hblk⟩ := hm.row t' n' e' i.size hobj
        have htok' : E.loc t' n' = some (A, cap) := htok
        rw [hl'] at htok'
        cases htok'
        by_cases hroom : n' + j ≤ cap
        · rcases Nat.eq_zero_or_pos j with hj | hj
          · subst hj
            have hnl0 : news = [] := List.eq_nil_of_length_eq_zero (by rw [hnl, Nat.zero_mul])
            have hyl0 : ys = [] := List.eq_nil_of_length_eq_zero (by rw [hyl, Nat.zero_mul])
            subst hnl0
            subst hyl0
            rw [Nat.add_zero, List.append_nil] at hK
            have hrun : (Builtin.append_ #[t, t2] o.type #[a.eval x, a.eval y]).run P w = .ok (.slice A n' cap) w := by
              rw [e1]
              rcases hsrc.kind with ⟨e'', hk⟩ | hk <;> cases A <;> simp [Builtin.append_, run_underlying ht, run_underlying hk, sizeOf, typeInfo, hi', hsrc.len, hsrc.cells, storeCells, hn]
            have hput : m.put t' (.row n' e' i.size) = m := by
              unfold Mm.put
              have : (fun q => if q = t' then some (AObj.row n' e' i.size) else m.obj q) = m.obj := funext fun q => by
                by_cases hq : q = t'
                · rw [if_pos hq, hq, hobj]
                · rw [if_neg hq]
              rw [this]
            rw [hput] at hK
            exact .inl ⟨_, _, run_app hop hc hx hty hrun, _, _, E, hK, Step.refl _ _ _ _, hm, by rw [← e1]; exact hv⟩
          · obtain ⟨b, c', rfl, hh, hcsz, hMfree⟩ := hblk (by omega)
            have hfit : n' * i.size + news.length ≤ c'.size := by rw [hnl, hcsz, ← Nat.add_mul]; exact Nat.mul_le_mul_right _ hroom
            have hrun := run_append_room_src (P := P) w t t2 o.type e' i ht hi' b 0 n' cap (a.eval y) j news hsrc hroom
              (fun q hq => by rw [cell_of_row w b _ c' e' (0, 0) hh]; simp; omega) (fun q hq => by simp [World.frozen?, hh])
            rw [Nat.zero_add] at hrun
            obtain ⟨hsb, c2, hc2, hcl2⟩ := setCells_spec b news (n' * i.size) w c' e' (0, 0) hh hfit
            obtain ⟨E', hs, hm', hl2, hat⟩ := hm.rowMore hobj hl' hh hcsz hMfree hj hroom hnl hsb hc2 hcl2 hfree
            refine .inl ⟨_, _, run_app hop hc hx hty (by rw [e1]; exact hrun), _, _, E', hK, hs.weaken (fun _ _ h => h.elim), hm', ?_⟩
            rw [VR]
            refine ⟨_, _, rfl, hroom, hl2, clean_append hclean hcy, .inr ⟨b, 0, rfl, hat xs ys hxl ?_ hny⟩⟩
            rw [VR] at hv
            obtain ⟨A', cap', e2, _, _, _, hx'⟩ := hv
            rw [e1] at e2
            cases e2
            rcases hx' with rfl | ⟨b', o', e3, hat'⟩
            · rw [At]; trivial
            · cases e3; exact hat'
        · exact grow t' ht' (.inr ⟨n', e', i.size, hobj⟩) (fun q hq => hfree q (by omega)) (by omega) hK
      · exact h.elim
    · exact h.elim
  · exact h.elim

theorem m_appB (hm : MemR E m w) (hi : id < m.next) (hφ : E.φ id = none) (ho : m.obj id = none) (hloc : ∀ k, E.loc id k = none) {c : Call} {x y : Operand} {t t2 e e2 : TypeId} {i : TypeInfo} {z : List V} (hop : o.op = .call c) (hc : c.callee = .builtin .append) (hx : c.args.toList = [x, y]) (hty : c.argTypes.toList = [t, t2])
    (ht : P.underlying t = some (.slice e)) (ht2 : P.underlying t2 = some (.slice e2)) (hi' : P.info? e = some i) (hz : zeroV P e = some z) (h0 : 0 < i.size)
    (hV : VRs E vals [a.eval x, a.eval y]) (h : sem P G id base md (.appB e i.size i.bytes) vals m K) : OpOut P o a w (OpR E m w id K) := by
  obtain ⟨v, u, rfl, hv, hu⟩ := VRs_l2 hV
  obtain ⟨i', zv, hi'', hzi, hzr, _⟩ := zeroV_ok (E := E) hz
  rw [hi'] at hi''; cases hi''
  simp only [sem] at h
  split at h
  · rename_i n xs k y' heq
    cases heq
    split at h
    case h_2 => exact h.elim
    rename_i j ys hrd
    replace hrd : rdS m i.size u = some (j, ys) := by
      split at hrd
      · exact hrd
      · exact rdL_rdS m hrd
    obtain ⟨hxl, hbytes, hmax, rfl, h⟩ := h
    have h63 : n + j ≤ 9223372036854775807 := by unfold maxLen at hmax; omega
    obtain ⟨news, hny, hnl, hsrc⟩ := src_rd (P := P) hm hu hrd h0 ht2
    have hyl : ys.length = j * i.size := hny.length.symm.trans hnl
    obtain ⟨olds, hox, hold⟩ := olds_of (P := P) hm hv hxl h0
    obtain ⟨A, cap, cs, e1, hn, htok, hclean, hcs, hcells⟩ := sl_cells hm hv hxl h0
    have hol : olds.length = n * i.size := hox.length.trans hxl
    have hcap : cap = n := htok
    subst hcap
    split at h
    · rename_i hj
      subst hj
      have hnl0 : news = [] := List.eq_nil_of_length_eq_zero (by rw [hnl, Nat.zero_mul])
      subst hnl0
      have hrun : (Builtin.append_ #[t, t2] o.type #[a.eval x, a.eval y]).run P w = .ok (.slice A cap cap) w := by
        rw [e1]
        rcases hsrc.kind with ⟨e', hk⟩ | hk <;> cases A <;> simp [Builtin.append_, run_underlying ht, run_underlying hk, sizeOf, typeInfo, hi', hsrc.len, hsrc.cells, storeCells]
      exact .inl ⟨_, _, run_app hop hc hx hty hrun, _, _, E, h, Step.refl _ _ _ _, hm, by rw [← e1]; exact hv⟩
    · rename_i hj
      have hlt : cap < cap + j := by omega
      have hr := run_append_grow_src (P := P) w t t2 o.type e i zv ht hi' hzi A cap cap olds (by rw [← e1]; exact hold) (a.eval y) j news hsrc hlt (by omega) (growslice_fits hlt hbytes)
      have hcapge := grownCap_ge w (cap + j) cap e
      obtain ⟨E', hs, hm', hφ'⟩ := hm.drew.newBox (w := w.drew) hi hφ ho hloc (cs := xs ++ ys) (c := (olds ++ news).toArray ++ Builtin.zeroCells zv.cells (grownCap w (cap + j) cap e - (cap + j))) (by
        rw [Array.toList_append, List.take_append_of_le_length (by simp [hol, hnl, hxl, hyl]), List.take_of_length_le (by simp [hol, hnl, hxl, hyl])]
        exact hox.append hny) e
      refine .inl ⟨_, _, run_app hop hc hx hty (by rw [e1]; exact hr), _, _, E', h, { hs with drawn := Nat.le_trans (Nat.le_succ _) hs.drawn }, hm', ?_⟩
      rw [VR]
      exact ⟨_, hφ', _, rfl, Nat.le_refl _, hcapge⟩
  · exact h.elim

/-- A slice literal that may be written and grow. -/
theorem m_mkslB (hm : MemR E m w) (hi : id < m.next) (hφ : E.φ id = none) (ho : m.obj id = none) (hloc : ∀ k, E.loc id k = none) {t : TypeId} {n : Nat} {parts : Array (Nat × Operand)} (hop : o.op = .buildSlice t n parts) {e : TypeId} {s : Nat} {z : List V} (ht : P.underlying t = some (.slice e)) (hs : szOf P e = some s) (hz : zeroV P e = some z)
    (hn : n * s ≤ 16777216 ∧ z.length = s ∧ 0 < s) (hV : VRs E vals ((parts.toList.map (·.2)).map a.eval)) (h : sem P G id base md (.mkslB e n s (List.flatten (List.replicate n z)) (parts.toList.map fun p => (p.1 * s, s))) vals m K) : OpOut P o a w (OpR E m w id K) := by
  obtain ⟨i, zv, hi', hzi, hzr, hzc⟩ := zeroV_ok (E := E) hz
  obtain ⟨j, hj, rfl⟩ := szOf_ok hs
  simp only [sem] at h
  split at h
  · rename_i hl
    split at h
    · rename_i cs hcs
      have hps : (parts.map fun (i, x) => (i, a.eval x)).toList.map (·.2) = (parts.toList.map (·.2)).map a.eval := by
        rw [Array.toList_map, List.map_map, List.map_map]; rfl
      have hzs : zv.cells.size = j.size := by have := hzr.length; rw [Array.length_toList] at this; omega
      have hz0 := zeros_ok hzr n (by omega)
      rw [hn.2.1] at hz0
      obtain ⟨cc, hcc, hres⟩ := fill_ok (place := fun i => some (i * j.size, j.size)) (parts.toList.map fun p => (p.1 * j.size, j.size)) vals (parts.map fun (i, x) => (i, a.eval x)).toList _ _ cs hl.1 (by rw [Array.toList_map, List.map_map, List.map_map]; rfl) (by rw [hps]; exact hV) hz0 hcs
      have hcsl : cs.length = n * j.size := by rw [vfill_length _ _ _ hcs, flat_length, hn.2.1]
      have hccs : cc.size = n * j.size := by have := hres.length; rw [Array.length_toList] at this; omega
      obtain ⟨E', hst, hm', hφ', hl'⟩ := hm.newBoxG hi hφ ho hloc hres.all e hccs
      refine .inl ⟨.slice (some ⟨w.heap.size, 0, none⟩) n n, w.alloc (.cells cc e), ?_, _, _, _, h, hst, hm', ?_⟩
      · have h1 : ¬ (n * j.size > 2 ^ 24) := by omega
        have hsize : ∀ w, (sizeOf e).run P w = .ok j.size w := fun w => by simp [sizeOf, typeInfo, hj]
        have hzero : ∀ w, (zeroValue e).run P w = .ok zv w := fun w => by simp [zeroValue, typeInfo, hi', hzi]
        have hrun : (Instr.buildSlice t n (parts.map fun (i, x) => (i, a.eval x))).run P w = .ok (.slice (some ⟨w.heap.size, 0, none⟩) n n) (w.alloc (.cells cc e)) := by
          unfold Instr.buildSlice
          simp only [Sem.run_bind, run_underlying ht, Result.andThen_ok, hsize, if_neg h1, Sem.run_pure]
          by_cases h0 : n * j.size = 0
          · have e0 : ∀ zz : Array Value, (Array.range (n * j.size)).map (fun x => zz[x % zz.size]!) = #[] := fun zz => by rw [h0]; simp
            rw [e0] at hcc
            simp only [if_pos h0, Sem.run_pure, Result.andThen_ok, e0, hcc]
            simp [newRow]
          · simp only [if_neg h0, Sem.run_bind, hzero, Sem.run_pure, Result.andThen_ok, hcc]
            simp [newRow]
        simp only [execOp, hop, Sem.run_bind, hrun, Result.andThen_ok, Sem.run_pure]
      · rw [VR]
        exact ⟨_, hφ', n, rfl, Nat.le_refl _, hl'⟩
    · exact h.elim
  · exact h.elim

theorem put_del_put (m : Mm) (i id : Nat) (x o : AObj) (h : i ≠ id) : ((m.put i x).del i).put id o = (m.del i).put id o := by
  unfold Mm.put Mm.del
  congr 1
  funext q
  by_cases h1 : q = id
  · rw [if_pos h1, if_pos h1]
  · rw [if_neg h1, if_neg h1]
    show (if q = i then none else (if q = i then some x else m.obj q)) = (if q = i then none else m.obj q)
    by_cases h2 : q = i
    · rw [if_pos h2, if_pos h2]
    · rw [if_neg h2, if_neg h2, if_neg h2]

/-- An append that moves the box. -/
theorem m_appM (hm : MemR E m w) (hi : id < m.next) (hφ : E.φ id = none) (ho : m.obj id = none) (hloc : ∀ k, E.loc id k = none) {c : Call} {x y : Operand} {t t2 e e2 : TypeId} {i : TypeInfo} {z : List V} (hop : o.op = .call c) (hc : c.callee = .builtin .append) (hx : c.args.toList = [x, y]) (hty : c.argTypes.toList = [t, t2])
    (ht : P.underlying t = some (.slice e)) (ht2 : P.underlying t2 = some (.slice e2)) (hi' : P.info? e = some i) (hz : zeroV P e = some z) (hzl' : z.length = i.size) (h0 : 0 < i.size)
    (hV : VRs E vals [a.eval x, a.eval y]) (h : sem P G id base md (.appM e i.size i.bytes) vals m K) : OpOut P o a w (OpR E m w id K) := by
  obtain ⟨v, u, rfl, hv, hu⟩ := VRs_l2 hV
  obtain ⟨i', zv, hi'', hzi, hzr, hzl⟩ := zeroV_ok (E := E) hz
  rw [hi'] at hi''; cases hi''
  have hzsz : zv.cells.size = i.size := by have := hzr.length; rw [Array.length_toList] at this; omega
  simp only [sem] at h
  split at h
  · rename_i x' y' heq
    cases heq
    split at h
    · rename_i j ys hrd
      obtain ⟨news, hny, hnl, hsrc⟩ := src_rd (P := P) hm hu hrd h0 ht2
      split at h
      · rename_i n xs k
        obtain ⟨rfl, hxl, hbytes, hmax, h⟩ := h
        have h63 : n + j ≤ 9223372036854775807 := by unfold maxLen at hmax; omega
        obtain ⟨olds, hox, hold⟩ := olds_of (P := P) hm hv hxl h0
        obtain ⟨A, cap, cs, e1, hn, htok, hclean, hcs, hcells⟩ := sl_cells hm hv hxl h0
        have hol : olds.length = n * i.size := hox.length.trans hxl
        have hyl : ys.length = j * i.size := hny.length.symm.trans hnl
        have hcap : cap = n := htok
        subst hcap
        split at h
        · rename_i hj
          subst hj
          have hnl0 : news = [] := List.eq_nil_of_length_eq_zero (by rw [hnl, Nat.zero_mul])
          subst hnl0
          have hrun : (Builtin.append_ #[t, t2] o.type #[a.eval x, a.eval y]).run P w = .ok (.slice A cap cap) w := by
            rw [e1]
            rcases hsrc.kind with ⟨e', hk⟩ | hk <;> cases A <;> simp [Builtin.append_, run_underlying ht, run_underlying hk, sizeOf, typeInfo, hi', hsrc.len, hsrc.cells, storeCells]
          exact .inl ⟨_, _, run_app hop hc hx hty hrun, _, _, E, h, Step.refl _ _ _ _, hm, by rw [← e1]; exact hv⟩
        · rename_i hj
          have hlt : cap < cap + j := by omega
          have hr := run_append_grow_src (P := P) w t t2 o.type e i zv ht hi' hzi A cap cap olds (by rw [← e1]; exact hold) (a.eval y) j news hsrc hlt (by omega) (growslice_fits hlt hbytes)
          have hcapge := grownCap_ge w (cap + j) cap e
          obtain ⟨E', hs, hm', hφ', hl'⟩ := hm.drew.newBoxG (w := w.drew) hi hφ ho hloc (cs := xs ++ ys) (c := (olds ++ news).toArray ++ Builtin.zeroCells zv.cells (grownCap w (cap + j) cap e - (cap + j))) (by
            rw [Array.toList_append, List.take_append_of_le_length (by simp [hol, hnl, hxl, hyl]), List.take_of_length_le (by simp [hol, hnl, hxl, hyl])]
            exact hox.append hny) e (k := grownCap w (cap + j) cap e) (s := i.size) (by
              have hzs : zv.cells.size = i.size := hzsz
              simp only [Array.size_append, List.size_toArray, List.length_append, size_zeroCells, hzs, hol, hnl]
              rw [← Nat.add_mul, ← Nat.add_mul]
              congr 1; omega)
          refine .inl ⟨_, _, run_app hop hc hx hty (by rw [e1]; exact hr), _, _, E', h, { hs with drawn := Nat.le_trans (Nat.le_succ _) hs.drawn }, hm', ?_⟩
          rw [VR]
          exact ⟨_, hφ', _, rfl, hcapge, hl'⟩
      · rename_i i0 n s
        obtain ⟨rfl, hbytes, hmax, h⟩ := h
        split at h
        · rename_i cs t' hobj
          obtain ⟨rfl, hcl, hones, hK⟩ := h
          rw [VR] at hv
          obtain ⟨b, hb, cap, e1, hn, hl⟩ := hv
          have h63 : n + j ≤ 9223372036854775807 := by unfold maxLen at hmax; omega
          obtain ⟨b', c', hb', hh, hr, hM⟩ := hm.box i0 cs t' hobj
          rw [hb] at hb'; cases hb'
          have hsz := hm.siz i0 cs t' _ _ cap b c' hobj hl hb hh
          have hne : i0 ≠ id := fun e => by subst e; rw [hobj] at ho; cases ho
          obtain ⟨olds, ho1, ho2, ho3⟩ := box_cells hm hobj hb (off := 0) (n := n * i.size) (by rw [Nat.zero_add]; exact hcl)
          rw [List.drop_zero] at ho1
          by_cases hroom : n + j ≤ cap
          · have hfit : n * i.size + news.length ≤ c'.size := by rw [hnl, hsz, ← Nat.add_mul]; exact Nat.mul_le_mul_right _ hroom
            have hrun := run_append_room_src (P := P) w t t2 o.type t' i ht hi' b 0 n cap (a.eval y) j news hsrc hroom
              (fun q hq => by rw [cell_of_row w b _ c' t' (0, 0) hh]; simp; omega) (fun q hq => by simp [World.frozen?, hh])
            rw [Nat.zero_add] at hrun
            obtain ⟨hsb, c2, hc2, hcl2⟩ := setCells_spec b news (n * i.size) w c' t' (0, 0) hh hfit
            have hlt : (c'.toList.take (n * i.size)).length = n * i.size := by rw [List.length_take, Array.length_toList]; omega
            have hnyl : ys.length = news.length := hny.length.symm
            have hcsl : (cs.take (n * i.size)).length = n * i.size := by rw [List.length_take]; omega
            obtain ⟨hs1, hm1⟩ := hm.setBox (cs' := cs.take (n * i.size) ++ ys) hobj hb hsb hc2 (fun c0 hc0 => by
              rw [hh] at hc0; cases hc0
              have := congrArg List.length hcl2
              simp only [List.length_append, List.length_take, List.length_drop, Array.length_toList] at this
              omega) (by
              rw [hcl2, List.length_append, hcsl, hnyl, List.take_append_of_le_length (by rw [List.length_append, hlt]; exact Nat.le_refl _), List.take_of_length_le (l := c'.toList.take (n * i.size) ++ news) (by rw [List.length_append, hlt]; exact Nat.le_refl _)]
              refine VRs.append ?_ hny
              have := hr.slice 0 (n * i.size)
              rw [List.drop_zero, List.drop_zero, List.take_take, Nat.min_eq_left hcl] at this
              exact this)
            obtain ⟨E', hs2, hm2, hφ2, hl2⟩ := hm1.rename (i := i0) (id := id) (s := i.size) (if_pos rfl) hb hl hi hφ ((if_neg (Ne.symm hne)).trans ho) hloc
            rw [put_del_put _ _ _ _ _ hne] at hs2 hm2
            refine .inl ⟨_, _, run_app hop hc hx hty (by rw [e1]; exact hrun), _, _, E', hK, (hs1.weaken (fun _ _ h => h.elim)).trans hs2, hm2, ?_⟩
            rw [VR]
            exact ⟨b, hφ2, cap, rfl, hroom, hl2⟩
          · have hlt : cap < n + j := by omega
            have hr2 := run_append_grow_src (P := P) w t t2 o.type t' i zv ht hi' hzi (some ⟨b, 0, none⟩) n cap olds (run_firstCells_some w.drew i.size n _ n cap olds ho2 ho3) (a.eval y) j news hsrc hlt (by omega) (growslice_fits hlt hbytes)
            have hcapge := grownCap_ge w (n + j) cap t'
            obtain ⟨hs1, hm1⟩ := hm.del i0
            have hcsl : (cs.take (n * i.size)).length = n * i.size := by rw [List.length_take]; omega
            obtain ⟨E', hs2, hm2, hφ2, hl2⟩ := hm1.drew.newBoxG (w := w.drew) (i := id) hi hφ (by
                show (if id = i0 then none else m.obj id) = none
                rw [if_neg (Ne.symm hne)]; exact ho) hloc (cs := cs.take (n * i.size) ++ ys) (c := (olds ++ news).toArray ++ Builtin.zeroCells zv.cells (grownCap w (n + j) cap t' - (n + j))) (by
              have hnyl : ys.length = news.length := hny.length.symm
              rw [Array.toList_append, List.length_append, hcsl, hnyl, List.take_append_of_le_length (by simp [ho2]), List.take_of_length_le (l := (olds ++ news).toArray.toList) (by simp [ho2])]
              exact ho1.append hny) t' (k := grownCap w (n + j) cap t') (s := i.size) (by
                have hzs : zv.cells.size = i.size := hzsz
                simp only [Array.size_append, List.size_toArray, List.length_append, size_zeroCells, hzs, ho2, hnl]
                rw [← Nat.add_mul, ← Nat.add_mul]
                congr 1; omega)
            refine .inl ⟨_, _, run_app hop hc hx hty (by rw [e1]; exact hr2), _, _, E', hK, (hs1.weaken (fun _ _ h => h.elim)).trans { hs2 with drawn := Nat.le_trans (Nat.le_succ _) hs2.drawn }, hm2, ?_⟩
            rw [VR]
            exact ⟨_, hφ2, _, rfl, hcapge, hl2⟩
        · exact h.elim
      · exact h.elim
    · exact h.elim
  · exact h.elim

theorem run_eqlNil {t e : TypeId} (ht : P.underlying t = some (.slice e)) (A : Option Addr) (n c : Nat) (w : World) : (Op.equal t (.slice A n c) (.slice none 0 0)).run P w = .ok A.isNone w := by
  unfold Op.equal
  show (Op.equalIn (9999 + 1) t _ _).run P w = _
  generalize 9999 = d
  cases A <;> simp [Op.equalIn, run_underlying ht]

theorem m_eqN (hm : MemR E m w) {op : BinOp} {t t' e : TypeId} {x y : Operand} (neg : Bool) (hop : o.op = .binOp op t x y t') (hneg : op = if neg = true then .neq else .eql) (ht : P.underlying t = some (.slice e)) (hy : isNilC y = true)
    (hV : VRs E vals [a.eval x]) (h : sem P G id base md (.eqN neg) vals m K) : OpOut P o a w (OpR E m w id K) := by
  obtain ⟨v, rfl, hv⟩ := VRs_l1 hV
  have ey : a.eval y = .slice none 0 0 := by
    unfold isNilC at hy
    split at hy
    · rfl
    · cases hy
  have hrun : ∀ A n c, a.eval x = .slice A n c → (execOp a.eval o).run P w = .ok (.value (.bool (A.isNone != neg))) w := fun A n c e1 => by
    have hg : ∀ op w, (eqGuard op t x y (.slice A n c) (.slice none 0 0)).run P w = .ok () w := fun op w => by cases op <;> rfl
    cases neg
    · have h0 : op = .eql := hneg
      subst h0
      simp only [execOp, hop, e1, ey, Sem.run_bind, hg, Result.andThen_ok, binOp, run_eqlNil ht, Sem.run_pure, Bool.bne_false]
    · have h0 : op = .neq := hneg
      subst h0
      simp only [execOp, hop, e1, ey, Sem.run_bind, hg, Result.andThen_ok, binOp, run_eqlNil ht, Sem.run_pure, Bool.bne_true]
  simp only [sem] at h
  split at h
  · rename_i n xs k heq; cases heq
    rw [VR] at hv
    obtain ⟨A, cap, e1, _, _, _, hx⟩ := hv
    refine pure_out hm (hrun _ _ _ e1) (VR_mk rfl) (h _ fun hne => ?_)
    rcases hx with rfl | ⟨b, off, rfl, _⟩
    · exact absurd rfl hne
    · simp
  · rename_i i off n cap heq; cases heq
    rw [VR] at hv
    obtain ⟨b, _, _, e1, _⟩ := hv
    refine pure_out hm (hrun _ _ _ e1) (VR_mk rfl) ?_
    cases neg <;> exact h
  · rename_i i n s heq; cases heq
    rw [VR] at hv
    obtain ⟨b, _, _, e1, _⟩ := hv
    refine pure_out hm (hrun _ _ _ e1) (VR_mk rfl) ?_
    cases neg <;> exact h
  · exact h.elim

mutual
theorem VR.norm : ∀ {v : V} {c : Value}, VR E v c → VR E v.norm c
  | .lit _, _, h => by rw [V.norm] <;> first | exact h | (intros; rename_i h; cases h)
  | .agg _, _, h => by rw [V.norm]; rw [VR] at h ⊢; obtain ⟨a, e, h1⟩ := h; exact ⟨a, e, VRs.norm h1⟩
  | .tup _, _, h => by rw [V.norm]; rw [VR] at h ⊢; obtain ⟨a, e, h1⟩ := h; exact ⟨a, e, VRs.norm h1⟩
  | .sl _ _ _, _, h => by rw [V.norm]; rw [VR] at h ⊢; obtain ⟨A, cap, e, hn, _, hx⟩ := h; exact ⟨A, cap, e, hn, trivial, hx⟩
  | .ptr _ _, _, h => by rw [V.norm] <;> first | exact h | (intros; rename_i h; cases h)
  | .bsl _ _ _ _, _, h => by rw [V.norm] <;> first | exact h | (intros; rename_i h; cases h)
  | .gsl _ _ _, _, h => by rw [V.norm] <;> first | exact h | (intros; rename_i h; cases h)
  | .ept _ _, _, h => by rw [V.norm] <;> first | exact h | (intros; rename_i h; cases h)
  | .fn _ _, _, h => by rw [V.norm] <;> first | exact h | (intros; rename_i h; cases h)
  | .mp _, _, h => by rw [V.norm] <;> first | exact h | (intros; rename_i h; cases h)
  | .yld _, _, h => by rw [V.norm] <;> first | exact h | (intros; rename_i h; cases h)
theorem VRs.norm : ∀ {v : List V} {c : List Value}, VRs E v c → VRs E (V.norms v) c
  | [], _, h => by rw [V.norms]; exact h
  | _ :: _, _, h => by rw [V.norms]; rw [VRs] at h ⊢; obtain ⟨c, cs, e, h1, h2⟩ := h; exact ⟨c, cs, e, VR.norm h1, VRs.norm h2⟩
end

theorem call_out (hG : G.ok E.M w) (hm : MemR E m w) {f : FuncId} {cargs : Array Value} (hrun : (execOp a.eval o).run P w = .ok (.enter f cargs) w) (hV : VRs E vals cargs.toList) (h : callSem P G base md f vals m K) : OpOut P o a w (OpR E m w id K) := by
  have key : ∀ vs' (Post : V → Mm → Prop), (vs' = vals ∨ vs' = V.norms vals) → SFn P G f vs' m Post → (∀ r m', Post r m' → K r m') → OpOut P o a w (OpR E m w id K) := by
    intro vs' Post hvs hf hP
    have hV' : VRs E vs' cargs.toList := by rcases hvs with rfl | rfl; exact hV; exact hV.norm
    refine .inr (.inr (.inl ⟨f, cargs, w, hrun, (hf E w cargs hG hm hV').mono ?_⟩))
    rintro e w' ⟨v, r, m', E', he, hPo, hs, hm', hr⟩
    exact ⟨v, he, r, m', E', hP r m' hPo, hs.weaken (fun _ _ h => h.elim), hm', hr⟩
  unfold callSem at h
  split at h
  · obtain ⟨vs', Post, hvs, hf, _, hP⟩ := h
    exact key vs' Post hvs hf hP
  · obtain ⟨vs', r, hvs, hf, hK⟩ := h
    exact key vs' _ hvs (hf m (fun _ _ => rfl) rfl) (by rintro r' m' ⟨rfl, rfl⟩; exact hK)

theorem callFunc_run {f : FuncId} (hc : callable P f = true) (args : Array Value) : (callFunc f args).run P w = .ok (.enter f args) w := by
  unfold callable at hc
  split at hc
  · rename_i fn hf
    rw [Bool.and_eq_true] at hc
    have h1 : (fn.name == "runtime.NumGoroutine") = false := by have := hc.2; simp only [bne_iff_ne, ne_eq] at this; simpa using this
    have h2 : fn.body.isNone = false := by have := hc.1; cases hb : fn.body <;> simp_all
    unfold callFunc
    simp only [Sem.run_bind, run_program, Result.andThen_ok, hf, h1, h2, Bool.false_eq_true, if_false, Sem.run_pure]
  · cases hc

theorem m_call (hG : G.ok E.M w) (hm : MemR E m w) {c : Call} {f : FuncId} (hop : o.op = .call c) (hc : c.callee = .value (.func f)) (hf : callable P f = true) (hV : VRs E vals (c.args.toList.map a.eval)) (h : sem P G id base md (.call f) vals m K) :
    OpOut P o a w (OpR E m w id K) := by
  refine call_out hG hm (cargs := c.args.map a.eval) ?_ (by rwa [Array.toList_map]) h
  have hev : a.eval (.func f) = .func (.func f) #[] #[] := rfl
  simp only [execOp, hop, resolve, hc, hev, Deferred.ofValue, Sem.run_bind, Sem.run_pure, Result.andThen_ok, invoke, Array.append_empty, Array.empty_append, callFunc_run hf]

theorem m_callB (hG : G.ok E.M w) (hm : MemR E m w) (hi : id < m.next) (hφ : E.φ id = none) (ho : m.obj id = none) (hloc : ∀ k, E.loc id k = none) {c : Call} {f : FuncId} (hop : o.op = .call c) (hc : c.callee = .value (.func f)) (hf : callable P f = true) (hV : VRs E vals (c.args.toList.map a.eval)) (h : sem P G id base md (.callB f) vals m K) :
    OpOut P o a w (OpR E m w id K) := by
  have hev : a.eval (.func f) = .func (.func f) #[] #[] := rfl
  have hrun : (execOp a.eval o).run P w = .ok (.enter f (c.args.map a.eval)) w := by
    simp only [execOp, hop, resolve, hc, hev, Deferred.ofValue, Sem.run_bind, Sem.run_pure, Result.andThen_ok, invoke, Array.append_empty, Array.empty_append, callFunc_run hf]
  simp only [sem] at h
  obtain ⟨vs', n, xs, e, hvs, hB, hK⟩ := h
  replace hB : SFn P G f vs' m (BPost n xs e m) := by
    unfold BFnM at hB
    split at hB
    · exact hB
    · exact hB m (fun _ _ => rfl) rfl
  have hV2 : VRs E vals (c.args.map a.eval).toList := by rwa [Array.toList_map]
  have hV' : VRs E vs' (c.args.map a.eval).toList := by rcases hvs with rfl | rfl; exact hV2; exact hV2.norm
  refine .inr (.inr (.inl ⟨f, _, w, hrun, (hB E w _ hG hm hV').mono ?_⟩))
  rintro e1 w' ⟨v, r, m', E', he, ⟨hold, hP⟩, hs, hm', hr⟩
  obtain ⟨hs2, hm2, hBk⟩ := forget hm hs hm' hold
  rcases hP with ⟨h0, rfl⟩ | ⟨h0, hcl, i, hi', rfl, hoi⟩
  · rw [if_pos h0] at hK
    refine ⟨v, he, _, m, _, hK, hs2.weaken (fun _ _ h => h.elim), hm2, ?_⟩
    rw [VR] at hr ⊢
    obtain ⟨A, cap, e2, hn, htok, hc2, _⟩ := hr
    exact ⟨A, cap, e2, hn, htok, hc2, .inl rfl⟩
  · rw [if_neg h0] at hK
    rw [VR] at hr
    obtain ⟨b, hb, cap', e2, hn, hcap⟩ := hr
    obtain ⟨b', c', hb', hh, hxs, hM⟩ := hm'.box i xs e hoi
    rw [hb] at hb'; cases hb'
    have hbi : BlkOf E' m' i b := .inl ⟨xs, e, hoi, hb⟩
    have hge : w.heap.size ≤ b := by
      rcases Nat.lt_or_ge b w.heap.size with hlt | hge
      · obtain ⟨j, hj⟩ := hs.blk i b hbi hlt
        have hj' : BlkOf E' m' j b := by
          rcases hj with ⟨cs1, t1, h1, h2⟩ | ⟨n1, e1, s1, cap1, h1, h2, h3⟩ | ⟨x1, h1, h2⟩
          · exact .inl ⟨cs1, t1, (hold j (hm.lt h1)).trans h1, hs.le.φ _ _ h2⟩
          · exact .inr (.inl ⟨n1, e1, s1, cap1, (hold j (hm.lt h1)).trans h1, hs.le.loc _ _ _ h2, h3⟩)
          · exact .inr (.inr ⟨x1, (hold j (hm.lt h1)).trans h1, hs.le.φ _ _ h2⟩)
        have hij := hm'.inj i j b hbi hj'
        subst hij
        rcases hj with ⟨_, _, h1, _⟩ | ⟨_, _, _, _, h1, _⟩ | ⟨_, h1, _⟩ <;> (have := hm.lt h1; omega)
      · exact hge
    have hφ2 : (E'.restr m.next).φ id = none := by
      show (if _ then _ else _) = _
      rw [if_pos hi, hs.oldφ id hi (fun h => h)]; exact hφ
    have hl2 : ∀ k, (E'.restr m.next).loc id k = none := fun k => by
      show (if _ then _ else _) = _
      rw [if_pos hi, (hs.oldloc id hi (fun h => h) ho).1 k]; exact hloc k
    obtain ⟨E3, hs3, hm3, hφ3⟩ := MemR.oldBox hs2 rfl hm2 hi hφ hφ2 ho hl2 (cs := xs) (c := c') (VRs.pureM (E := E') (E' := E'.restr m.next) (fun _ _ _ x => x) (clean_pures hcl) hxs) e hge hh hM (fun j hj => by
      have := hm'.inj i j b hbi (hBk j b hj)
      subst this
      rcases hj with ⟨_, _, h1, _⟩ | ⟨_, _, _, _, h1, _⟩ | ⟨_, h1, _⟩ <;> (have := hm.lt h1; omega))
    refine ⟨v, he, _, _, E3, hK, hs3, hm3, ?_⟩
    rw [VR]
    exact ⟨b, hφ3, cap', e2, hn, hcap⟩

theorem m_callv (hG : G.ok E.M w) (hm : MemR E m w) {c : Call} {x : Operand} (hop : o.op = .call c) (hc : c.callee = .value x) (hV : VRs E vals ((x :: c.args.toList).map a.eval)) (h : sem P G id base md .callv vals m K) :
    OpOut P o a w (OpR E m w id K) := by
  simp only [sem] at h
  split at h
  · rename_i f cs vs
    obtain ⟨hf, h⟩ := h
    rw [List.map_cons, VRs] at hV
    obtain ⟨c0, cs0, e, hfv, hvs⟩ := hV
    cases e
    rw [VR] at hfv
    obtain ⟨a0, e1, hcs⟩ := hfv
    refine call_out hG hm (cargs := c.args.map a.eval ++ a0) ?_ (by rw [Array.toList_append, Array.toList_map]; exact hvs.append hcs) h
    simp only [execOp, hop, resolve, hc, e1, Deferred.ofValue, Sem.run_bind, Sem.run_pure, Result.andThen_ok, invoke, Array.empty_append, callFunc_run hf]
  · rename_i i vs
    unfold yldSem at h
    split at h
    · obtain ⟨vs', Post, hvs', hY, _, hK⟩ := h
      rw [List.map_cons, VRs] at hV
      obtain ⟨c0, cs0, e, hfv, hvs⟩ := hV
      cases e
      rw [VR] at hfv
      obtain ⟨l, hφ, e1⟩ := hfv
      have hargs : VRs E vs' (c.args.map a.eval).toList := by
        rw [Array.toList_map]
        rcases hvs' with rfl | rfl
        · exact hvs
        · exact hvs.norm
      obtain ⟨fn, tmps, as, bd, hy, hr⟩ := hY E w (c.args.map a.eval) l hG hm hargs hφ
      refine .inr (.inr (.inr ⟨l, fn, tmps, as, bd, w, ?_, hr.mono fun e w' ⟨v, r, m', E', he, hP, hs, hm', hvr⟩ => ⟨v, he, r, m', E', hK r m' hP, hs.weaken (fun _ _ h => h.elim), hm', hvr⟩⟩))
      simp only [execOp, hop, resolve, hc, e1, Deferred.ofValue, Sem.run_bind, Sem.run_pure, Result.andThen_ok, invoke, Array.empty_append, Array.append_empty, hy]
    · exact h.elim
  · exact h.elim

theorem mapKs_ok {k e : TypeId} {ks : List Nat} (h : mapKs P k e = some ks) : KeyTy P k ks ∧ ∀ w, (zeroValue e).run P w = .ok (.int .i64 0) w := by
  unfold mapKs at h
  split at h
  · rename_i he hz
    have hzero : ∀ w, (zeroValue e).run P w = .ok (.int .i64 0) w := fun w => by
      rw [Option.bind_eq_some_iff] at hz
      obtain ⟨i, hi, hzi⟩ := hz
      simp [zeroValue, typeInfo, hi, hzi]
    refine ⟨?_, hzero⟩
    split at h
    · rename_i hk; cases h; exact .inl ⟨rfl, hk⟩
    · rename_i hk; cases h; exact .inr (.inl ⟨rfl, hk⟩)
    · rename_i hk; cases h; exact .inr (.inr (.inl ⟨rfl, hk⟩))
    · rename_i fs hk
      split at h
      · rename_i hst
        split at h
        · rename_i offs hf
          split at h
          · rename_i hh
            cases h
            exact .inr (.inr (.inr ⟨fs, offs, by rw [List.length_map]; exact hh.1, hk, hst, hf, by rw [List.length_map]; exact hh.2⟩))
          · cases h
        · cases h
      · cases h
    · cases h
  · cases h
theorem m_mkmap (hm : MemR E m w) (hi : id < m.next) (hφ : E.φ id = none) (ho : m.obj id = none) (hloc : ∀ k, E.loc id k = none) {t : TypeId} (hop : o.op = .makeMap t none) {ks : List Nat} (h : sem P G id base md (.mkmap ks) vals m K) : OpOut P o a w (OpR E m w id K) := by
  simp only [sem] at h
  split at h
  · obtain ⟨E', hs, hm', hφ'⟩ := hm.newOth hi hφ ho hloc (x := .map ks []) (o := .map #[] 0) ⟨#[], 0, rfl, rfl, fun x hx => by cases hx⟩
    refine .inl ⟨.map (some w.heap.size), _, ?_, _, _, E', h, hs, hm', by rw [VR]; exact ⟨_, hφ', rfl⟩⟩
    have e : (Instr.makeMap t none).run P w = .ok (.map (some w.heap.size)) (w.alloc (.map #[] 0)) := by
      simp [Instr.makeMap, Sem.run_bind, run_newObj_alloc, Result.andThen, Sem.run_pure]
    simp only [execOp, hop, Option.map_none, Sem.run_bind, e, Result.andThen_ok, Sem.run_pure]
  · exact h.elim
theorem m_mlk (hm : MemR E m w) {t kt et : TypeId} {x i : Operand} {ok : Bool} (hop : o.op = .lookup t x i ok) (ht : P.underlying t = some (.map kt et)) {ks : List Nat} (hks : mapKs P kt et = some ks) (hV : VRs E vals [a.eval x, a.eval i]) (h : sem P G id base md (.mlk ks ok) vals m K) : OpOut P o a w (OpR E m w id K) := by
  obtain ⟨v, u, rfl, hv, hu⟩ := VRs_l2 hV
  obtain ⟨hT, hz⟩ := mapKs_ok hks
  simp only [sem] at h
  split at h
  · rename_i q key heq
    cases heq
    split at h
    · rename_i ks' es k hob hk
      obtain ⟨rfl, hK⟩ := h
      rw [VR] at hv
      obtain ⟨b, hφ, e1⟩ := hv
      obtain ⟨b', o', hφ', hh, ar, clock, rfl, hL, hall⟩ := hm.oth q _ hob
      rw [hφ] at hφ'; cases hφ'
      obtain ⟨e2, hkk⟩ := key_val hk hu
      have hrun := run_lookup_mk (w := w) ht hT (hz w) hh hL hall hkk ok
      refine pure_out hm (v := if ok = true then .tuple #[.int .i64 ((mget es k).getD 0), .bool (mget es k).isSome] else .int .i64 ((mget es k).getD 0)) ?_ ?_ hK
      · simp only [execOp, hop, e1, e2, Sem.run_bind, hrun, Result.andThen_ok, Sem.run_pure]
      · unfold mans
        cases ok
        · exact VR_mk rfl
        · show VR E (.tup _) (.tuple _)
          rw [VR]
          refine ⟨_, rfl, ?_⟩
          rw [VRs]
          refine ⟨_, _, rfl, VR_mk rfl, ?_⟩
          rw [VRs]
          exact ⟨_, _, rfl, VR_mk rfl, by rw [VRs]⟩
    · exact h.elim
  · exact h.elim
theorem mset_kinds {ks : List Nat} {k : List MK} {n : Int} (hk : k.map MK.kind = ks) : ∀ {es : List (List MK × Int)}, (∀ x ∈ es, x.1.map MK.kind = ks) → ∀ x ∈ mset es k n, x.1.map MK.kind = ks
  | [], _, x, hx => by
    rw [mset, List.mem_singleton] at hx
    subst hx; exact hk
  | y :: es, h, x, hx => by
    rw [mset] at hx
    split at hx
    · rcases List.mem_cons.1 hx with rfl | hx
      · exact h y (List.mem_cons_self ..)
      · exact h x (List.mem_cons_of_mem _ hx)
    · rcases List.mem_cons.1 hx with rfl | hx
      · exact h _ (List.mem_cons_self ..)
      · exact mset_kinds hk (fun z hz => h z (List.mem_cons_of_mem _ hz)) x hx
theorem m_mput (hm : MemR E m w) {t kt et : TypeId} {x i y : Operand} (hop : o.op = .mapUpdate t x i y) (ht : P.underlying t = some (.map kt et)) {ks : List Nat} (hks : mapKs P kt et = some ks) (hV : VRs E vals [a.eval x, a.eval i, a.eval y]) (h : sem P G id base md (.mput ks) vals m K) : OpOut P o a w (OpR E m w id K) := by
  obtain ⟨v, u, z, rfl, hv, hu, hy⟩ := VRs_l3 hV
  obtain ⟨hT, _⟩ := mapKs_ok hks
  simp only [sem] at h
  split at h
  · rename_i q key n heq
    cases heq
    split at h
    · rename_i ks' es k hob hk
      obtain ⟨rfl, hK⟩ := h
      rw [VR] at hv
      obtain ⟨b, hφ, e1⟩ := hv
      obtain ⟨b', o', hφ', hh, ar, clock, rfl, hL, hall⟩ := hm.oth q _ hob
      rw [hφ] at hφ'; cases hφ'
      obtain ⟨e2, hkk⟩ := key_val hk hu
      have e3 := VR_lit hy
      obtain ⟨ar', clock', hrun, hL'⟩ := run_mput_mk (w := w) ht hT hh hL hall hkk n
      obtain ⟨hs, hm'⟩ := hm.setOth hob hφ (x' := .map ks' (mset es k n)) (o' := .map ar' clock') ⟨ar', clock', rfl, hL', mset_kinds hkk hall⟩
      refine .inr (.inl ⟨_, ?_, _, _, E, hK, hs.weaken (fun _ _ h => h.elim), hm', VR_mk rfl⟩)
      simp only [execOp, hop, e1, e2, e3, Sem.run_bind, hrun, Result.andThen_ok, Sem.run_pure]
    · exact h.elim
  · exact h.elim

theorem src_at (hm : MemR E m w) {y : V} {c : Value} (h : VR E y c) {j : Nat} {ys : List V} (hr : rdS m 1 y = some (j, ys)) :
    ∃ news A cap, c = .slice A j cap ∧ VRs E ys news ∧ news.length = j ∧ (j = 0 ∨ ∃ x, A = some x ∧ ∀ (q : Nat) (u : Value), news[q]? = some u → w.cell? (x.add q) = some u) ∧ ∀ u ∈ news, u.oneCell' = true := by
  unfold rdS at hr
  split at hr
  · split at hr
    · rename_i hl
      cases hr
      obtain ⟨A, cap, cs, rfl, hn, _, hp, h1, h2⟩ := sl_cells hm h hl (by decide)
      refine ⟨cs, A, cap, rfl, h1, by have := h1.length; omega, ?_, h1.ones (clean_iff.1 hp).2⟩
      rcases h2 with ⟨h3, _⟩ | ⟨b, o, rfl, _, h3⟩
      · exact .inl h3
      · exact .inr ⟨_, rfl, h3⟩
    · cases hr
  · split at hr
    · rename_i ho
      split at hr
      · rename_i hl
        cases hr
        rw [VR] at h
        obtain ⟨b, hφ, cap', rfl, _, _⟩ := h
        obtain ⟨olds, h1, h2, h3⟩ := box_cells hm ho hφ hl.1
        exact ⟨olds, _, cap', rfl, h1, by omega, .inr ⟨_, rfl, h3⟩, h1.ones (List.all_eq_true.1 hl.2)⟩
      · cases hr
    · cases hr
  · split at hr
    · rename_i ho
      split at hr
      · rename_i hl
        cases hr
        rw [VR] at h
        obtain ⟨b, hφ, cap', rfl, _, _⟩ := h
        obtain ⟨olds, h1, h2, h3⟩ := box_cells hm ho hφ (off := 0) (by rw [Nat.zero_add]; exact hl.1)
        rw [List.drop_zero] at h1
        exact ⟨olds, _, cap', rfl, h1, by omega, .inr ⟨_, rfl, h3⟩, h1.ones (List.all_eq_true.1 hl.2)⟩
      · cases hr
    · cases hr
  · cases hr
theorem put_self {m : Mm} {i : Nat} {o : AObj} (h : m.obj i = some o) : m.put i o = m := by
  obtain ⟨ob, nx⟩ := m
  unfold Mm.put
  congr 1
  funext j
  split
  · rename_i e; subst e; exact h.symm
  · rfl
theorem run_cpy {c : Call} {x y : Operand} {t t2 : TypeId} {v : Value} {w' : World} (hop : o.op = .call c) (hc : c.callee = .builtin .copy) (hx : c.args.toList = [x, y]) (ht : c.argTypes.toList = [t, t2])
    (h : (Builtin.copy_ #[t, t2] o.type #[a.eval x, a.eval y]).run P w = .ok v w') : (execOp a.eval o).run P w = .ok (.value v) w' := by
  have hx0 : c.args = #[x, y] := by apply Array.ext'; exact hx
  have ht0 : c.argTypes = #[t, t2] := by apply Array.ext'; exact ht
  unfold execOp
  simp only [hop, resolve, hc, invoke, builtin, Sem.run_bind, Sem.run_pure, Result.andThen_ok, hx0, ht0, List.map_toArray, List.map_cons, List.map_nil, h]
theorem m_cpy (hm : MemR E m w) {c : Call} {x y : Operand} {t t2 e : TypeId} (hop : o.op = .call c) (hc : c.callee = .builtin .copy) (hx : c.args.toList = [x, y]) (hty : c.argTypes.toList = [t, t2])
    (ht : P.underlying t = some (.slice e)) (hsz : (P.info? e).map (·.size) = some 1) (hV : VRs E vals [a.eval x, a.eval y]) (h : sem P G id base md .cpy vals m K) : OpOut P o a w (OpR E m w id K) := by
  obtain ⟨v, u, rfl, hv, hu⟩ := VRs_l2 hV
  simp only [sem] at h
  split at h
  · rename_i i off n cap y' heq
    cases heq
    split at h
    · rename_i cs t' j ys hobj hrd
      obtain ⟨hfit, hK⟩ := h
      rw [VR] at hv
      obtain ⟨b, hφ, cap', e1, hn, _⟩ := hv
      obtain ⟨news, A, cap2, e2, hny, hnl, hsrc, hones⟩ := src_at hm hu hrd
      obtain ⟨b', c', hφ', hh, hr, _⟩ := hm.box i cs t' hobj
      rw [hφ] at hφ'; cases hφ'
      have hmin : Nat.min j n = min n j := Nat.min_comm ..
      by_cases h0 : min n j = 0
      · have hrun := run_copy_none (P := P) w t t2 o.type e (some ⟨b, off, none⟩) A n cap' j cap2 ht hsz (by rw [hmin, h0])
        have hsame : m.put i (.box (splice cs off (ys.take (min n j))) t') = m := by
          rw [h0]
          refine put_self ?_
          rw [hobj]
          unfold splice
          simp
        rw [hsame] at hK
        refine .inl ⟨_, _, run_cpy hop hc hx hty (by rw [e1, e2]; exact hrun), _, _, E, hK, Step.refl _ _ _ _, hm, ?_⟩
        rw [h0]; exact VR_mk rfl
      · rcases hsrc with hj | ⟨x0, rfl, hcell⟩
        · exact absurd (by omega) h0
        · have hkl : (news.take (min n j)).length = min n j := by rw [List.length_take]; omega
          have hcs : cs.length ≤ c'.size := by have := hr.length; rw [List.length_take] at this; have := Array.length_toList (xs := c'); omega
          have hfit' : off + (news.take (min n j)).length ≤ c'.size := by rw [hkl]; omega
          have h1 : ∀ v ∈ news.take (min n j), v.oneCell' = true := fun v hv => hones v (List.mem_of_mem_take hv)
          have hrun := run_copy_cells (P := P) w t t2 o.type e b off n cap' x0 j cap2 (news.take (min n j)) ht hsz (by rw [hkl, hmin])
            (fun q u hq => by
              rw [List.getElem?_take] at hq
              split at hq
              · exact hcell q u hq
              · cases hq)
            (fun q hq => by rw [cell_of_row w b _ c' t' (0, 0) hh]; simp; omega) (fun q hq => by simp [World.frozen?, hh]) h1
          obtain ⟨hsb, c2, hc2, hcl⟩ := setCells_spec b (news.take (min n j)) off w c' t' (0, 0) hh hfit'
          have hyt : VRs E (ys.take (min n j)) (news.take (min n j)) := by have := hny.slice 0 (min n j); simpa using this
          have hyl : (ys.take (min n j)).length = min n j := by rw [← hyt.length, hkl]
          obtain ⟨hstep, hm'⟩ := hm.setBox (cs' := splice cs off (ys.take (min n j))) hobj hφ hsb hc2 (fun c0 hc0 => by
            rw [hh] at hc0; cases hc0
            have := congrArg List.length hcl
            simp only [List.length_append, List.length_take, List.length_drop, Array.length_toList] at this
            omega) (by
            rw [hcl, show (splice cs off (ys.take (min n j))).length = cs.length by unfold splice; rw [List.length_append, List.length_append, List.length_take, List.length_drop, hyl]; omega, take_splice _ _ _ _ (by rw [hkl]; omega) (by have := Array.length_toList (xs := c'); omega)]
            exact VRs.splice hr hyt off rfl)
          refine .inl ⟨_, _, run_cpy hop hc hx hty (by rw [e1, e2]; exact hrun), _, _, E, hK, hstep.weaken (fun _ _ h => h.elim), hm', ?_⟩
          rw [hkl]; exact VR_mk rfl
    · exact h.elim
  · exact h.elim

theorem run_clr {c : Call} {x : Operand} {t : TypeId} {v : Value} {w' : World} (hop : o.op = .call c) (hc : c.callee = .builtin .clear) (hx : c.args.toList = [x]) (ht : c.argTypes.toList = [t])
    (h : (Builtin.clear_ #[t] o.type #[a.eval x]).run P w = .ok v w') : (execOp a.eval o).run P w = .ok (.value v) w' := by
  have hx0 : c.args = #[x] := by apply Array.ext'; exact hx
  have ht0 : c.argTypes = #[t] := by apply Array.ext'; exact ht
  unfold execOp
  simp only [hop, resolve, hc, invoke, builtin, Sem.run_bind, Sem.run_pure, Result.andThen_ok, hx0, ht0, List.map_toArray, List.map_cons, List.map_nil, h]
theorem m_clr (hm : MemR E m w) {c : Call} {x : Operand} {t e : TypeId} {i : TypeInfo} {z : List V} (hop : o.op = .call c) (hc : c.callee = .builtin .clear) (hx : c.args.toList = [x]) (hty : c.argTypes.toList = [t])
    (ht : P.underlying t = some (.slice e)) (hi' : P.info? e = some i) (hz : zeroV P e = some z) (hzl : z.length = i.size) (h0 : 0 < i.size) (hV : VRs E vals [a.eval x]) (h : sem P G id base md (.clr i.size z) vals m K) : OpOut P o a w (OpR E m w id K) := by
  obtain ⟨v, rfl, hv⟩ := VRs_l1 hV
  simp only [sem] at h
  split at h
  · rename_i q off n cap heq
    cases heq
    split at h
    · rename_i cs t' hobj
      obtain ⟨⟨_, hfit⟩, hK⟩ := h
      rw [VR] at hv
      obtain ⟨b, hφ, cap', e1, hn, _⟩ := hv
      obtain ⟨b', c', hφ', hh, hr, _⟩ := hm.box q cs t' hobj
      rw [hφ] at hφ'; cases hφ'
      obtain ⟨i', zv, hi'', hzi, hzr, hzc⟩ := zeroV_ok (E := E) hz
      rw [hi'] at hi''
      cases hi''
      have hzero : ∀ w, (zeroValue e).run P w = .ok zv w := fun w => by simp [zeroValue, typeInfo, hi', hzi]
      by_cases hn0 : n = 0
      · subst hn0
        have hrun : (Builtin.clear_ #[t] o.type #[a.eval x]).run P w = .ok (.tuple #[]) w := by
          rw [e1]
          simp [Builtin.clear_, run_underlying ht]
        have hsame : m.put q (.box (splice cs off (List.flatten (List.replicate 0 z))) t') = m := by
          refine put_self ?_
          rw [hobj]
          unfold splice
          simp
        rw [hsame] at hK
        exact .inl ⟨_, _, run_clr hop hc hx hty hrun, _, _, E, hK, Step.refl _ _ _ _, hm, VR_mk rfl⟩
      · have hzs : zv.cells.size = i.size := by have := hzr.length; rw [Array.length_toList] at this; omega
        have hnews := zeros_ok hzr n (by omega)
        have hzc' : (Builtin.zeroCells zv.cells n).toList = ((Array.range (n * z.length)).map (zv.cells[· % zv.cells.size]!)).toList := by
          unfold Builtin.zeroCells; rw [hzs, hzl]
        rw [← hzc'] at hnews
        generalize hnw : (Builtin.zeroCells zv.cells n).toList = news at hnews
        have hfl : (List.flatten (List.replicate n z)).length = n * i.size := by rw [flat_length, hzl]
        have hkl : news.length = n * i.size := by rw [hnews.length, hfl]
        have h1 : ∀ v ∈ news, v.oneCell' = true := hnews.ones (by
          intro v hv
          obtain ⟨l, hl, hvl⟩ := List.mem_flatten.1 hv
          rw [List.eq_of_mem_replicate hl] at hvl
          exact (clean_iff.1 hzc).2 v hvl)
        have hcs : cs.length ≤ c'.size := by have := hr.length; rw [List.length_take] at this; have := Array.length_toList (xs := c'); omega
        have hfit' : off + news.length ≤ c'.size := by rw [hkl]; omega
        have hst := run_storeCells_cells (P := P) b off news 0 w
          (fun q hq => by rw [cell_of_row w b _ c' t' (0, 0) hh]; simp; omega)
          (fun q hq => by simp [World.frozen?, hh]) h1
        rw [Nat.add_zero] at hst
        have hrun : (Builtin.clear_ #[t] o.type #[a.eval x]).run P w = .ok (.tuple #[]) (w.setCells b off news) := by
          rw [e1]
          obtain ⟨k, rfl⟩ : ∃ k, n = k + 1 := ⟨n - 1, by omega⟩
          simp [Builtin.clear_, run_underlying ht, hzero, hnw, hst]
        obtain ⟨hsb, c2, hc2, hcl⟩ := setCells_spec b news off w c' t' (0, 0) hh hfit'
        obtain ⟨hstep, hm'⟩ := hm.setBox (cs' := splice cs off (List.flatten (List.replicate n z))) hobj hφ hsb hc2 (fun c0 hc0 => by
          rw [hh] at hc0; cases hc0
          have := congrArg List.length hcl
          simp only [List.length_append, List.length_take, List.length_drop, Array.length_toList] at this
          omega) (by
          rw [hcl, show (splice cs off (List.flatten (List.replicate n z))).length = cs.length by unfold splice; rw [List.length_append, List.length_append, List.length_take, List.length_drop, hfl]; omega, take_splice _ _ _ _ (by rw [hkl]; omega) (by have := Array.length_toList (xs := c'); omega)]
          exact VRs.splice hr hnews off rfl)
        exact .inl ⟨_, _, run_clr hop hc hx hty hrun, _, _, E, hK, hstep.weaken (fun _ _ h => h.elim), hm', VR_mk rfl⟩
    · exact h.elim
  · exact h.elim

/-- EVERY OPERATION. -/
theorem op_sound (hG : G.ok E.M w) (hm : MemR E m w) (hp : vo.makes = true → id < m.next ∧ E.φ id = none ∧ m.obj id = none ∧ ∀ k, E.loc id k = none) {bx : Nat → Bool} (hc : cvOp P bx o = some (vo, args)) (hV : VRs E vals (args.map a.eval))
    (h : sem P G id base md vo vals m K) : OpOut P o a w (OpR E m w id K) := by
  by_cases hmem : vo.isMem = false
  · have hp : ∃ r, pureSem vo vals = some r ∧ K r m := by
      cases vo <;> first
        | (cases hmem; done)
        | (simp only [sem] at h
           split at h
           · rename_i r hr; exact ⟨r, hr, h⟩
           · exact h.elim)
    obtain ⟨r, hr, hK⟩ := hp
    exact pure_sound hm hc hV hmem hr hK
  · have hc0 := hc
    unfold cvOp at hc
    cases hop : o.op <;> simp only [hop] at hc
    case move x => cases hc; exact absurd rfl hmem
    case assign x => cases hc; exact absurd rfl hmem
    case pick c x y => cases hc; exact absurd rfl hmem
    case alloc t =>
      rw [Option.map_eq_some_iff] at hc
      obtain ⟨z, hz, e⟩ := hc
      cases e
      obtain ⟨hi, hφ, ho, hl⟩ := hp rfl; exact m_alloc hm hi hφ ho hl hop hz h
    case box t x =>
      generalize mxOf bx o.dst = mb at hc
      cases mb
      case true => cases hc; exact absurd rfl hmem
      cases hc
      obtain ⟨v, rfl, hv⟩ := VRs_l1 hV
      obtain ⟨hi, hφ, ho, hl⟩ := hp rfl; exact m_box hm hi hφ ho hl hop hv h
    case build t parts =>
      split at hc
      · split at hc
        · rw [Option.map_eq_some_iff] at hc; obtain ⟨pl, _, e⟩ := hc; cases e; exact absurd rfl hmem
        · cases hc
      · rw [Option.map_eq_some_iff] at hc; obtain ⟨pl, _, e⟩ := hc; cases e; exact absurd rfl hmem
      · cases hc
    case buildSlice t n parts =>
      split at hc
      · rename_i e ht
        split at hc
        · rename_i s z hs hz
          split at hc
          · rename_i hn
            generalize bxOf bx o.dst = bb at hc
            cases bb
            · cases hc; exact absurd rfl hmem
            · cases hc
              obtain ⟨hi, hφ, ho, hl⟩ := hp rfl; exact m_mkslB hm hi hφ ho hl hop ht hs hz hn hV h
          · cases hc
        · cases hc
      · cases hc
    case load t x =>
      split at hc
      · rename_i d s hd hs
        by_cases hb : isAggB P t = true
        · rw [if_pos hb] at hc
          cases hc
          exact m_ldA hm hop hd hs hb hV h
        · rw [if_neg hb] at hc
          cases hc
          exact m_ld1 hm hop hd (by simpa using hb) hV h
      · cases hc
    case store t x y =>
      rw [Option.map_eq_some_iff] at hc
      obtain ⟨s, hs, e⟩ := hc
      cases e
      exact m_st hm hop hs hV h
    case nilCheck x => cases hc; exact absurd rfl hmem
    case binOp op xt x y yt =>
      cases op <;> simp only at hc
      case eql =>
        split at hc
        · cases hc; exact absurd rfl hmem
        · cases hc; exact absurd rfl hmem
        · cases hc; exact absurd rfl hmem
        · rename_i e ht
          split at hc
          · rename_i hy; cases hc; exact m_eqN hm false hop rfl ht hy hV h
          · cases hc
        · split at hc
          · cases hc; exact absurd rfl hmem
          · cases hc
        · split at hc
          · rw [Option.map_eq_some_iff] at hc; obtain ⟨l, _, e⟩ := hc; cases e; exact absurd rfl hmem
          · cases hc
        · split at hc
          · cases hc; exact absurd rfl hmem
          · cases hc
        · cases hc
      case neq =>
        split at hc
        · cases hc; exact absurd rfl hmem
        · cases hc; exact absurd rfl hmem
        · cases hc; exact absurd rfl hmem
        · rename_i e ht
          split at hc
          · rename_i hy; cases hc; exact m_eqN hm true hop rfl ht hy hV h
          · cases hc
        · split at hc
          · cases hc; exact absurd rfl hmem
          · cases hc
        · split at hc
          · rw [Option.map_eq_some_iff] at hc; obtain ⟨l, _, e⟩ := hc; cases e; exact absurd rfl hmem
          · cases hc
        · split at hc
          · cases hc; exact absurd rfl hmem
          · cases hc
        · cases hc
      all_goals (cases hc; exact absurd rfl hmem)
    case unOp op t x => cases hc; exact absurd rfl hmem
    case convert s d x =>
      split at hc
      · cases hc; exact absurd rfl hmem
      · cases hc; exact absurd rfl hmem
      · split at hc <;> cases hc; exact absurd rfl hmem
      · cases hc
    case makeMap t r =>
      cases r with
      | some r => simp only at hc; cases hc
      | none =>
        simp only at hc
        split at hc
        · rw [Option.map_eq_some_iff] at hc
          obtain ⟨ks, _, e⟩ := hc
          cases e
          obtain ⟨hi, hφ, ho, hl⟩ := hp rfl; exact m_mkmap hm hi hφ ho hl hop h
        · cases hc
    case lookup t x i ok =>
      split at hc
      · rename_i ht
        rw [Option.map_eq_some_iff] at hc
        obtain ⟨ks, hks, e⟩ := hc
        cases e
        exact m_mlk hm hop ht hks hV h
      · cases hc
    case mapUpdate t x i v =>
      split at hc
      · rename_i ht
        rw [Option.map_eq_some_iff] at hc
        obtain ⟨ks, hks, e⟩ := hc
        cases e
        exact m_mput hm hop ht hks hV h
      · cases hc
    case slice t x lo hi mx =>
      cases mx with
      | some mx =>
        cases lo with
        | some _ => simp only at hc; cases hc
        | none =>
          cases hi with
          | none => simp only at hc; cases hc
          | some hi =>
            simp only at hc
            split at hc
            · split at hc
              · rw [Option.map_eq_some_iff] at hc; obtain ⟨s, _, e⟩ := hc; cases e; exact absurd rfl hmem
              · cases hc
            · cases hc
      | none =>
        simp only at hc
        split at hc
        · rw [Option.map_eq_some_iff] at hc; obtain ⟨s, _, e⟩ := hc; cases e; exact absurd rfl hmem
        · cases hc; exact absurd rfl hmem
        · cases hc
    case fieldAddr t x i =>
      split at hc
      · split at hc
        · split at hc
          · split at hc <;> cases hc; exact absurd rfl hmem
          · cases hc
        · cases hc
      · cases hc
    case field t x i =>
      split at hc
      · split at hc
        · split at hc
          · cases hc; exact absurd rfl hmem
          · cases hc
        · cases hc
      · cases hc
    case indexAddr t x i =>
      split at hc
      · rw [Option.map_eq_some_iff] at hc; obtain ⟨s, _, e⟩ := hc; cases e; exact absurd rfl hmem
      · rw [Option.map_eq_some_iff] at hc; obtain ⟨s, _, e⟩ := hc; cases e; exact absurd rfl hmem
      · cases hc
    case index t x i =>
      split at hc
      · split at hc
        · cases hc; exact absurd rfl hmem
        · cases hc
      · cases hc; exact absurd rfl hmem
      · cases hc
    case makeSlice t l c =>
      split at hc
      · rename_i e ht
        split at hc
        · rename_i i z hi' hz
          split at hc
          · rename_i hzz
            cases hc
            obtain ⟨hi, hφ, ho, hl⟩ := hp rfl; exact m_mk hm hi hφ ho hl hop ht hi' hz hzz.1 hzz.2 hV h
          · cases hc
        · cases hc
      · cases hc
    case extract x i => cases hc; exact absurd rfl hmem
    case makeFunc fn first cap =>
      cases fn <;> simp only at hc
      case func f => split at hc <;> cases hc; exact absurd rfl hmem
      all_goals cases hc
    case call c =>
      split at hc
      · split at hc
        · split at hc
          · split at hc <;> cases hc; exact absurd rfl hmem
          · split at hc <;> cases hc; exact absurd rfl hmem
          · cases hc
        · cases hc
      · rename_i hcal
        split at hc
        · rename_i t t2 hty
          split at hc
          · rename_i e e2 ht ht2
            split at hc
            · rename_i i z hi' hz
              split at hc
              · rename_i hzz
                split at hc
                · rename_i s x hx
                  generalize bxOf bx o.dst = bb at hc
                  cases bb
                  · cases hc
                    obtain ⟨hi, _, ho, hloc⟩ := hp rfl; exact m_app hm hi ho hloc hop hcal hx hty ht ht2 hi' hz hzz.1 hzz.2 hV h
                  · generalize mxOf bx o.dst = mb at hc
                    cases mb
                    · cases hc
                      obtain ⟨hi, hφ, ho, hl⟩ := hp rfl; exact m_appB hm hi hφ ho hl hop hcal hx hty ht ht2 hi' hz hzz.2 hV h
                    · cases hc
                      obtain ⟨hi, hφ, ho, hl⟩ := hp rfl; exact m_appM hm hi hφ ho hl hop hcal hx hty ht ht2 hi' hz hzz.1 hzz.2 hV h
                · cases hc
              · cases hc
            · cases hc
          · cases hc
        · cases hc
      · rename_i hcal
        split at hc
        · rename_i t t2 hty
          split at hc
          · rename_i e e2 ht ht2
            split at hc
            · rename_i hsz
              split at hc
              · rename_i s x hx
                cases hc
                exact m_cpy hm hop hcal hx hty ht hsz hV h
              · cases hc
            · cases hc
          · cases hc
        · cases hc
      · rename_i hcal
        split at hc
        · rename_i t hty
          split at hc
          · rename_i e ht
            split at hc
            · rename_i i z hi' hz
              split at hc
              · rename_i hzz
                split at hc
                · rename_i s hx
                  cases hc
                  exact m_clr hm hop hcal hx hty ht hi' hz hzz.1 hzz.2 hV h
                · cases hc
              · cases hc
            · cases hc
          · cases hc
        · cases hc
      · split at hc <;> cases hc; exact absurd rfl hmem
      · split at hc <;> cases hc; exact absurd rfl hmem
      · rename_i f hcal
        split at hc
        · rename_i hf
          by_cases hbb : bxOf bx o.dst = true ∧ mxOf bx o.dst = false
          · rw [if_pos hbb] at hc
            cases hc
            obtain ⟨hi, hφ, ho, hl⟩ := hp rfl; exact m_callB hG hm hi hφ ho hl hop hcal hf hV h
          · rw [if_neg hbb] at hc
            cases hc
            exact m_call hG hm hop hcal hf hV h
        · cases hc
      · rename_i x _ hcal
        cases hc
        exact m_callv hG hm hop hcal hV h
      · cases hc
    all_goals cases hc
end
end Go.Proofs.YtdefefeifcdogaaGreat
