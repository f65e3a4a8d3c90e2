/- Strings are built: the library's builder, on values: a box that holds its own address and a buffer. Calls that are handed memory. -/
import Derived.Test.YtgabmmdllcbkoaaGreatDoorWk
import Derived.Test.YtgabmmdllcbkoaaGreatDoorVr
import Derived.Test.YtgabmmdllcbkoaaGreatDoorP1
import Derived.Test.YtgabmmdllcbkoaaGreatDoorShelf
set_option linter.unusedSimpArgs false
set_option linter.unusedVariables false
set_option maxRecDepth 100000
namespace Go.Proofs.YtgabmmdllcbkoaaGreatDoor
open Go.RowKit
def str (l : List UInt8) : V := .lit (.string ⟨l.toArray⟩)
theorem bd_size : ∃ j, Tryz.prog.info? 51 = some j ∧ j.size = 2 := by
  obtain ⟨j, hj, h⟩ := Option.map_eq_some_iff.1 Tryz.Builder_Extra_169.toX72.sizeBuilder
  exact ⟨j, hj, h⟩
theorem bd_lies {n : Nat} (h : 2 ≤ n) : liesAt Tryz.prog Tryz.prog.depth 51 (n / Tryz.prog.cellsOf 51) 0 51 1 = true := by
  have hc : Tryz.prog.cellsOf 51 = 2 := by kernel_rfl
  have hn : 1 ≤ n / 2 := by omega
  have hd : Tryz.prog.depth = (2 * (Tryz.prog.types.size + Made.depth) + 1) + 1 := rfl
  rw [hd, hc]
  simp only [liesAt, Bool.or_eq_true]
  left
  rw [hd]
  simp [rowAt, hc, hn, sameLayout]
theorem bd_byte : ∃ i, Tryz.prog.info? 5 = some i ∧ i.zero = some (.int .u8 0) ∧ i.size = 1 ∧ i.bytes = 1 := by
  obtain ⟨i, h, h0, h1, h2⟩ := info_parts Tryz.Builder_Extra_169.infoByte
  exact ⟨i, h, h0, h1, h2⟩

set_option maxHeartbeats 1000000 in
set_option maxRecDepth 100000 in
theorem cc_used (b : Nat) (w : World) (h0 : w.cell? ⟨b, 0, none⟩ = some (.pointer (some ⟨b, 0, none⟩))) :
    Calls Tryz.prog 23 #[.pointer (some ⟨b, 0, none⟩)] w fun e w' => e = .returned (.tuple #[]) ∧ w' = w := by
  obtain ⟨j, hj, _⟩ := bd_size
  go_enter Tryz.func23, Tryz.ntmps23
  go_wp2
  rw [Lib.run_neq_ptr_same w _ Tryz.underlying48 hj]
  go_wp2
  go_end0
  exact ⟨rfl, rfl⟩

set_option maxHeartbeats 1000000 in
set_option maxRecDepth 100000 in
theorem cc_fresh (b : Nat) (w : World) (h0 : w.cell? ⟨b, 0, none⟩ = some (.pointer none)) {n : Nat} (hn : 2 ≤ n) (hsh : w.shape? b = some (51, n)) (hfz : w.frozen? ⟨b, 0, none⟩ = false) :
    Calls Tryz.prog 23 #[.pointer (some ⟨b, 0, none⟩)] w fun e w' => e = .returned (.tuple #[]) ∧ w' = w.setCell ⟨b, 0, none⟩ (.pointer (some ⟨b, 0, none⟩)) := by
  obtain ⟨j, hj, hjs⟩ := bd_size
  go_enter Tryz.func23, Tryz.ntmps23
  go_wp2
  rw [Lib.run_to_unsafe w ⟨b, 0, none⟩ Tryz.underlying48 Tryz.underlying84 hj (by rw [hjs]; decide) hsh (by show 0 < n; omega)]
  simp only [Result.andThen]
  rw [Oper.upon_value]
  go_wp2
  rw [run_callFunc_extern Tryz.func35 (by kernel_rfl) (by kernel_rfl) (by kernel_rfl) (e := Extern.AbiNoEscape.same) (by kernel_rfl)]
  rw [Lib.run_noEscape]
  simp only [Result.andThen]
  rw [Oper.upon_value]
  go_wp2
  rw [Lib.run_from_unsafe w ⟨b, 0, none⟩ Tryz.underlying84 Tryz.underlying48 hj hsh (bd_lies hn)]
  simp only [Result.andThen]
  rw [Oper.upon_value]
  go_wp2
  go_end0
  exact ⟨rfl, rfl⟩

theorem wpList_append_exact {P : Program} {w : World} {ops : Array Oper} {rest : List Oper} {o : Oper} {a : Act} {Q : Exit → Act → World → Prop} (hgd : o.guard = none) (sl x : Operand) (t u : TypeId)
    (ho : o.op = .call { callee := .builtin .append, args := #[sl, x], argTypes := #[t, u] }) (v s v' : Value) (w' : World) (hs : a.eval sl = v) (hx : a.eval x = s)
    (hr : ∀ ty, (Builtin.append_ #[t, u] ty #[v, s]).run P w = .ok v' w') (h : wpList P ops Q rest (a.put o.dst v') w') : wpList P ops Q (o :: rest) a w := by
  refine wpList_plain hgd fun K hK => ?_
  unfold Oper.wp execOp
  simp only [ho, resolve, invoke, builtin, Sem.run_bind, Sem.run_pure, Result.andThen_ok, List.map_toArray, List.map_cons, List.map_nil, hs, hx, hr]
  exact hK _ _ h

set_option maxHeartbeats 1000000 in
set_option maxRecDepth 100000 in
/-- WriteString: what it changes. -/
theorem ws_any (b : Nat) (c c2 : Array Value) (p v : Value) (s : ByteArray) (w w1 w2 : World) (ao : Option Addr) (n' cap' : Nat) (hb : w.heap[b]? = some (.cells c 51 (0, 0))) (h0 : c[0]? = some p) (h1 : c[1]? = some v)
    (hp : (p = .pointer none ∧ w1 = w.setCell ⟨b, 0, none⟩ (.pointer (some ⟨b, 0, none⟩))) ∨ (p = .pointer (some ⟨b, 0, none⟩) ∧ w1 = w))
    (hr : ∀ ty, (Builtin.append_ #[49, 9] ty #[v, .string s]).run Tryz.prog w1 = .ok (.slice ao n' cap') w2) (hb2 : w2.heap[b]? = some (.cells c2 51 (0, 0))) (h2 : c2[1]? = some v) :
    Calls Tryz.prog 13 #[.pointer (some ⟨b, 0, none⟩), .string s] w fun e w' => e = .returned (.tuple #[.int .i64 s.size, .nilIface]) ∧ w' = w2.setCell ⟨b, 1, none⟩ (.slice ao n' cap') := by
  have hcc : Calls Tryz.prog 23 #[.pointer (some ⟨b, 0, none⟩)] w fun e w' => e = .returned (.tuple #[]) ∧ w' = w1 := by
    rcases hp with ⟨rfl, rfl⟩ | ⟨rfl, rfl⟩
    · have hlt := (Array.getElem?_eq_some_iff.1 h1).1
      exact cc_fresh b w (by rw [Lib.cell_of_heap hb]; exact h0) (n := c.size) (by omega) (by simp [World.shape?, hb]) (by simp [World.frozen?, hb])
    · exact cc_used b w1 (by rw [Lib.cell_of_heap hb]; exact h0)
  have c1 : w1.cell? ⟨b, 1, none⟩ = some v := by
    rcases hp with ⟨rfl, rfl⟩ | ⟨rfl, rfl⟩
    · rw [Lib.cell_of_heap (setCell_heap hb 0 _), Array.getElem?_setIfInBounds_ne (by decide)]; exact h1
    · rw [Lib.cell_of_heap hb]; exact h1
  have d2 : w2.cell? ⟨b, 1, none⟩ = some v := by rw [Lib.cell_of_heap hb2]; exact h2
  have f2 : w2.frozen? ⟨b, 1, none⟩ = false := Lib.frozen_of_heap hb2 1
  clear hp h0 h1 h2
  go_enter Tryz.func13, Tryz.ntmps13
  go_wp2_with (go_at_call 23; refine hcc.mono ?_)
  rintro e w1' ⟨rfl, rfl⟩
  go_wp2_with (at_builtin; refine wpList_append_exact rfl _ _ 49 9 rfl _ _ _ _ rfl rfl hr ?_)
  go_wp2
  go_ret2
  exact ⟨rfl, rfl⟩

set_option maxHeartbeats 1000000 in
set_option maxRecDepth 100000 in
/-- String of a builder that holds a byte: what it changes. -/
theorem bs_any (b g cap : Nat) (c cur : Array Value) (l : List UInt8) (w : World) (hb : w.heap[b]? = some (.cells c 51 (0, 0))) (h1 : c[1]? = some (.slice (some ⟨g, 0, none⟩) l.length cap)) (hg : w.heap[g]? = some (.cells cur 5 (0, 0)))
    (h0 : l ≠ []) (hc : l.length ≤ cap) (hm : l.length ≤ 1000000000) (hsz : cur.size = cap) (hl : cur.toList.take l.length = l.map fun x => Value.int .u8 x.toNat) :
    Calls Tryz.prog 16 #[.pointer (some ⟨b, 0, none⟩)] w fun e w' => e = .returned (.string ⟨l.toArray⟩) ∧ w' = w.drew.freeze ⟨g, 0, none⟩ l.length := by
  have hl0 : l.length ≠ 0 := by simpa using h0
  have c1 : w.drew.cell? ⟨b, 1, none⟩ = some (.slice (some ⟨g, 0, none⟩) l.length cap) := by
    have : w.drew.heap[b]? = some (.cells c 51 (0, 0)) := hb
    rw [Lib.cell_of_heap this]; exact h1
  have hSD : (Builtin.unsafeSliceData_ #[49] 69 #[.slice (some ⟨g, 0, none⟩) l.length cap]).run Tryz.prog w.drew = .ok (.pointer (some ⟨g, 0, none⟩)) w.drew :=
    Lib.run_unsafeSliceData_row _ _ _ _ _ _ (by omega)
  have hUS : (Builtin.unsafeString_ #[69, 3] 9 #[.pointer (some ⟨g, 0, none⟩), .int .i64 l.length]).run Tryz.prog w.drew = .ok (.string ⟨l.toArray⟩) (w.drew.freeze ⟨g, 0, none⟩ l.length) := by
    refine Lib.run_unsafeString_row w.drew 69 3 9 5 Tryz.underlying69 (by kernel_rfl) g cur.size (by have hg' : w.drew.heap[g]? = some (.cells cur 5 (0, 0)) := hg; simp [World.shape?, hg']) l h0 (by omega) (by omega) ?_
    intro j x hx
    have hg' : w.drew.heap[g]? = some (.cells cur 5 (0, 0)) := hg
    have hj : j < l.length := (List.getElem?_eq_some_iff.1 hx).1
    rw [Addr.add_lit, Nat.zero_add, Lib.cell_of_heap hg']
    have := congrArg (·[j]?) hl
    simp only [List.getElem?_take, if_pos hj, List.getElem?_map, hx, Array.getElem?_toList, Option.map_some] at this
    exact this
  go_enter Tryz.func16, Tryz.ntmps16
  go_wp2
  go_region
  all_goals (go_wp2; go_ret; exact ⟨rfl, rfl⟩)
end Go.Proofs.YtgabmmdllcbkoaaGreatDoor
namespace Go.Proofs.YtgabmmdllcbkoaaGreatDoor
open Go.RowKit
set_option linter.unusedSimpArgs false
set_option linter.unusedVariables false

def byV (l : List UInt8) : List V := l.map fun x => .lit (.int .u8 x.toNat)
def byC (l : List UInt8) : List Value := l.map fun x => .int .u8 x.toNat
theorem byV_length (l : List UInt8) : (byV l).length = l.length := List.length_map _
theorem byC_length (l : List UInt8) : (byC l).length = l.length := List.length_map _
theorem byteCells_is (l : List UInt8) : Go.byteCells ⟨l.toArray⟩ = byC l := rfl
theorem VRs_byV {E : Env} : ∀ l : List UInt8, VRs E (byV l) (byC l)
  | [] => by rw [byV, byC, List.map_nil, List.map_nil, VRs]
  | x :: l => by
    show VRs E (.lit _ :: byV l) (_ :: byC l)
    rw [VRs]
    exact ⟨_, _, rfl, VR_mk rfl, VRs_byV l⟩
theorem VRs_byV_eq {E : Env} : ∀ {l : List UInt8} {cs : List Value}, VRs E (byV l) cs → cs = byC l
  | [], cs, h => by rw [byV, List.map_nil, VRs] at h; exact h
  | x :: l, cs, h => by
    change VRs E (.lit _ :: byV l) cs at h
    rw [VRs] at h
    obtain ⟨c, d, e, h1, h2⟩ := h
    rw [e, VR_lit h1, VRs_byV_eq h2]; rfl
theorem byV_append (a b : List UInt8) : byV (a ++ b) = byV a ++ byV b := List.map_append ..

/-- The builder, not written yet. -/
def Bld0 (m : Mm) (i : Nat) : Prop := m.obj i = some (.box [.lit (.pointer none), .sl 0 [] .exact] 51)
/-- The builder i that holds the bytes l in the box j. -/
def Bld (m : Mm) (i j : Nat) (l : List UInt8) : Prop := m.obj i = some (.box [.ptr i 0, .gsl j l.length 1] 51) ∧ m.obj j = some (.box (byV l) 5) ∧ j ≠ i
/-- What WriteString leaves: the builder i, now with the box m.next; the box j is gone. -/
def WsP (m : Mm) (i j : Nat) (l : List UInt8) (n : Nat) (r : V) (m' : Mm) : Prop :=
  r = .tup [vint n, .lit .nilIface] ∧ Bld m' i m.next l ∧ m'.next = m.next + 1 ∧ ∀ q, q ≠ i → q ≠ j → q ≠ m.next → m'.obj q = m.obj q

theorem Step.room {X : Nat → Prop} {E : Env} {m : Mm} {w : World} : Step X E m w E ⟨m.obj, m.next + 1⟩ w :=
  ⟨.refl E, Nat.le_add_right _ _, fun _ _ _ => rfl, fun _ _ _ h => ⟨fun _ => rfl, h⟩, rfl, rfl, rfl, Nat.le_refl _, fun _ _ _ => rfl, fun i _ h _ => ⟨i, h⟩, fun _ _ _ h => .inl h⟩

theorem take_two {c : Array Value} {x y : Value} (h : c.toList.take 2 = [x, y]) : c[0]? = some x ∧ c[1]? = some y := by
  have h0 := congrArg (·[0]?) h
  have h1 := congrArg (·[1]?) h
  simp only [List.getElem?_take, Array.getElem?_toList] at h0 h1
  exact ⟨h0, h1⟩

/-- The last store of WriteString: the buffer. -/
theorem bd_put {E : Env} {m : Mm} {w : World} (hm : MemR E m w) {i id b n cap : Nat} {g : Addr} {p v : V} (ho : m.obj i = some (.box [p, v] 51)) (hb : E.φ i = some b) {c : Array Value} (hh : w.heap[b]? = some (.cells c 51 (0, 0)))
    (h0 : c[0]? = some (.pointer (some ⟨b, 0, none⟩))) (h1 : 1 < c.size) (hid : VR E (.gsl id n 1) (.slice (some g) n cap)) :
    Step NoX E m w E (m.put i (.box [.ptr i 0, .gsl id n 1] 51)) (w.setCell ⟨b, 1, none⟩ (.slice (some g) n cap)) ∧ MemR E (m.put i (.box [.ptr i 0, .gsl id n 1] 51)) (w.setCell ⟨b, 1, none⟩ (.slice (some g) n cap)) := by
  refine hm.setBox ho hb (setCell_same w b 1 _) (setCell_heap hh 1 _) (fun c0 hc0 => ?_) ?_
  · rw [hh] at hc0; cases hc0; simp
  · have e : (c.setIfInBounds 1 (.slice (some g) n cap)).toList.take 2 = [.pointer (some ⟨b, 0, none⟩), .slice (some g) n cap] := by
      apply List.ext_getElem?
      intro k
      rw [List.getElem?_take, Array.getElem?_toList]
      rcases k with _ | _ | k
      · rw [if_pos (by decide), Array.getElem?_setIfInBounds_ne (by decide), h0]; rfl
      · rw [if_pos (by decide), Array.getElem?_setIfInBounds_self_of_lt h1]; rfl
      · rw [if_neg (by omega)]; rfl
    show VRs E [_, _] ((c.setIfInBounds 1 (.slice (some g) n cap)).toList.take 2)
    rw [e, VRs]
    refine ⟨_, _, rfl, ?_, ?_⟩
    · rw [VR]; exact ⟨b, hb, rfl⟩
    · rw [VRs]
      exact ⟨_, _, rfl, hid, by rw [VRs]⟩
/-- The first store: its own address. -/
theorem bd_own {E : Env} {m : Mm} {w : World} (hm : MemR E m w) {i b : Nat} {p v : V} {y : Value} (ho : m.obj i = some (.box [p, v] 51)) (hb : E.φ i = some b) {c : Array Value} (hh : w.heap[b]? = some (.cells c 51 (0, 0)))
    (h1 : c[1]? = some y) (hv : VR E v y) :
    Step NoX E m w E (m.put i (.box [.ptr i 0, v] 51)) (w.setCell ⟨b, 0, none⟩ (.pointer (some ⟨b, 0, none⟩))) ∧ MemR E (m.put i (.box [.ptr i 0, v] 51)) (w.setCell ⟨b, 0, none⟩ (.pointer (some ⟨b, 0, none⟩))) := by
  have hlt := (Array.getElem?_eq_some_iff.1 h1).1
  refine hm.setBox ho hb (setCell_same w b 0 _) (setCell_heap hh 0 _) (fun c0 hc0 => ?_) ?_
  · rw [hh] at hc0; cases hc0; simp
  · have e : (c.setIfInBounds 0 (.pointer (some ⟨b, 0, none⟩))).toList.take 2 = [.pointer (some ⟨b, 0, none⟩), y] := by
      apply List.ext_getElem?
      intro k
      rw [List.getElem?_take, Array.getElem?_toList]
      rcases k with _ | _ | k
      · rw [if_pos (by decide), Array.getElem?_setIfInBounds_self_of_lt (by omega)]; rfl
      · rw [if_pos (by decide), Array.getElem?_setIfInBounds_ne (by decide), h1]; rfl
      · rw [if_neg (by omega)]; rfl
    show VRs E [_, _] ((c.setIfInBounds 0 (.pointer (some ⟨b, 0, none⟩))).toList.take 2)
    rw [e, VRs]
    refine ⟨_, _, rfl, ?_, ?_⟩
    · rw [VR]; exact ⟨b, hb, rfl⟩
    · rw [VRs]
      exact ⟨_, _, rfl, hv, by rw [VRs]⟩
theorem VR_ws {E : Env} (n : Nat) : VR E (.tup [vint n, .lit .nilIface]) (.tuple #[.int .i64 n, .nilIface]) := by
  rw [VR]
  refine ⟨_, rfl, ?_⟩
  rw [VRs]
  refine ⟨_, _, rfl, VR_mk rfl, ?_⟩
  rw [VRs]
  exact ⟨_, _, rfl, VR_mk rfl, by rw [VRs]⟩

set_option maxHeartbeats 1000000 in
/-- WriteString to a builder that has been written. -/
theorem ws_sfn {G : Ground} {m : Mm} {i j : Nat} {l s : List UInt8} (h : Bld m i j l) (hs : s ≠ []) (hl : l.length + s.length ≤ 1000000) : SFn Tryz.prog G 13 [.ptr i 0, str s] m (WsP m i j (l ++ s) s.length) := by
  intro E w cargs hG hm hv
  obtain ⟨hoi, hoj, hji⟩ := h
  obtain ⟨x, y, rfl, hx, hy⟩ := two_args hv
  obtain rfl := VR_lit hy
  rw [VR] at hx
  obtain ⟨b, hφ, rfl⟩ := hx
  obtain ⟨b', c, e, hh, hr, _⟩ := hm.box i _ _ hoi
  rw [hφ] at e; cases e
  obtain ⟨x, y, e2, hx, hy⟩ := VRs_two hr
  rw [VR] at hx
  rw [VR] at hy
  obtain ⟨b', e, rfl⟩ := hx
  rw [hφ] at e; cases e
  obtain ⟨g, hφj, cap, rfl, hn, hloc⟩ := hy
  obtain ⟨c0, c1⟩ := take_two e2
  obtain ⟨g', cur, e, hhg, hrj, hMj⟩ := hm.box j _ _ hoj
  rw [hφj] at e; cases e
  have hsz := hm.siz j _ _ _ _ cap g cur hoj hloc hφj hhg
  have hgb : g ≠ b := fun e => by subst e; exact hji (hm.inj j i g (.inl ⟨_, _, hoj, hφj⟩) (.inl ⟨_, _, hoi, hφ⟩))
  obtain ⟨ti, hi, hz, hs1, hby⟩ := bd_byte
  have hsl : (⟨s.toArray⟩ : ByteArray).size = s.length := rfl
  have src : ∀ W : World, Src Tryz.prog ti.size 9 (.string ⟨s.toArray⟩) s.length (byC s) W := fun W => by rw [hs1]; exact Src.ofString W Tryz.underlying9 ⟨s.toArray⟩
  have hcl := VRs_byV_eq hrj
  rw [byV_length] at hcl
  have hs0 : 0 < s.length := List.length_pos_iff.2 hs
  have hfr := hm.fresh m.next (Nat.le_refl _)
  have hm0 : MemR E ⟨m.obj, m.next + 1⟩ w := hm.skip 1
  have hjn : j ≠ m.next := fun e => by rw [← e] at hfr; rw [hoj] at hfr; exact nomatch hfr.2.2
  have hin : i ≠ m.next := fun e => by rw [← e] at hfr; rw [hoi] at hfr; exact nomatch hfr.2.2
  have hblt : b < w.heap.size := heap_lt hh
  have hc1 : 1 < c.size := (Array.getElem?_eq_some_iff.1 c1).1
  by_cases hroom : l.length + s.length ≤ cap
  · have hfit : l.length + (byC s).length ≤ cur.size := by rw [byC_length]; omega
    have hrun := fun ty => run_append_room_src (P := Tryz.prog) w 49 9 ty 5 ti Tryz.underlying49 hi g 0 l.length cap (.string ⟨s.toArray⟩) s.length (byC s) (src w) hroom
      (fun q hq => by rw [byC_length] at hq; rw [hs1, Lib.cell_of_heap hhg, Array.getElem?_eq_getElem (by omega)]; rfl) (fun q hq => Lib.frozen_of_heap hhg _)
    rw [hs1, Nat.mul_one, Nat.zero_add] at hrun
    obtain ⟨hsb, c2, hc2, hcl2⟩ := setCells_spec g (byC s) l.length w cur 5 (0, 0) hhg hfit
    refine (ws_any b c c _ _ ⟨s.toArray⟩ w w _ _ _ _ hh c0 c1 (.inr ⟨rfl, rfl⟩) hrun ((hsb.block b (Ne.symm hgb)).trans hh) c1).mono ?_
    rintro e w' ⟨rfl, rfl⟩
    obtain ⟨hs2, hm2⟩ := hm0.setBox (cs' := byV (l ++ s)) hoj hφj hsb hc2 (fun c0 hc0 => by
      rw [hhg] at hc0; cases hc0
      have := congrArg List.length hcl2
      simp only [List.length_append, List.length_take, List.length_drop, Array.length_toList] at this
      omega) (by
        rw [hcl2, byV_length, List.length_append, hcl, List.take_append_of_le_length (by simp [byC_length]), List.take_of_length_le (l := byC l ++ byC s) (by simp [byC_length]), byV_append]
        exact (VRs_byV l).append (VRs_byV s))
    obtain ⟨E', hs3, hm3, hφ3, hl3⟩ := hm2.rename (i := j) (id := m.next) (s := 1) (if_pos rfl) hφj hloc (Nat.lt_succ_self _) hfr.1 ((if_neg (Ne.symm hjn)).trans hfr.2.2) hfr.2.1
    rw [put_del_put _ _ _ _ _ hjn] at hs3 hm3
    have hoi3 : ((Mm.del ⟨m.obj, m.next + 1⟩ j).put m.next (.box (byV (l ++ s)) 5)).obj i = some (.box [.ptr i 0, .gsl j l.length 1] 51) := by
      show (if i = m.next then _ else (if i = j then _ else m.obj i)) = _
      rw [if_neg hin, if_neg (Ne.symm hji), hoi]
    obtain ⟨hs4, hm4⟩ := bd_put hm3 (id := m.next) (n := l.length + s.length) (cap := cap) (g := ⟨g, 0, none⟩) hoi3 (hs3.le.φ _ _ hφ) ((hsb.block b (Ne.symm hgb)).trans hh) c0 hc1 (by rw [VR]; exact ⟨g, hφ3, cap, rfl, hroom, hl3⟩)
    refine ⟨_, _, _, E', rfl, ⟨rfl, ⟨?_, ?_, Ne.symm hin⟩, rfl, fun q h1 h2 h3 => ?_⟩, (((Step.room.trans (hs2.weaken fun _ _ h => h.elim)).trans hs3).trans (hs4.weaken fun _ _ h => h.elim)).weaken fun q hq e => by subst e; omega, hm4, VR_ws _⟩
    · show (if i = i then _ else _) = _
      rw [if_pos rfl, List.length_append]
    · show (if m.next = i then _ else (if m.next = m.next then _ else _)) = _
      rw [if_neg (Ne.symm hin), if_pos rfl]
    · show (if q = i then _ else (if q = m.next then _ else (if q = j then _ else m.obj q))) = _
      rw [if_neg h1, if_neg h3, if_neg h2]
  · have hlt : cap < l.length + s.length := by omega
    have hold : (Builtin.firstCells ti.size l.length (.slice (some ⟨g, 0, none⟩) l.length cap)).run Tryz.prog w.drew = .ok (byC l).toArray w.drew := by
      refine run_firstCells_some w.drew ti.size l.length ⟨g, 0, none⟩ l.length cap (byC l) (by rw [byC_length, hs1, Nat.mul_one]) fun q u hu => ?_
      have hhg' : w.drew.heap[g]? = some (.cells cur 5 (0, 0)) := hhg
      rw [Addr.add_lit, Nat.zero_add, Lib.cell_of_heap hhg', ← Array.getElem?_toList]
      have hq : q < l.length := by rw [← byC_length l]; exact (List.getElem?_eq_some_iff.1 hu).1
      rw [← hcl, List.getElem?_take, if_pos hq] at hu
      exact hu
    have hrun := fun ty => run_append_grow_src (P := Tryz.prog) w 49 9 ty 5 ti _ Tryz.underlying49 hi hz (some ⟨g, 0, none⟩) l.length cap (byC l) hold (.string ⟨s.toArray⟩) s.length (byC s) (src w) hlt (by omega) (growslice_fits hlt (by rw [hby]; omega))
    have hcapge := grownCap_ge w (l.length + s.length) cap 5
    have hbd : (w.drew.alloc (.cells ((byC l ++ byC s).toArray ++ Builtin.zeroCells (Value.int .u8 0).cells (grownCap w (l.length + s.length) cap 5 - (l.length + s.length))) 5)).heap[b]? = some (.cells c 51 (0, 0)) := (heap_alloc_old w.drew _ hblt).trans hh
    refine (ws_any b c c _ _ ⟨s.toArray⟩ w w _ _ _ _ hh c0 c1 (.inr ⟨rfl, rfl⟩) hrun hbd c1).mono ?_
    rintro e w' ⟨rfl, rfl⟩
    obtain ⟨hs2, hm2⟩ := hm0.del j
    obtain ⟨E', hs3, hm3, hφ3, hl3⟩ := hm2.drew.newBoxG (w := w.drew) (i := m.next) (Nat.lt_succ_self _) hfr.1 ((if_neg (Ne.symm hjn)).trans hfr.2.2) hfr.2.1 (cs := byV (l ++ s))
      (c := (byC l ++ byC s).toArray ++ Builtin.zeroCells (Value.int .u8 0).cells (grownCap w (l.length + s.length) cap 5 - (l.length + s.length))) (by
        rw [Array.toList_append, byV_length, List.length_append, List.take_append_of_le_length (by simp [byC_length]), List.take_of_length_le (by simp [byC_length]), byV_append]
        exact (VRs_byV l).append (VRs_byV s)) 5 (k := grownCap w (l.length + s.length) cap 5) (s := 1) (by
        have hz1 : (Value.int IntKind.u8 0).cells.size = 1 := rfl
        simp only [Array.size_append, List.size_toArray, List.length_append, size_zeroCells, hz1, byC_length]
        omega)
    have hoi3 : ((Mm.del ⟨m.obj, m.next + 1⟩ j).put m.next (.box (byV (l ++ s)) 5)).obj i = some (.box [.ptr i 0, .gsl j l.length 1] 51) := by
      show (if i = m.next then _ else (if i = j then _ else m.obj i)) = _
      rw [if_neg hin, if_neg (Ne.symm hji), hoi]
    obtain ⟨hs4, hm4⟩ := bd_put hm3 (id := m.next) (n := l.length + s.length) (g := ⟨w.heap.size, 0, none⟩) hoi3 (hs3.le.φ _ _ hφ) hbd c0 hc1 (by rw [VR]; exact ⟨_, hφ3, _, rfl, hcapge, hl3⟩)
    refine ⟨_, _, _, E', rfl, ⟨rfl, ⟨?_, ?_, Ne.symm hin⟩, rfl, fun q h1 h2 h3 => ?_⟩, (((Step.room.trans (hs2.weaken fun _ _ h => h.elim)).trans { hs3 with }).trans (hs4.weaken fun _ _ h => h.elim)).weaken fun q hq e => by subst e; omega, hm4, VR_ws _⟩
    · show (if i = i then _ else _) = _
      rw [if_pos rfl, List.length_append]
    · show (if m.next = i then _ else (if m.next = m.next then _ else _)) = _
      rw [if_neg (Ne.symm hin), if_pos rfl]
    · show (if q = i then _ else (if q = m.next then _ else (if q = j then _ else m.obj q))) = _
      rw [if_neg h1, if_neg h3, if_neg h2]

set_option maxHeartbeats 1000000 in
/-- WriteString to a builder that has not been written. -/
theorem ws0_sfn {G : Ground} {m : Mm} {i : Nat} {s : List UInt8} (h : Bld0 m i) (hs : s ≠ []) (hl : s.length ≤ 1000000) : SFn Tryz.prog G 13 [.ptr i 0, str s] m (WsP m i i s s.length) := by
  intro E w cargs hG hm hv
  obtain ⟨x, y, rfl, hx, hy⟩ := two_args hv
  obtain rfl := VR_lit hy
  rw [VR] at hx
  obtain ⟨b, hφ, rfl⟩ := hx
  obtain ⟨b', c, e, hh, hr, _⟩ := hm.box i _ _ h
  rw [hφ] at e; cases e
  obtain ⟨x, y, e2, hx, hy0⟩ := VRs_two hr
  obtain rfl := VR_lit hx
  have hy := hy0
  rw [VR] at hy
  obtain ⟨A, cap, rfl, _, hcap, _, _⟩ := hy
  obtain rfl : cap = 0 := hcap
  obtain ⟨c0, c1⟩ := take_two e2
  obtain ⟨ti, hi, hz, hs1, hby⟩ := bd_byte
  have src : ∀ W : World, Src Tryz.prog ti.size 9 (.string ⟨s.toArray⟩) s.length (byC s) W := fun W => by rw [hs1]; exact Src.ofString W Tryz.underlying9 ⟨s.toArray⟩
  have hs0 : 0 < s.length := List.length_pos_iff.2 hs
  have hfr := hm.fresh m.next (Nat.le_refl _)
  have hm0 : MemR E ⟨m.obj, m.next + 1⟩ w := hm.skip 1
  have hin : i ≠ m.next := fun e => by rw [← e] at hfr; rw [h] at hfr; exact nomatch hfr.2.2
  have hblt : b < w.heap.size := heap_lt hh
  have hc1 : 1 < c.size := (Array.getElem?_eq_some_iff.1 c1).1
  obtain ⟨hs2, hm2⟩ := bd_own hm0 h hφ hh c1 hy0
  have hh1 := setCell_heap hh 0 (.pointer (some ⟨b, 0, none⟩))
  have hsz1 : (w.setCell ⟨b, 0, none⟩ (.pointer (some ⟨b, 0, none⟩))).heap.size = w.heap.size := (setCell_same w b 0 _).size
  generalize hw1 : w.setCell ⟨b, 0, none⟩ (.pointer (some ⟨b, 0, none⟩)) = w1 at *
  have c10 : (c.setIfInBounds 0 (.pointer (some ⟨b, 0, none⟩)))[0]? = some (.pointer (some ⟨b, 0, none⟩)) := Array.getElem?_setIfInBounds_self_of_lt (by omega)
  have c11 : (c.setIfInBounds 0 (.pointer (some ⟨b, 0, none⟩)))[1]? = some (.slice A 0 0) := (Array.getElem?_setIfInBounds_ne (by decide)).trans c1
  have hold : (Builtin.firstCells ti.size 0 (.slice A 0 0)).run Tryz.prog w1.drew = .ok ([] : List Value).toArray w1.drew := by
    cases A with
    | none => exact run_firstCells_none w1.drew ti.size 0 0 0
    | some a => exact run_firstCells_some w1.drew ti.size 0 a 0 0 [] (by simp) (fun q u hu => by simp at hu)
  have hlt : 0 < 0 + s.length := by omega
  have hrun := fun ty => run_append_grow_src (P := Tryz.prog) w1 49 9 ty 5 ti _ Tryz.underlying49 hi hz A 0 0 [] hold (.string ⟨s.toArray⟩) s.length (byC s) (src w1) hlt (by omega) (growslice_fits hlt (by rw [hby]; omega))
  have hcapge := grownCap_ge w1 (0 + s.length) 0 5
  have hbd : (w1.drew.alloc (.cells (([] ++ byC s).toArray ++ Builtin.zeroCells (Value.int .u8 0).cells (grownCap w1 (0 + s.length) 0 5 - (0 + s.length))) 5)).heap[b]? = some (.cells (c.setIfInBounds 0 (.pointer (some ⟨b, 0, none⟩))) 51 (0, 0)) := (heap_alloc_old w1.drew _ (by show b < w1.heap.size; omega)).trans hh1
  refine (ws_any b c _ _ _ ⟨s.toArray⟩ w w1 _ _ _ _ hh c0 c1 (.inl ⟨rfl, hw1.symm⟩) hrun hbd c11).mono ?_
  rintro e w' ⟨rfl, rfl⟩
  obtain ⟨E', hs3, hm3, hφ3, hl3⟩ := hm2.drew.newBoxG (w := w1.drew) (i := m.next) (Nat.lt_succ_self _) hfr.1 ((if_neg (Ne.symm hin)).trans hfr.2.2) hfr.2.1 (cs := byV s)
    (c := ([] ++ byC s).toArray ++ Builtin.zeroCells (Value.int .u8 0).cells (grownCap w1 (0 + s.length) 0 5 - (0 + s.length))) (by
      rw [Array.toList_append, byV_length, List.nil_append, List.take_append_of_le_length (by simp [byC_length]), List.take_of_length_le (by simp [byC_length])]
      exact VRs_byV s) 5 (k := grownCap w1 (0 + s.length) 0 5) (s := 1) (by
      have hz1 : (Value.int IntKind.u8 0).cells.size = 1 := rfl
      simp only [Array.size_append, List.size_toArray, List.nil_append, size_zeroCells, hz1, byC_length]
      omega)
  have hoi3 : ((Mm.put ⟨m.obj, m.next + 1⟩ i (.box [.ptr i 0, .sl 0 [] .exact] 51)).put m.next (.box (byV s) 5)).obj i = some (.box [.ptr i 0, .sl 0 [] .exact] 51) := by
    show (if i = m.next then _ else (if i = i then _ else m.obj i)) = _
    rw [if_neg hin, if_pos rfl]
  obtain ⟨hs4, hm4⟩ := bd_put hm3 (id := m.next) (n := 0 + s.length) (g := ⟨w1.heap.size, 0, none⟩) hoi3 (hs3.le.φ _ _ hφ) hbd c10 (by simpa using hc1) (by rw [VR]; exact ⟨_, hφ3, _, rfl, hcapge, hl3⟩)
  refine ⟨_, _, _, E', rfl, ⟨rfl, ⟨?_, ?_, Ne.symm hin⟩, rfl, fun q h1 h2 h3 => ?_⟩, (((Step.room.trans (hs2.weaken fun _ _ h => h.elim)).trans { hs3 with }).trans (hs4.weaken fun _ _ h => h.elim)).weaken fun q hq e => by subst e; omega, hm4, VR_ws _⟩
  · show (if i = i then _ else _) = _
    rw [if_pos rfl, Nat.zero_add]
  · show (if m.next = i then _ else (if m.next = m.next then _ else _)) = _
    rw [if_neg (Ne.symm hin), if_pos rfl]
  · show (if q = i then _ else (if q = m.next then _ else (if q = i then _ else m.obj q))) = _
    rw [if_neg h1, if_neg h3, if_neg h1]

theorem freeze_same (w : World) (g n : Nat) : SameBut w (w.freeze ⟨g, 0, none⟩ n) g := by
  unfold World.freeze
  split
  · exact SameBut.refl _ _
  · exact ⟨rfl, rfl, rfl, by simp, fun k hk => by simp [Array.getElem?_modify, Ne.symm hk]⟩
theorem SameBut.cell {w w' : World} {g : Nat} (h : SameBut w w' g) {b o : Nat} (hb : b ≠ g) : w'.cell? ⟨b, o, none⟩ = w.cell? ⟨b, o, none⟩ := by
  unfold World.cell?
  rw [h.block b hb]
/-- A box goes, and its block may change. -/
theorem MemR.lose {E : Env} {m : Mm} {w w' : World} (hm : MemR E m w) {j g : Nat} {cs : List V} {t : TypeId} (ho : m.obj j = some (.box cs t)) (hφ : E.φ j = some g) (hs : SameBut w w' g) : Step NoX E m w E (m.del j) w' ∧ MemR E (m.del j) w' := by
  obtain ⟨h1, h2⟩ := hm.del j
  obtain ⟨g', c, e, hh, _, hM⟩ := hm.box j _ _ ho
  rw [hφ] at e; cases e
  have hB : ∀ i b, BlkOf E (m.del j) i b → i ≠ j ∧ BlkOf E m i b := fun i b hb => by
    by_cases hij : i = j
    · subst hij
      rcases hb with ⟨_, _, h, _⟩ | ⟨_, _, _, _, h, _⟩ <;> (change (if i = i then none else _) = _ at h; rw [if_pos rfl] at h; cases h)
    · refine ⟨hij, ?_⟩
      rcases hb with ⟨x, y, h, h'⟩ | ⟨x, y, z, u, h, h'⟩
      · change (if i = j then none else _) = _ at h; rw [if_neg hij] at h; exact .inl ⟨x, y, h, h'⟩
      · change (if i = j then none else _) = _ at h; rw [if_neg hij] at h; exact .inr ⟨x, y, z, u, h, h'⟩
  have hne : ∀ i b, BlkOf E (m.del j) i b → b ≠ g := fun i b hb e => by
    subst e
    obtain ⟨hij, hb⟩ := hB i b hb
    exact hij (hm.inj i j b hb (.inl ⟨_, _, ho, hφ⟩))
  refine ⟨{ h1 with os := hs.os, tape := hs.tape, output := hs.output, size := Nat.le_of_eq hs.size.symm, kept := fun b hb hn => hs.block b fun e => by subst e; exact hn j (.inl ⟨_, _, ho, hφ⟩) }, ⟨?_, h2.fresh, ?_, ?_, h2.inj, ?_⟩⟩
  · intro b o v hv
    have hb : b ≠ g := fun e => by subst e; rw [hM o] at hv; cases hv
    rw [hs.cell hb]; exact h2.stable b o v hv
  · intro i cs' t' hi
    obtain ⟨b, c', h3, h4, h5, h6⟩ := h2.box i cs' t' hi
    exact ⟨b, c', h3, (hs.block b (hne i b (.inl ⟨_, _, hi, h3⟩))).trans h4, h5, h6⟩
  · intro i n e size hi
    obtain ⟨A, cap, h3, h4, h5, h6⟩ := h2.row i n e size hi
    refine ⟨A, cap, h3, h4, h5, fun hn => ?_⟩
    obtain ⟨b, c', h7, h8, h9, h10⟩ := h6 hn
    subst h7
    exact ⟨b, c', rfl, (hs.block b (hne i b (.inr ⟨_, _, _, _, hi, h3, hn⟩))).trans h8, h9, h10⟩
  · intro i cs' t' s' A k b c' hi hl hb hc
    have := hne i b (.inl ⟨_, _, hi, hb⟩)
    exact h2.siz i cs' t' s' A k b c' hi hl hb ((hs.block b this).symm.trans hc)

/-- String of a builder that holds a byte. -/
theorem bs_sfn {G : Ground} {m : Mm} {i j : Nat} {l : List UInt8} (h : Bld m i j l) (h0 : l ≠ []) (hl : l.length ≤ 1000000) : SFn Tryz.prog G 16 [.ptr i 0] m (fun r m' => r = str l ∧ m' = m.del j) := by
  intro E w cargs hG hm hv
  obtain ⟨hoi, hoj, hji⟩ := h
  obtain ⟨x, rfl, hx⟩ := one_arg hv
  rw [VR] at hx
  obtain ⟨b, hφ, rfl⟩ := hx
  obtain ⟨b', c, e, hh, hr, _⟩ := hm.box i _ _ hoi
  rw [hφ] at e; cases e
  obtain ⟨x, y, e2, hx, hy⟩ := VRs_two hr
  rw [VR] at hx
  rw [VR] at hy
  obtain ⟨g, hφj, cap, rfl, hn, hloc⟩ := hy
  obtain ⟨c0, c1⟩ := take_two e2
  obtain ⟨g', cur, e, hhg, hrj, hMj⟩ := hm.box j _ _ hoj
  rw [hφj] at e; cases e
  have hsz := hm.siz j _ _ _ _ cap g cur hoj hloc hφj hhg
  have hcl := VRs_byV_eq hrj
  rw [byV_length] at hcl
  refine (bs_any b g cap c cur l w hh c1 hhg h0 hn (by omega) (by omega) hcl).mono ?_
  rintro e w' ⟨rfl, rfl⟩
  obtain ⟨hs, hm'⟩ := hm.drew.lose (w := w.drew) hoj hφj (freeze_same w.drew g l.length)
  exact ⟨_, _, _, E, rfl, ⟨rfl, rfl⟩, { hs with }, hm', VR_mk rfl⟩
end Go.Proofs.YtgabmmdllcbkoaaGreatDoor
namespace Go.Proofs.YtgabmmdllcbkoaaGreatDoor
open Go.RowKit
set_option linter.unusedSimpArgs false
set_option linter.unusedVariables false

/-- The builder i holds the bytes l. -/
def BS (m : Mm) (i : Nat) (l : List UInt8) : Prop := (l = [] ∧ Bld0 m i) ∨ (l ≠ [] ∧ ∃ j, i < j ∧ j < m.next ∧ Bld m i j l)
theorem BS.keep {m m' : Mm} {i : Nat} {l : List UInt8} (h : BS m i l) (hi : i < m.next) (hn : m.next ≤ m'.next) (hk : ∀ q, q < m.next → m'.obj q = m.obj q) : BS m' i l := by
  rcases h with ⟨h0, h⟩ | ⟨h0, j, hj, hjn, h1, h2, h3⟩
  · exact .inl ⟨h0, (hk i hi).trans h⟩
  · exact .inr ⟨h0, j, hj, Nat.lt_of_lt_of_le hjn hn, (hk i hi).trans h1, (hk j hjn).trans h2, h3⟩
/-- What a write leaves. -/
def WP (m : Mm) (i : Nat) (l : List UInt8) (n : Nat) (r : V) (m' : Mm) : Prop :=
  r = .tup [vint n, .lit .nilIface] ∧ BS m' i l ∧ m'.next = m.next + 1 ∧ ∀ q cs t, q < m.next → q ≠ i → t ≠ 5 → m.obj q = some (.box cs t) → m'.obj q = some (.box cs t)
theorem write_sfn {G : Ground} {m : Mm} {i : Nat} {l s : List UInt8} (h : BS m i l) (hi : i < m.next) (hs : s ≠ []) (hl : l.length + s.length ≤ 1000000) : SFn Tryz.prog G 13 [.ptr i 0, str s] m (WP m i (l ++ s) s.length) := by
  rcases h with ⟨rfl, h⟩ | ⟨h0, j, hj, hjn, h⟩
  · refine SFn.mono (ws0_sfn h hs (by simpa using hl)) ?_
    rintro r m' ⟨hr, hB, hn, hk⟩
    refine ⟨hr, .inr ⟨by simpa using hs, m.next, hi, by omega, hB⟩, hn, fun q cs t hq h1 ht ho => ?_⟩
    rw [hk q h1 h1 (by omega), ho]
  · refine SFn.mono (ws_sfn h hs hl) ?_
    rintro r m' ⟨hr, hB, hn, hk⟩
    refine ⟨hr, .inr ⟨by simp [hs], m.next, hi, by omega, hB⟩, hn, fun q cs t hq h1 ht ho => ?_⟩
    rw [hk q h1 (fun e => by subst e; rw [h.2.1] at ho; cases ho; exact ht rfl) (by omega), ho]
theorem WP.ex (m : Mm) {i : Nat} (hi : i < m.next) {l : List UInt8} (hl : l ≠ []) (n : Nat) : ∃ r m', WP m i l n r m' := by
  refine ⟨_, (Mm.put ⟨m.obj, m.next + 1⟩ m.next (.box (byV l) 5)).put i (.box [.ptr i 0, .gsl m.next l.length 1] 51), rfl, .inr ⟨hl, m.next, hi, Nat.lt_succ_self _, ⟨if_pos rfl, ?_, by omega⟩⟩, rfl, fun q cs t hq h1 ht ho => ?_⟩
  · show (if m.next = i then _ else (if m.next = m.next then _ else _)) = _
    rw [if_neg (by omega), if_pos rfl]
  · show (if q = i then _ else (if q = m.next then _ else m.obj q)) = _
    rw [if_neg h1, if_neg (by omega), ho]
theorem read_sfn {G : Ground} {m : Mm} {i : Nat} {l : List UInt8} (h : BS m i l) (hl0 : l ≠ []) (hl : l.length ≤ 1000000) : SFn Tryz.prog G 16 [.ptr i 0] m (fun r _ => r = str l) := by
  rcases h with ⟨h0, _⟩ | ⟨h0, j, hj, hjn, h⟩
  · exact absurd h0 hl0
  · exact SFn.mono (bs_sfn h h0 hl) fun r m' h => h.1

def wgk (m : Mm) (i : Nat) (m' : Mm) : Prop := m.next ≤ m'.next ∧ ∀ q cs t, q < m.next → q ≠ i → t ≠ 5 → m.obj q = some (.box cs t) → m'.obj q = some (.box cs t)
/-- What a write leaves. -/
def WG (m : Mm) (i : Nat) (l : List UInt8) (m' : Mm) : Prop := BS m' i l ∧ wgk m i m'
theorem WG.ex (m : Mm) {i : Nat} (hi : i < m.next) {l : List UInt8} (hl : l ≠ []) (r : V) : ∃ r' m', r' = r ∧ WG m i l m' := by
  obtain ⟨_, m', _, h1, h2, h3⟩ := WP.ex m hi hl 0
  exact ⟨r, m', rfl, h1, by omega, h3⟩
theorem wr_sfn {G : Ground} {m : Mm} {i : Nat} {l s : List UInt8} (h : BS m i l) (hi : i < m.next) (hs : s ≠ []) (hl : l.length + s.length ≤ 1000000) : SFn Tryz.prog G 13 [.ptr i 0, str s] m (fun r m' => r = .tup [vint s.length, .lit .nilIface] ∧ WG m i (l ++ s) m') :=
  SFn.mono (write_sfn h hi hs hl) fun r m' ⟨h1, h2, h3, h4⟩ => ⟨h1, h2, by omega, h4⟩
theorem VR_tup0 {E : Env} : VR E (.tup []) (.tuple #[]) := by
  rw [VR]; exact ⟨_, rfl, by rw [VRs]⟩
theorem cc_sfn {G : Ground} {m : Mm} {i j : Nat} {l : List UInt8} (h : Bld m i j l) : SFn Tryz.prog G 23 [.ptr i 0] m (fun r m' => r = .tup [] ∧ m' = m) := by
  intro E w cargs hG hm hv
  obtain ⟨hoi, hoj, hji⟩ := h
  obtain ⟨x, rfl, hx⟩ := one_arg hv
  rw [VR] at hx
  obtain ⟨b, hφ, rfl⟩ := hx
  obtain ⟨b', c, e, hh, hr, _⟩ := hm.box i _ _ hoi
  rw [hφ] at e; cases e
  obtain ⟨x, y, e2, hx, hy⟩ := VRs_two hr
  rw [VR] at hx
  obtain ⟨b', e, rfl⟩ := hx
  rw [hφ] at e; cases e
  obtain ⟨c0, c1⟩ := take_two e2
  refine (cc_used b w (by rw [Lib.cell_of_heap hh]; exact c0)).mono ?_
  rintro e w' ⟨rfl, rfl⟩
  exact ⟨_, _, _, E, rfl, ⟨rfl, rfl⟩, Step.refl _ _ _ _, hm, VR_tup0⟩
theorem cc0_sfn {G : Ground} {m : Mm} {i : Nat} (h : Bld0 m i) : SFn Tryz.prog G 23 [.ptr i 0] m (fun r m' => r = .tup [] ∧ m' = m.put i (.box [.ptr i 0, .sl 0 [] .exact] 51)) := by
  intro E w cargs hG hm hv
  obtain ⟨x, rfl, hx⟩ := one_arg hv
  rw [VR] at hx
  obtain ⟨b, hφ, rfl⟩ := hx
  obtain ⟨b', c, e, hh, hr, _⟩ := hm.box i _ _ h
  rw [hφ] at e; cases e
  obtain ⟨x, y, e2, hx, hy0⟩ := VRs_two hr
  obtain rfl := VR_lit hx
  obtain ⟨c0, c1⟩ := take_two e2
  have hlt := (Array.getElem?_eq_some_iff.1 c1).1
  refine (cc_fresh b w (by rw [Lib.cell_of_heap hh]; exact c0) (n := c.size) (by omega) (by simp [World.shape?, hh]) (by simp [World.frozen?, hh])).mono ?_
  rintro e w' ⟨rfl, rfl⟩
  obtain ⟨hs2, hm2⟩ := bd_own hm h hφ hh c1 hy0
  exact ⟨_, _, _, E, rfl, ⟨rfl, rfl⟩, hs2, hm2, VR_tup0⟩
theorem byV_one (l : List UInt8) : (byV l).all V.one = true := by
  rw [List.all_eq_true]
  intro v hv
  obtain ⟨x, _, rfl⟩ := List.mem_map.1 hv
  rfl
theorem wb_sfn {m : Mm} {i : Nat} {l : List UInt8} {c : UInt8} (h : BS m i l) (hi : i < m.next) (hl : l.length < 1000000) : SFn Tryz.prog Gd 15 [.ptr i 0, .lit (.int .u8 c.toNat)] m (fun r m' => r = .lit .nilIface ∧ WG m i (l ++ [c]) m') := by
  refine SFn.of_vxS k_strings_Builder_WriteByte_b (by simp) ?_
  have hne : ∀ k, ¬ (i = m.next + k) := fun k => by omega
  unfold c_strings_Builder_WriteByte_b
  rcases h with ⟨rfl, h⟩ | ⟨h0, j, hj, hjn, h⟩
  · repeat' (with_reducible first | refine x_ops ?_ | refine wk ?_ | ((first | refine gd1 ?_ ?_ | refine gd2 ?_ ?_ | refine gd3 ?_ ?_) <;> (first | exact @False.elim _ | intro hc)))
    refine x_scallR [.ptr i 0] vw (cc0_sfn h) ⟨_, _, rfl, rfl⟩ ?_
    rintro r m' ⟨rfl, rfl⟩
    repeat' (with_reducible first | refine x_ops ?_ | refine wk ?_ | ((first | refine gd1 ?_ ?_ | refine gd2 ?_ ?_ | refine gd3 ?_ ?_) <;> (first | exact @False.elim _ | intro hc)))
    refine x_appM0 (n := 0) (j := 1) (xs := []) (ys := [.lit (.int .u8 c.toNat)]) vw (by (simp only [go_sem, Nat.reduceAdd, Nat.reduceEqDiff, Nat.reduceLT, Nat.reduceLeDiff, Nat.reduceMul, Nat.reduceSub, Nat.reducePow, Nat.reduceDiv, Nat.reduceMod, Nat.reduceBEq, Int.reduceBEq, Int.reduceLT, reduceIte, V.norms, V.norm, tIs, tBs, tPs, *]); rfl) rfl (by decide) (by decide) ?_
    rw [if_neg (by decide)]
    repeat' (with_reducible first | refine x_ops ?_ | refine wk ?_ | ((first | refine gd1 ?_ ?_ | refine gd2 ?_ ?_ | refine gd3 ?_ ?_) <;> (first | exact @False.elim _ | intro hc)))
    refine finS_ret vv ⟨rfl, ?_, ?_, ?_⟩
    · refine .inr ⟨by simp, m.next + 7, by omega, ?_, ?_, ?_, ?_⟩
      · (refine ve ?_; try exact True.intro)
      · (refine ve ?_; try exact True.intro)
      · ((refine ve ?_; try exact True.intro)); rw [if_neg (by omega)]; rfl
      · omega
    · (refine ve ?_; try exact True.intro)
    · intro q cs t hq hqi ht ho
      have hq7 : ¬ q = m.next + 7 := by omega
      simp only [go_sem, Nat.reduceAdd, Nat.reduceEqDiff, Nat.reduceLT, Nat.reduceLeDiff, Nat.reduceMul, Nat.reduceSub, Nat.reducePow, Nat.reduceDiv, Nat.reduceMod, Nat.reduceBEq, Int.reduceBEq, Int.reduceLT, reduceIte, V.norms, V.norm, tIs, tBs, tPs, *]
  · have hor := h.1
    have hoj := h.2.1
    have hji := h.2.2
    have hjn' : ∀ k, ¬ (j = m.next + k) := fun k => by omega
    have hij : ¬ i = j := fun e => hji e.symm
    repeat' (with_reducible first | refine x_ops ?_ | refine wk ?_ | ((first | refine gd1 ?_ ?_ | refine gd2 ?_ ?_ | refine gd3 ?_ ?_) <;> (first | exact @False.elim _ | intro hc)))
    refine x_scallR [.ptr i 0] vw (cc_sfn h) ⟨_, _, rfl, rfl⟩ ?_
    rintro r m' ⟨rfl, rfl⟩
    repeat' (with_reducible first | refine x_ops ?_ | refine wk ?_ | ((first | refine gd1 ?_ ?_ | refine gd2 ?_ ?_ | refine gd3 ?_ ?_) <;> (first | exact @False.elim _ | intro hc)))
    refine x_appM (q := j) (n := l.length) (j := 1) (cs := byV l) (ys := [.lit (.int .u8 c.toNat)]) vw (by (simp only [go_sem, Nat.reduceAdd, Nat.reduceEqDiff, Nat.reduceLT, Nat.reduceLeDiff, Nat.reduceMul, Nat.reduceSub, Nat.reducePow, Nat.reduceDiv, Nat.reduceMod, Nat.reduceBEq, Int.reduceBEq, Int.reduceLT, reduceIte, V.norms, V.norm, tIs, tBs, tPs, *]); rfl) (by (simp only [go_sem, Nat.reduceAdd, Nat.reduceEqDiff, Nat.reduceLT, Nat.reduceLeDiff, Nat.reduceMul, Nat.reduceSub, Nat.reducePow, Nat.reduceDiv, Nat.reduceMod, Nat.reduceBEq, Int.reduceBEq, Int.reduceLT, reduceIte, V.norms, V.norm, tIs, tBs, tPs, *])) (by rw [byV_length]; omega) (by rw [List.take_of_length_le (by rw [byV_length]; omega)]; exact byV_one l) (by omega) (by unfold Go.maxLen; omega) ?_
    repeat' (with_reducible first | refine x_ops ?_ | simp only [go_sem, Nat.reduceAdd, Nat.reduceEqDiff, Nat.reduceLT, Nat.reduceLeDiff, Nat.reduceMul, Nat.reduceSub, Nat.reducePow, Nat.reduceDiv, Nat.reduceMod, Nat.reduceBEq, Int.reduceBEq, Int.reduceLT, reduceIte, tIs, tBs, tPs, Mm.del, *] | ((first | refine gd1 ?_ ?_ | refine gd2 ?_ ?_ | refine gd3 ?_ ?_) <;> (first | exact @False.elim _ | intro hc)))
    have hl1 : (byV l).take l.length = byV l := List.take_of_length_le (by rw [byV_length]; omega)
    refine finS_ret (r := .lit .nilIface) vv ⟨rfl, ?_, ?_, ?_⟩
    · refine .inr ⟨by simp, m.next + 7, by omega, ?_, ?_, ?_, ?_⟩
      · (refine ve ?_; try exact True.intro)
      · ((refine ve ?_; try exact True.intro)); simp
      · ((refine ve ?_; try exact True.intro)); rw [if_neg (by omega), hl1, byV_append]; rfl
      · omega
    · (refine ve ?_; try exact True.intro)
    · intro q cs t hq hqi ht ho
      have hq7 : ¬ q = m.next + 7 := by omega
      have hqj : ¬ q = j := fun e => by subst e; rw [hoj] at ho; cases ho; exact ht rfl
      show (if q = i then _ else (if q = m.next + 7 then _ else (if q = j then _ else _))) = _
      rw [if_neg hqi, if_neg hq7, if_neg hqj]; exact ho
end Go.Proofs.YtgabmmdllcbkoaaGreatDoor
