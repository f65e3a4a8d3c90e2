/- Walk of the reference: Copy. -/
import Derived.Test.YtbdhjpdjbogggaaDoorW6
import Derived.Test.YtbdhjpdjbogggaaDoorKp
import Derived.Deep.AppendSrc
import Derived.Deep.RegionLawGrows
namespace Go.Proofs.YtbdhjpdjbogggaaDoor
open Go.RowKit

section
variable {P : Program}
/-- Nothing is appended to an empty slice. -/
theorem step_append_none {ops : Array Oper} {o : Oper} {a : Act} {w : World} {K : Act → World → Prop} {Q : Exit → Act → World → Prop} {E : Prop} (hgd : o.guard = none) (s x : Operand) (t : TypeId)
    (ho : o.op = .call { callee := .builtin .append, args := #[s, x], argTypes := #[t, t] }) (e : TypeId) (i : TypeInfo) (ht : P.underlying t = some (.slice e)) (hi : P.info? e = some i)
    (b off : Nat) (hs : a.eval s = .slice (some ⟨b, off, none⟩) 0 0) (ao : Option Addr) (c : Nat) (hx : a.eval x = .slice ao 0 c)
    (h : K (a.put o.dst (.slice (some ⟨b, off, none⟩) 0 0)) w) :
    if Region.wanted o (yielded ops a.tmps) = true then Oper.wp P o a w K Q else E := by
  have hw : Region.wanted o (yielded ops a.tmps) = true := by simp [Region.wanted, hgd]
  rw [if_pos hw]
  have hsrc : Src P i.size t (.slice ao 0 c) 0 [] w := by
    cases ao with
    | none => exact Src.ofNil w ht c
    | some ad => exact Src.ofSlice w ht ad 0 c [] (by simp) (fun j u hu => by simp at hu) (fun u hu => by cases hu)
  have hr := run_append_room_src (P := P) w t t o.type e i ht hi b off 0 0 (.slice ao 0 c) 0 [] hsrc (Nat.le_refl _) (fun j hj => by simp at hj) (fun j hj => by simp at hj)
  unfold Oper.wp execOp
  simp only [ho, resolve, invoke, builtin, Sem.run_bind, Sem.run_pure, Result.andThen_ok, List.map_toArray, List.map_cons, List.map_nil, hs, hx, hr]
  exact h
end

/-- The result's block. -/
def RB (g : Nat) (W : World) : Prop := ∃ a b : Value, Blk W g 39 #[a, b]
/-- What stands while a copy is made. -/
structure CpS (w W : World) : Prop where
  b : Below w.heap.size w W
  z : w.heap.size + 2 ≤ W.heap.size
  r : RB (w.heap.size + 1) W
@[simp] theorem CpS_drew (w W : World) : CpS w W.drew = CpS w W := propext ⟨fun ⟨h, h2, h3⟩ => ⟨⟨h.os, h.tape, h.output, h.size, h.block⟩, h2, h3⟩, fun ⟨h, h2, h3⟩ => ⟨⟨h.os, h.tape, h.output, h.size, h.block⟩, h2, h3⟩⟩
theorem CpS.alloc {w W : World} (h : CpS w W) (o : Obj) : CpS w (W.alloc o) :=
  ⟨h.b.alloc h.b.size o, by have := h.z; simp; omega, h.r.elim fun a h2 => h2.elim fun b h3 => ⟨a, b, h3.alloc o⟩⟩
theorem CpS.grown {w W W' : World} (h : CpS w W) (hg : W.grownBy W' none) : CpS w W' :=
  ⟨⟨hg.os.trans h.b.os, hg.tape.trans h.b.tape, hg.output.trans h.b.output, Nat.le_trans h.b.size hg.size, fun q hq => (hg.block q (Nat.lt_of_lt_of_le hq h.b.size) (by simp)).trans (h.b.block q hq)⟩,
    Nat.le_trans h.z hg.size, h.r.elim fun a h2 => h2.elim fun b h3 => ⟨a, b, h3.grown hg (by simp)⟩⟩
theorem CpS.set2 {w W : World} (h : CpS w W) (x y : Value) : CpS w ((W.setCell ⟨w.heap.size + 1, 0, none⟩ x).setCell ⟨w.heap.size + 1, 1, none⟩ y) :=
  ⟨(h.b.setCell (p := ⟨w.heap.size + 1, 0, none⟩) (by show w.heap.size ≤ w.heap.size + 1; omega) x).setCell (p := ⟨w.heap.size + 1, 1, none⟩) (by show w.heap.size ≤ w.heap.size + 1; omega) y, by have := h.z; rw [World.size_setCell, World.size_setCell]; omega,
    h.r.elim fun a h2 => h2.elim fun b h3 => ⟨x, y, by have h4 := (h3.set_ 0 x).set_ 1 y; simpa using h4⟩⟩
theorem grown_cell {W W' : World} (hg : W.grownBy W' none) {b o : Nat} {v : Value} (h : W.cell? ⟨b, o, none⟩ = some v) : W'.cell? ⟨b, o, none⟩ = some v :=
  (World.cell?_of_block (hg.block b (World.block_lt_of_cell? W _ h) (by simp))).trans h
/-- What the store at the end wants. -/
theorem CpS.room {w W : World} (h : CpS w W) : ∃ a b, W.cell? ⟨w.heap.size + 1, 0, none⟩ = some a ∧ W.cell? ⟨w.heap.size + 1, 1, none⟩ = some b ∧ W.frozen? ⟨w.heap.size + 1, 0, none⟩ = false ∧ W.frozen? ⟨w.heap.size + 1, 1, none⟩ = false :=
  h.r.elim fun a h2 => h2.elim fun b h3 => ⟨a, b, by rw [h3.cell]; rfl, by rw [h3.cell]; rfl, h3.frozen 0, h3.frozen 1⟩
theorem Arr.grown0 {W W' : World} {size n : Nat} {A : Option Addr} {xs : List Value} (h : Arr W W.heap.size size A n xs) (hg : W.grownBy W' none) : Arr W' W'.heap.size size A n xs :=
  h.up ⟨hg.os, hg.tape, hg.output, hg.size, fun q hq => hg.block q hq (by simp)⟩
theorem cells3_one (cs : List Crs) : ∀ u ∈ cells3 cs, u.oneCell' = true := by
  intro u hu
  simp [cells3] at hu
  obtain ⟨x, _, hx⟩ := hu
  simp [Crs.cells] at hx
  rcases hx with rfl | rfl | rfl <;> rfl
theorem ints_one (ss : List Int) : ∀ u ∈ ss.map (Value.int .i64), u.oneCell' = true := by
  intro u hu
  simp at hu
  obtain ⟨x, _, rfl⟩ := hu
  rfl

/-- The copy's region: what stands behind each operation. -/
def SC (w : World) (v0 v1 : Value) (W : World) : Prop := CpS w W ∧ W.cell? ⟨w.heap.size, 0, none⟩ = some v0 ∧ W.cell? ⟨w.heap.size, 1, none⟩ = some v1
section
variable {w W W' : World} {v0 v1 : Value}
theorem SC_drew : SC w v0 v1 W.drew = SC w v0 v1 W := by unfold SC; rw [CpS_drew]; rfl
theorem keepA0 {o : Obj} (h : SC w v0 v1 W) : SC w v0 v1 (W.alloc o) :=
  ⟨h.1.alloc o, (World.cell?_alloc_lt _ _ _ (World.block_lt_of_cell? W _ h.2.1)).trans h.2.1, (World.cell?_alloc_lt _ _ _ (World.block_lt_of_cell? W _ h.2.2)).trans h.2.2⟩
theorem keepA {o : Obj} (h : SC w v0 v1 W) : SC w v0 v1 (W.alloc o).drew := by rw [SC_drew]; exact keepA0 h
theorem keepAd {o : Obj} (h : SC w v0 v1 W.drew) : SC w v0 v1 (W.alloc o).drew := by rw [SC_drew] at h ⊢; exact keepA0 h
theorem keepG (hg : W.grownBy W' none) (h : SC w v0 v1 W) : SC w v0 v1 W' := ⟨h.1.grown hg, grown_cell hg h.2.1, grown_cell hg h.2.2⟩
theorem keepGd (hg : W.grownBy W' none) (h : SC w v0 v1 W) : SC w v0 v1 W'.drew := by rw [SC_drew]; exact keepG hg h
theorem keepT {x y : Value} (h : SC w v0 v1 W) : SC w v0 v1 ((W.setCell ⟨w.heap.size + 1, 0, none⟩ x).setCell ⟨w.heap.size + 1, 1, none⟩ y) :=
  ⟨h.1.set2 x y, by rw [World.cell?_setCell_other _ _ _ _ (by simp), World.cell?_setCell_other _ _ _ _ (by simp)]; exact h.2.1, by rw [World.cell?_setCell_other _ _ _ _ (by simp), World.cell?_setCell_other _ _ _ _ (by simp)]; exact h.2.2⟩
theorem keepTd {x y : Value} (h : SC w v0 v1 W) : SC w v0 v1 ((W.setCell ⟨w.heap.size + 1, 0, none⟩ x).setCell ⟨w.heap.size + 1, 1, none⟩ y).drew := by rw [SC_drew]; exact keepT h
theorem keepTdd {x y : Value} (h : SC w v0 v1 W.drew) : SC w v0 v1 ((W.setCell ⟨w.heap.size + 1, 0, none⟩ x).setCell ⟨w.heap.size + 1, 1, none⟩ y).drew := by rw [SC_drew] at h ⊢; exact keepT h
end

/-- A call returns an instrument. -/
def InsOf (w : World) (cs : List Crs) (ss : List Int) (nc ns : Nat) (e : Ending) (w' : World) : Prop :=
  ∃ (A C : Option Addr) (cc kc : Nat), e = .returned (.agg #[.slice A nc cc, .slice C ns kc]) ∧ Arr w' w'.heap.size 3 A nc (cells3 cs) ∧
    Arr w' w'.heap.size 1 C ns (ss.map (Value.int .i64)) ∧ Below w.heap.size w w'

theorem grown_below {W W' : World} (hg : W.grownBy W' none) : Below W.heap.size W W' := ⟨hg.os, hg.tape, hg.output, hg.size, fun q hq => hg.block q hq (by simp)⟩
theorem cp_own {W1 X W2 : World} {base n size : Nat} {e : TypeId} {v : Value} {xs : List Value} (h : W1.ownsRow base e size v n xs) (hg : X.grownBy W2 none) (hX : Below W1.heap.size W1 X) : W2.ownsRow base e size v n xs :=
  own_up h (hX.trans ((grown_below hg).mono hX.size)) (Nat.le_refl _)
theorem base_lt {w W W' : World} {v0 v1 : Value} (_hg : W.grownBy W' none) (h : SC w v0 v1 W) : w.heap.size + 1 < W.heap.size := h.1.z
theorem cp_fin {w W : World} {A C : Option Addr} {nc cc ns kc ba bc : Nat} {ea ec : TypeId} {cs : List Crs} {ss : List Int} {x y : Value} (hs : CpS w W) (hA : W.ownsRow ba ea 3 (.slice A nc cc) nc (cells3 cs)) (hC : W.ownsRow bc ec 1 (.slice C ns kc) ns (ss.map (Value.int .i64)))
    (ha : w.heap.size + 1 < ba) (hc : w.heap.size + 1 < bc) : InsOf w cs ss nc ns (.returned (.agg #[.slice A nc cc, .slice C ns kc])) ((W.setCell ⟨w.heap.size + 1, 0, none⟩ x).setCell ⟨w.heap.size + 1, 1, none⟩ y) :=
  ⟨A, C, cc, kc, rfl, Arr.of_own (own_far (own_far hA (p := ⟨w.heap.size + 1, 0, none⟩) ha x) (p := ⟨w.heap.size + 1, 1, none⟩) ha y),
    Arr.of_own (own_far (own_far hC (p := ⟨w.heap.size + 1, 0, none⟩) hc x) (p := ⟨w.heap.size + 1, 1, none⟩) hc y), (hs.set2 x y).b⟩

/-- Nothing is appended to an empty slice, while a copy is made. -/
theorem step_none_cp {P : Program} {w0 : World} {v0 v1 : Value} {ops : Array Oper} {o : Oper} {a : Act} {w : World} {K : Act → World → Prop} {Q : Exit → Act → World → Prop} {E : Prop} (hgd : o.guard = none) (s x : Operand) (t : TypeId)
    (ho : o.op = .call { callee := .builtin .append, args := #[s, x], argTypes := #[t, t] }) (e : TypeId) (i : TypeInfo) (ht : P.underlying t = some (.slice e)) (hi : P.info? e = some i)
    (b off : Nat) (hs : a.eval s = .slice (some ⟨b, off, none⟩) 0 0) (ao : Option Addr) (c : Nat) (hx : a.eval x = .slice ao 0 c) (hsc : SC w0 v0 v1 w)
    (h : ∀ (A : Option Addr) (r0 r1 : Value), w.cell? ⟨w0.heap.size + 1, 0, none⟩ = some r0 → w.cell? ⟨w0.heap.size + 1, 1, none⟩ = some r1 → w.frozen? ⟨w0.heap.size + 1, 0, none⟩ = false → w.frozen? ⟨w0.heap.size + 1, 1, none⟩ = false → K (a.put o.dst (.slice A 0 0)) w) :
    if Region.wanted o (yielded ops a.tmps) = true then Oper.wp P o a w K Q else E := by
  obtain ⟨r0, r1, h0, h1, h2, h3⟩ := hsc.1.room
  exact step_append_none hgd s x t ho e i ht hi b off hs ao c hx (h _ r0 r1 h0 h1 h2 h3)
theorem Arr.zero {w : World} {B size : Nat} {A : Option Addr} {xs : List Value} (h : xs = []) : Arr w B size A 0 xs := ⟨by rw [h]; simp, fun h => absurd h (by omega)⟩
theorem cp_fin8 {w W : World} {A C : Option Addr} {nc cc kc ba : Nat} {ea : TypeId} {cs : List Crs} {x y : Value} (hs : CpS w W) (hA : W.ownsRow ba ea 3 (.slice A nc cc) nc (cells3 cs))
    (ha : w.heap.size + 1 < ba) : InsOf w cs [] nc 0 (.returned (.agg #[.slice A nc cc, .slice C 0 kc])) ((W.setCell ⟨w.heap.size + 1, 0, none⟩ x).setCell ⟨w.heap.size + 1, 1, none⟩ y) :=
  ⟨A, C, cc, kc, rfl, Arr.of_own (own_far (own_far hA (p := ⟨w.heap.size + 1, 0, none⟩) ha x) (p := ⟨w.heap.size + 1, 1, none⟩) ha y), Arr.zero rfl, (hs.set2 x y).b⟩
theorem cp_fin9 {w W : World} {A C : Option Addr} {cc ns kc bc : Nat} {ec : TypeId} {ss : List Int} {x y : Value} (hs : CpS w W) (hC : W.ownsRow bc ec 1 (.slice C ns kc) ns (ss.map (Value.int .i64)))
    (hc : w.heap.size + 1 < bc) : InsOf w [] ss 0 ns (.returned (.agg #[.slice A 0 cc, .slice C ns kc])) ((W.setCell ⟨w.heap.size + 1, 0, none⟩ x).setCell ⟨w.heap.size + 1, 1, none⟩ y) :=
  ⟨A, C, cc, kc, rfl, Arr.zero rfl, Arr.of_own (own_far (own_far hC (p := ⟨w.heap.size + 1, 0, none⟩) hc x) (p := ⟨w.heap.size + 1, 1, none⟩) hc y), (hs.set2 x y).b⟩
theorem cp_fin0 {w W : World} {A C : Option Addr} {cc kc : Nat} {x y : Value} (hs : CpS w W) : InsOf w [] [] 0 0 (.returned (.agg #[.slice A 0 cc, .slice C 0 kc])) ((W.setCell ⟨w.heap.size + 1, 0, none⟩ x).setCell ⟨w.heap.size + 1, 1, none⟩ y) :=
  ⟨A, C, cc, kc, rfl, Arr.zero rfl, Arr.zero rfl, (hs.set2 x y).b⟩

set_option maxHeartbeats 4000000 in
theorem copy_pp (A C : Option Addr) (nc cc ns kc : Nat) (cs : List Crs) (ss : List Int) (w : World) (hC : Arr w w.heap.size 3 A nc (cells3 cs)) (hS : Arr w w.heap.size 1 C ns (ss.map (Value.int .i64)))
    (h0 : 0 < nc) (h1 : 0 < ns) (hnc : nc ≤ 1000000) (hns : ns ≤ 1000000) :
    Calls Tryd.prog 28 #[.agg #[.slice A nc cc, .slice C ns kc]] w (InsOf w cs ss nc ns) := by
  obtain ⟨i0, hi0, hz0, hz1, hz2⟩ := info_parts info_crs
  obtain ⟨i1, hi1, hy0, hy1, hy2⟩ := info_parts info_int
  obtain ⟨b, o, rfl, hbB, hcc⟩ := hC.2 h0
  obtain ⟨b2, o2, rfl, hbB2, hcs⟩ := hS.2 h1
  have hsrc : ∀ W, CpS w W → ∀ j u, (cells3 cs)[j]? = some u → W.cell? ((⟨b, o, none⟩ : Addr).add j) = some u := fun W hW j u hu => by
    rw [Addr.add_lit]; exact ((bcell hW.b).1 _ _ hbB).trans (hcc j u hu)
  have hsrc2 : ∀ W, CpS w W → ∀ j u, (ss.map (Value.int .i64))[j]? = some u → W.cell? ((⟨b2, o2, none⟩ : Addr).add j) = some u := fun W hW j u hu => by
    rw [Addr.add_lit]; exact ((bcell hW.b).1 _ _ hbB2).trans (hcs j u hu)
  have HSRC := Lib.hid hsrc
  have HSRC2 := Lib.hid hsrc2
  have HL1 := Lib.hid hC.1
  have HL2 := Lib.hid hS.1
  have HI0 := Lib.hid hi0
  have HI1 := Lib.hid hi1
  clear hsrc hsrc2 hC hS hcc hcs hi0 hi1
  have hst : CpS w ((w.alloc (Obj.cells #[Value.slice (some ⟨b, o, none⟩) nc cc, Value.slice (some ⟨b2, o2, none⟩) ns kc] 39)).alloc (Obj.cells #[Value.slice none 0 0, Value.slice none 0 0] 39)) :=
    ⟨(((Below.refl _ _).alloc (Nat.le_refl _) _).alloc (by simp) _), by simp, _, _, by have h := Blk.new (w.alloc (Obj.cells #[Value.slice (some ⟨b, o, none⟩) nc cc, Value.slice (some ⟨b2, o2, none⟩) ns kc] 39)) 39 #[Value.slice none 0 0, Value.slice none 0 0]; rw [World.size_alloc] at h; exact h⟩
  go_enter Tryd.func28, Tryd.ntmps28
  go_wp2_with fail
  go_region_held3 (fun W => CpS w W ∧ W.cell? ⟨w.heap.size, 0, none⟩ = some (.slice (some ⟨b, o, none⟩) nc cc) ∧ W.cell? ⟨w.heap.size, 1, none⟩ = some (.slice (some ⟨b2, o2, none⟩) ns kc))
    (first | (go_keep; done) | exact keepA (by assumption) | exact keepAd (by assumption) | exact keepA0 (by assumption) | exact keepG (by assumption) (by assumption) | exact keepGd (by assumption) (by assumption) | exact keepT (by assumption) | exact keepTd (by assumption) | exact keepTdd (by assumption))
    (first
      | (refine step_append_grows (by rfl) _ _ 36 (by rfl) 59 i0 _ 3 24 Tryd.underlying36 HI0.out hz0 hz1 hz2 rfl (by decide) _ 0 0 [] (by rfl) (by intro h; cases h) rfl (by intro q hq j u hu; cases hu) ⟨b, o, none⟩ nc cc (cells3 cs) (by rfl) HL1.out (HSRC.out _ (by first | assumption | simp [*])) (cells3_one cs) (by omega) (by unfold maxLen; omega) (by omega) ?_; intro v8 w8 hown8 hgr8; simp only [Nat.zero_add, List.nil_append] at hown8; have hz8 := base_lt (w := w) hgr8 (by assumption); obtain ⟨g8, c8, rfl, _, _⟩ := hown8.form (by omega); have hs8 := keepG (w := w) hgr8 (by assumption); obtain ⟨_, _, _, _, _, _⟩ := hs8.1.room; have hA8 := Arr.of_own hown8)
      | (refine step_append_grows (by rfl) _ _ 37 (by rfl) 3 i1 _ 1 8 Tryd.underlying37 HI1.out hy0 hy1 hy2 rfl (by decide) _ 0 0 [] (by rfl) (by intro h; cases h) rfl (by intro q hq j u hu; cases hu) ⟨b2, o2, none⟩ ns kc (ss.map (Value.int .i64)) (by rfl) HL2.out (HSRC2.out _ (by first | assumption | simp [*])) (ints_one ss) (by omega) (by unfold maxLen; omega) (by omega) ?_; intro v9 w9 hown9 hgr9; simp only [Nat.zero_add, List.nil_append] at hown9; have hz9 := base_lt (w := w) hgr9 (by assumption); obtain ⟨g9, c9, rfl, _, _⟩ := hown9.form (by omega); have hs9 := keepG (w := w) hgr9 (by assumption); obtain ⟨_, _, _, _, _, _⟩ := hs9.1.room; have hA9 := Arr.of_own hown9))
  all_goals
    go_wp2
    refine bodyPost_ret (v := .agg #[.slice (some ⟨g8, 0, none⟩) nc c8, .slice (some ⟨g9, 0, none⟩) ns c9]) (by simp only [results, Tryd.results28]; go_simp) rfl ?_
    first
      | exact cp_fin hs9.1 (cp_own hown8 hgr9 (by repeat (first | exact Below.refl _ _ | assumption | refine below_drewN ?_ _ | refine Below.drew ?_ | refine Below.alloc ?_ (by first | exact Nat.le_refl _ | omega | (simp; done) | (simp; omega)) _ | refine Below.setCell ?_ (by first | exact Nat.le_refl _ | (simp; done) | (simp; omega)) _))) hown9 hz8 hz9
      | exact cp_fin hs8.1 hown8 (cp_own hown9 hgr8 (by repeat (first | exact Below.refl _ _ | assumption | refine below_drewN ?_ _ | refine Below.drew ?_ | refine Below.alloc ?_ (by first | exact Nat.le_refl _ | omega | (simp; done) | (simp; omega)) _ | refine Below.setCell ?_ (by first | exact Nat.le_refl _ | (simp; done) | (simp; omega)) _))) hz8 hz9
set_option maxHeartbeats 4000000 in
theorem copy_pz (A C : Option Addr) (nc cc kc : Nat) (cs : List Crs) (w : World) (hC : Arr w w.heap.size 3 A nc (cells3 cs))
    (h0 : 0 < nc) (hnc : nc ≤ 1000000) :
    Calls Tryd.prog 28 #[.agg #[.slice A nc cc, .slice C 0 kc]] w (InsOf w cs [] nc 0) := by
  obtain ⟨i0, hi0, hz0, hz1, hz2⟩ := info_parts info_crs
  obtain ⟨i1, hi1, hy0, hy1, hy2⟩ := info_parts info_int
  obtain ⟨b, o, rfl, hbB, hcc⟩ := hC.2 h0
  have hsrc : ∀ W, CpS w W → ∀ j u, (cells3 cs)[j]? = some u → W.cell? ((⟨b, o, none⟩ : Addr).add j) = some u := fun W hW j u hu => by
    rw [Addr.add_lit]; exact ((bcell hW.b).1 _ _ hbB).trans (hcc j u hu)
  have HSRC := Lib.hid hsrc
  have HL1 := Lib.hid hC.1
  have HI0 := Lib.hid hi0
  have HI1 := Lib.hid hi1
  clear hsrc hC hcc hi0 hi1
  have hst : CpS w ((w.alloc (Obj.cells #[Value.slice (some ⟨b, o, none⟩) nc cc, Value.slice C 0 kc] 39)).alloc (Obj.cells #[Value.slice none 0 0, Value.slice none 0 0] 39)) :=
    ⟨(((Below.refl _ _).alloc (Nat.le_refl _) _).alloc (by simp) _), by simp, _, _, by have h := Blk.new (w.alloc (Obj.cells #[Value.slice (some ⟨b, o, none⟩) nc cc, Value.slice C 0 kc] 39)) 39 #[Value.slice none 0 0, Value.slice none 0 0]; rw [World.size_alloc] at h; exact h⟩
  go_enter Tryd.func28, Tryd.ntmps28
  go_wp2_with fail
  go_region_held3 (fun W => CpS w W ∧ W.cell? ⟨w.heap.size, 0, none⟩ = some (.slice (some ⟨b, o, none⟩) nc cc) ∧ W.cell? ⟨w.heap.size, 1, none⟩ = some (.slice C 0 kc))
    (first | (go_keep; done) | exact keepA (by assumption) | exact keepAd (by assumption) | exact keepA0 (by assumption) | exact keepG (by assumption) (by assumption) | exact keepGd (by assumption) (by assumption) | exact keepT (by assumption) | exact keepTd (by assumption) | exact keepTdd (by assumption))
    (first
      | (refine step_append_grows (by rfl) _ _ 36 (by rfl) 59 i0 _ 3 24 Tryd.underlying36 HI0.out hz0 hz1 hz2 rfl (by decide) _ 0 0 [] (by rfl) (by intro h; cases h) rfl (by intro q hq j u hu; cases hu) ⟨b, o, none⟩ nc cc (cells3 cs) (by rfl) HL1.out (HSRC.out _ (by first | assumption | simp [*])) (cells3_one cs) (by omega) (by unfold maxLen; omega) (by omega) ?_; intro v8 w8 hown8 hgr8; simp only [Nat.zero_add, List.nil_append] at hown8; have hz8 := base_lt (w := w) hgr8 (by assumption); obtain ⟨g8, c8, rfl, _, _⟩ := hown8.form (by omega); have hs8 := keepG (w := w) hgr8 (by assumption); obtain ⟨_, _, _, _, _, _⟩ := hs8.1.room; have hA8 := Arr.of_own hown8)
      | (refine step_none_cp (w0 := w) (by rfl) _ _ 37 (by rfl) 3 i1 Tryd.underlying37 HI1.out _ _ (by rfl) _ _ (by rfl) (by assumption) ?_; intro A9 r90 r91 x90 x91 x92 x93))
  all_goals
    go_wp2
    refine bodyPost_ret (v := .agg #[.slice (some ⟨g8, 0, none⟩) nc c8, .slice A9 0 0]) (by simp only [results, Tryd.results28]; go_simp) rfl ?_
    exact cp_fin8 (by repeat (first | exact hst | exact hs8.1 | rw [CpS_drew] | refine CpS.alloc ?_ _)) (own_up hown8 (by repeat (first | exact Below.refl _ _ | assumption | refine below_drewN ?_ _ | refine Below.drew ?_ | refine Below.alloc ?_ (by first | exact Nat.le_refl _ | omega | (simp; done) | (simp; omega)) _ | refine Below.setCell ?_ (by first | exact Nat.le_refl _ | (simp; done) | (simp; omega)) _)) (Nat.le_refl _)) hz8

set_option maxHeartbeats 4000000 in
theorem copy_zp (A C : Option Addr) (cc ns kc : Nat) (ss : List Int) (w : World) (hS : Arr w w.heap.size 1 C ns (ss.map (Value.int .i64)))
    (h1 : 0 < ns) (hns : ns ≤ 1000000) :
    Calls Tryd.prog 28 #[.agg #[.slice A 0 cc, .slice C ns kc]] w (InsOf w [] ss 0 ns) := by
  obtain ⟨i0, hi0, hz0, hz1, hz2⟩ := info_parts info_crs
  obtain ⟨i1, hi1, hy0, hy1, hy2⟩ := info_parts info_int
  obtain ⟨b2, o2, rfl, hbB2, hcs⟩ := hS.2 h1
  have hsrc2 : ∀ W, CpS w W → ∀ j u, (ss.map (Value.int .i64))[j]? = some u → W.cell? ((⟨b2, o2, none⟩ : Addr).add j) = some u := fun W hW j u hu => by
    rw [Addr.add_lit]; exact ((bcell hW.b).1 _ _ hbB2).trans (hcs j u hu)
  have HSRC2 := Lib.hid hsrc2
  have HL2 := Lib.hid hS.1
  have HI0 := Lib.hid hi0
  have HI1 := Lib.hid hi1
  clear hsrc2 hS hcs hi0 hi1
  have hst : CpS w ((w.alloc (Obj.cells #[Value.slice A 0 cc, Value.slice (some ⟨b2, o2, none⟩) ns kc] 39)).alloc (Obj.cells #[Value.slice none 0 0, Value.slice none 0 0] 39)) :=
    ⟨(((Below.refl _ _).alloc (Nat.le_refl _) _).alloc (by simp) _), by simp, _, _, by have h := Blk.new (w.alloc (Obj.cells #[Value.slice A 0 cc, Value.slice (some ⟨b2, o2, none⟩) ns kc] 39)) 39 #[Value.slice none 0 0, Value.slice none 0 0]; rw [World.size_alloc] at h; exact h⟩
  go_enter Tryd.func28, Tryd.ntmps28
  go_wp2_with fail
  go_region_held3 (fun W => CpS w W ∧ W.cell? ⟨w.heap.size, 0, none⟩ = some (.slice A 0 cc) ∧ W.cell? ⟨w.heap.size, 1, none⟩ = some (.slice (some ⟨b2, o2, none⟩) ns kc))
    (first | (go_keep; done) | exact keepA (by assumption) | exact keepAd (by assumption) | exact keepA0 (by assumption) | exact keepG (by assumption) (by assumption) | exact keepGd (by assumption) (by assumption) | exact keepT (by assumption) | exact keepTd (by assumption) | exact keepTdd (by assumption))
    (first
      | (refine step_none_cp (w0 := w) (by rfl) _ _ 36 (by rfl) 59 i0 Tryd.underlying36 HI0.out _ _ (by rfl) _ _ (by rfl) (by assumption) ?_; intro A8 r80 r81 x80 x81 x82 x83)
      | (refine step_append_grows (by rfl) _ _ 37 (by rfl) 3 i1 _ 1 8 Tryd.underlying37 HI1.out hy0 hy1 hy2 rfl (by decide) _ 0 0 [] (by rfl) (by intro h; cases h) rfl (by intro q hq j u hu; cases hu) ⟨b2, o2, none⟩ ns kc (ss.map (Value.int .i64)) (by rfl) HL2.out (HSRC2.out _ (by first | assumption | simp [*])) (ints_one ss) (by omega) (by unfold maxLen; omega) (by omega) ?_; intro v9 w9 hown9 hgr9; simp only [Nat.zero_add, List.nil_append] at hown9; have hz9 := base_lt (w := w) hgr9 (by assumption); obtain ⟨g9, c9, rfl, _, _⟩ := hown9.form (by omega); have hs9 := keepG (w := w) hgr9 (by assumption); obtain ⟨_, _, _, _, _, _⟩ := hs9.1.room; have hA9 := Arr.of_own hown9))
  all_goals
    go_wp2
    refine bodyPost_ret (v := .agg #[.slice A8 0 0, .slice (some ⟨g9, 0, none⟩) ns c9]) (by simp only [results, Tryd.results28]; go_simp) rfl ?_
    exact cp_fin9 (by repeat (first | exact hst | exact hs9.1 | rw [CpS_drew] | refine CpS.alloc ?_ _)) (own_up hown9 (by repeat (first | exact Below.refl _ _ | assumption | refine below_drewN ?_ _ | refine Below.drew ?_ | refine Below.alloc ?_ (by first | exact Nat.le_refl _ | omega | (simp; done) | (simp; omega)) _ | refine Below.setCell ?_ (by first | exact Nat.le_refl _ | (simp; done) | (simp; omega)) _)) (Nat.le_refl _)) hz9

theorem step_none_any {P : Program} {ops : Array Oper} {o : Oper} {a : Act} {w : World} {K : Act → World → Prop} {Q : Exit → Act → World → Prop} {E : Prop} (hgd : o.guard = none) (s x : Operand) (t : TypeId)
    (ho : o.op = .call { callee := .builtin .append, args := #[s, x], argTypes := #[t, t] }) (e : TypeId) (i : TypeInfo) (ht : P.underlying t = some (.slice e)) (hi : P.info? e = some i)
    (b off : Nat) (hs : a.eval s = .slice (some ⟨b, off, none⟩) 0 0) (ao : Option Addr) (c : Nat) (hx : a.eval x = .slice ao 0 c)
    (h : ∀ (A : Option Addr), K (a.put o.dst (.slice A 0 0)) w) :
    if Region.wanted o (yielded ops a.tmps) = true then Oper.wp P o a w K Q else E := step_append_none hgd s x t ho e i ht hi b off hs ao c hx (h _)
set_option maxHeartbeats 4000000 in
theorem copy_zz (A C : Option Addr) (cc kc : Nat) (w : World) : Calls Tryd.prog 28 #[.agg #[.slice A 0 cc, .slice C 0 kc]] w (InsOf w [] [] 0 0) := by
  obtain ⟨i0, hi0, hz0, hz1, hz2⟩ := info_parts info_crs
  obtain ⟨i1, hi1, hy0, hy1, hy2⟩ := info_parts info_int
  have HI0 := Lib.hid hi0
  have HI1 := Lib.hid hi1
  clear hi0 hi1 hz0 hz1 hz2 hy0 hy1 hy2
  go_enter Tryd.func28, Tryd.ntmps28
  go_wp2_with fail
  go_region_held3 (fun W => W.cell? ⟨w.heap.size, 0, none⟩ = some (.slice A 0 cc) ∧ W.cell? ⟨w.heap.size, 1, none⟩ = some (.slice C 0 kc)) (go_keep)
    (first
      | (refine step_none_any (by rfl) _ _ 36 (by rfl) 59 i0 Tryd.underlying36 HI0.out _ _ (by rfl) _ _ (by rfl) ?_; intro A8)
      | (refine step_none_any (by rfl) _ _ 37 (by rfl) 3 i1 Tryd.underlying37 HI1.out _ _ (by rfl) _ _ (by rfl) ?_; intro A9))
  all_goals
    go_wp2
    refine bodyPost_ret (v := .agg #[.slice A8 0 0, .slice A9 0 0]) (by simp only [results, Tryd.results28]; go_simp) rfl ?_
    exact ⟨_, _, _, _, rfl, Arr.zero rfl, Arr.zero rfl, (by repeat (first | exact Below.refl _ _ | assumption | refine below_drewN ?_ _ | refine Below.drew ?_ | refine Below.alloc ?_ (by first | exact Nat.le_refl _ | omega | (simp; done) | (simp; omega)) _ | refine Below.setCell ?_ (by first | exact Nat.le_refl _ | (simp; done) | (simp; omega)) _))⟩

/-- Copy: an equal instrument. -/
theorem copy_any (A C : Option Addr) (nc cc ns kc : Nat) (cs : List Crs) (ss : List Int) (w : World) (hC : Arr w w.heap.size 3 A nc (cells3 cs)) (hS : Arr w w.heap.size 1 C ns (ss.map (Value.int .i64)))
    (hnc : nc ≤ 1000000) (hns : ns ≤ 1000000) : Calls Tryd.prog 28 #[.agg #[.slice A nc cc, .slice C ns kc]] w (InsOf w cs ss nc ns) := by
  have hlc : cs.length = nc := by have := hC.1; rw [cells3_length] at this; omega
  have hls : ss.length = ns := by have := hS.1; simpa using this
  by_cases h0 : 0 < nc
  · by_cases h1 : 0 < ns
    · exact copy_pp A C nc cc ns kc cs ss w hC hS h0 h1 hnc hns
    · obtain rfl : ns = 0 := by omega
      obtain rfl : ss = [] := List.eq_nil_of_length_eq_zero hls
      exact copy_pz A C nc cc kc cs w hC h0 hnc
  · obtain rfl : nc = 0 := by omega
    obtain rfl : cs = [] := List.eq_nil_of_length_eq_zero hlc
    by_cases h1 : 0 < ns
    · exact copy_zp A C cc ns kc ss w hS h1 hns
    · obtain rfl : ns = 0 := by omega
      obtain rfl : ss = [] := List.eq_nil_of_length_eq_zero hls
      exact copy_zz A C cc kc w
end Go.Proofs.YtbdhjpdjbogggaaDoor
