/- Calls of the library on values: numerals, written and read; texts that are split. -/
import Derived.Test.YtgabmmdllcbkoaaGreatDoorBA
import Derived.Test.YtgabmmdllcbkoaaGreatDoorDA
set_option linter.unusedSimpArgs false
set_option linter.unusedVariables false
set_option maxRecDepth 100000
namespace Go.Proofs.YtgabmmdllcbkoaaGreatDoor
open Go.RowKit
theorem itoa_fn {n : Int} (h0 : 0 ≤ n) (h1 : n ≤ 18) : Fn Tryz.prog Gd 14 [vint n] (str (Lib.itoa n)) := by
  refine Fn.of_calls fun E w cargs hG hst hv => ?_
  obtain ⟨c, rfl, hc⟩ := one_arg hv
  obtain rfl := VR_lit hc
  have e := (it_at h0 h1).2.2.2.2.2
  have en : ((n.toNat : Nat) : Int) = n := by omega
  have key := Tryz.strconv_Itoa_small n.toNat (by omega) w
  rw [en] at key
  refine key.mono ?_
  rintro e' w' ⟨rfl, rfl⟩
  refine ⟨_, rfl, Below.refl _ _, E.M, fun _ _ _ x => x, fun _ _ _ => rfl, hst, ?_⟩
  rw [← e]; exact VR_mk rfl
/-- A list of texts. -/
def tSs (l : List (List UInt8)) : V := .sl l.length (l.map str) .no
theorem pure_tSs (l : List (List UInt8)) : (tSs l).pure = true := by rw [tSs, V.pure]; intro t h; cases h
theorem strs_clean (l : List (List UInt8)) : V.clean (l.map str) = true := by
  rw [clean_iff, pures_iff]
  refine ⟨fun v hv => ?_, fun v hv => ?_⟩ <;> (obtain ⟨x, _, rfl⟩ := List.mem_map.1 hv; rfl)
theorem strs_at {l : List (List UInt8)} {k : Nat} (h : k < l.length) : (l.map str)[k]? = some (str (l.getD k [])) := by
  rw [List.getElem?_map, List.getD_eq_getElem?_getD, List.getElem?_eq_getElem h]; rfl
theorem split_fn (c : UInt8) (l : List UInt8) (hl : l.length < 4294967281) : Fn Tryz.prog Gd 17 [str l, str [c]] (tSs (splitC c l)) := by
  refine Fn.of_calls fun E w cargs hG hst hv => ?_
  obtain ⟨a, b, rfl, h1, h2⟩ := two_args hv
  obtain rfl := VR_lit h1
  obtain rfl := VR_lit h2
  obtain ⟨m, hm⟩ := hG.ml
  refine (Tryz.strings_Split ⟨l.toArray⟩ ⟨#[c]⟩ m w hl (hst _ _ _ hm) (show 1 ≤ (⟨#[c]⟩ : ByteArray).size from Nat.le_refl 1)).mono ?_
  rintro e w' ⟨rfl, rfl⟩
  have hsp := split_eq c ⟨l.toArray⟩
  have hlen : (Lib.splitB ⟨#[c]⟩ 0 (Lib.countB ⟨l.toArray⟩ ⟨#[c]⟩) ⟨l.toArray⟩).length = Lib.countB ⟨l.toArray⟩ ⟨#[c]⟩ + 1 := Lib.splitB_all ⟨#[c]⟩ (show 1 ≤ (⟨#[c]⟩ : ByteArray).size from Nat.le_refl 1) 0 _ _ rfl
  generalize hws : Lib.splitB ⟨#[c]⟩ 0 (Lib.countB ⟨l.toArray⟩ ⟨#[c]⟩) ⟨l.toArray⟩ = ws at *
  have hll : (splitC c l).length = ws.length := by rw [← hsp, List.length_map]
  rw [← hlen]
  have hg : (w.alloc (.cells (ws.map Value.string).toArray 9)).heap[w.heap.size]? = some (.cells (ws.map Value.string).toArray 9 (0, 0)) := heap_alloc_new w _
  have hlt : ∀ b o v, E.M b o = some v → b < w.heap.size := fun b o v hv => World.block_lt_of_cell? w ⟨b, o, none⟩ (hst b o v hv)
  let M' : Nat → Nat → Option Value := fun b o => if b = w.heap.size then (ws.map Value.string)[o]? else E.M b o
  refine ⟨_, rfl, (Below.refl _ _).alloc (Nat.le_refl _) _, M', fun b o v hv => ?_, fun b o hb => ?_, fun b o v hv => ?_, ?_⟩
  · show (if b = w.heap.size then _ else _) = _
    rw [if_neg (by have := hlt b o v hv; omega)]; exact hv
  · show (if b = w.heap.size then _ else _) = _
    rw [if_neg (by omega)]
  · change (if b = w.heap.size then _ else _) = _ at hv
    split at hv
    · rename_i hb; subst hb
      rw [Lib.cell_of_heap hg]; simpa using hv
    · have hb := hlt b o v hv
      have := ((Below.refl w.heap.size w).alloc (Nat.le_refl _) (.cells (ws.map Value.string).toArray 9)).cell (p := ⟨b, o, none⟩) hb
      rw [this]; exact hst b o v hv
  · rw [tSs, VR, hll]
    refine ⟨_, _, rfl, Nat.le_refl _, trivial, strs_clean _, .inr ⟨_, 0, rfl, At.of_get fun i v hi => ?_⟩⟩
    rw [← hsp, List.map_map, List.getElem?_map] at hi
    obtain ⟨x, hx, rfl⟩ := Option.map_eq_some_iff.1 hi
    refine ⟨.string x, ?_, VR_mk rfl⟩
    show (if w.heap.size = w.heap.size then _ else _) = _
    rw [if_pos rfl, Nat.zero_add, List.getElem?_map, hx]; rfl
/-- What Atoi answers. -/
def AtP (l : List UInt8) (r : V) : Prop :=
  match Lib.atoiAll l with
  | .ok v => r = .tup [vint v, .lit .nilIface]
  | _ => ∃ n te pe, r = .tup [vint n, .lit (.iface te pe)]
theorem VR_tup2 {E : Env} {a b : Value} (ha : flat a = true) (hb : flat b = true) : VR E (.tup [.lit a, .lit b]) (.tuple #[a, b]) := by
  rw [VR]
  refine ⟨_, rfl, ?_⟩
  rw [VRs]
  refine ⟨_, _, rfl, VR_mk ha, ?_⟩
  rw [VRs]
  exact ⟨_, _, rfl, VR_mk hb, by rw [VRs]⟩
theorem atoi_sfn (l : List UInt8) (hl : l.length ≤ 281474976710656) (m : Mm) : SFn Tryz.prog Gd 18 [str l] m (fun r m' => AtP l r ∧ m' = m) := by
  refine SFn.of_flat fun E w cargs hG hst hv => ?_
  obtain ⟨c, rfl, hc⟩ := one_arg hv
  obtain rfl := VR_lit hc
  unfold AtP
  cases h : Lib.atoiAll l with
  | ok v =>
    refine (Tryz.strconv_Atoi_ok ⟨l.toArray⟩ (by show l.length ≤ _; omega) v h w).mono ?_
    rintro e w' ⟨rfl, hw⟩
    refine ⟨_, _, rfl, rfl, ?_, fun E => VR_tup2 rfl rfl⟩
    rcases hw with rfl | ⟨t, rfl⟩
    · exact Below.refl _ _
    · exact Lib.bytesWorld_below w 5 t
  | range =>
    obtain ⟨te, pe, hs⟩ := hG.ra
    refine (Tryz.strconv_Atoi_range ⟨l.toArray⟩ hl h _ w (hst _ _ _ hs) (.inr ⟨_, _, rfl⟩)).mono ?_
    rintro e w' ⟨N, rfl, _, _, hb⟩
    exact ⟨_, _, rfl, ⟨_, _, _, rfl⟩, hb, fun E => VR_tup2 rfl rfl⟩
  | _ =>
    obtain ⟨te, pe, hs⟩ := hG.sy
    refine (Tryz.strconv_Atoi_syntax ⟨l.toArray⟩ hl h _ w (hst _ _ _ hs) (.inr ⟨_, _, rfl⟩)).mono ?_
    rintro e w' ⟨N, rfl, _, _, hb⟩
    exact ⟨_, _, rfl, ⟨_, _, _, rfl⟩, hb, fun E => VR_tup2 rfl rfl⟩
theorem atP_ex (l : List UInt8) (m : Mm) : ∃ r m', AtP l r ∧ m' = m := by
  unfold AtP
  cases Lib.atoiAll l with
  | ok v => exact ⟨_, m, rfl, rfl⟩
  | _ => exact ⟨_, m, ⟨0, 0, .nilIface, rfl⟩, rfl⟩
end Go.Proofs.YtgabmmdllcbkoaaGreatDoor
