/- The ground with the table of powers of ten; numerals. Nothing is proved of the program here. -/
import Derived.Test.YtbdhjpdjbogggaaDoorX7
import Derived.Test.YtbdhjpdjbogggaaDoorShelf
namespace Go.Proofs.YtbdhjpdjbogggaaDoor
open Go.RowKit
set_option linter.unusedSimpArgs false
set_option linter.unusedVariables false

theorem Fn.up {P : Program} {G G' : Ground} {f : FuncId} {args : List V} {r : V} (h : Fn P G f args r) (h0 : ∀ M w, G'.ok M w → G.ok M w) : Fn P G' f args r := fun m E w cargs hG hm hv => h m E w cargs (h0 _ _ hG) hm hv

def pwCells : Array Value := (Lib.pow10Tab.map fun z => Value.int .u64 z).toArray
theorem pwCells_size : pwCells.size = 20 := by simp [pwCells, Lib.pow10Tab]
def pwB : Nat := 3
theorem gPow : Tryd.prog.globalNamed "internal/strconv.uint64pow10" = some pwB := by kernel_rfl
/-- The table stands whole. -/
def PowOk (M : Nat → Nat → Option Value) (w : World) : Prop := (∃ t fr, w.heap[pwB]? = some (.cells pwCells t fr)) ∧ ∀ o u, pwCells[o]? = some u → M pwB o = some u
theorem PowOk.tab {M : Nat → Nat → Option Value} {w : World} (h : PowOk M w) : Lib.TabIs Tryd.prog w "internal/strconv.uint64pow10" .u64 Lib.pow10Tab := by
  obtain ⟨⟨t, fr, h1⟩, _⟩ := h
  unfold Lib.TabIs World.var?
  rw [gPow, Option.bind_some, h1]; rfl
theorem PowOk.step {X : Nat → Prop} {E E' : Env} {m m' : Mm} {w w' : World} (hm : MemR E m w) (hs : Step X E m w E' m' w') (h : PowOk E.M w) : PowOk E'.M w' := by
  obtain ⟨⟨t, fr, h1⟩, h2⟩ := h
  have h20 := pwCells_size
  have hlt := heap_lt h1
  refine ⟨⟨t, fr, (hs.kept pwB hlt fun i hi => ?_).trans h1⟩, fun o u hu => hs.le.M _ _ _ (h2 o u hu)⟩
  rcases hi with ⟨cs, t', ho, hφ⟩ | ⟨n, e, size, cap, ho, hl, hn⟩
  · obtain ⟨b, c, h3, h4, _, h5⟩ := hm.box i cs t' ho
    rw [hφ] at h3; cases h3
    have := h2 0 _ (Array.getElem?_eq_getElem (show 0 < pwCells.size by omega))
    rw [h5 0] at this; cases this
  · obtain ⟨A, cap', h3, _, _, h5⟩ := hm.row i n e size ho
    rw [hl] at h3; cases h3
    obtain ⟨b, c, h6, h7, h8, h9⟩ := h5 hn
    cases h6
    rw [h1] at h7
    have hc : c = pwCells := by cases h7; rfl
    subst hc
    have hsz : n * size < cap * size := by
      rcases Nat.eq_zero_or_pos size with h0 | h0
      · rw [h0, Nat.mul_zero] at h8; omega
      · exact Nat.mul_lt_mul_of_pos_right hn h0
    have := h2 (n * size) _ (Array.getElem?_eq_getElem (show n * size < pwCells.size by omega))
    rw [h9 _ (Nat.le_refl _)] at this; cases this
/-- This program's ground, with that table. -/
def Gp : Ground := ⟨fun M w => GOk M ∧ PowOk M w, fun _ _ _ _ _ _ _ hm hs h => ⟨GOk.mono hs.le.M h.1, h.2.step hm hs⟩, gtab, gtab_clean, fun E _ h g => gtab_ok E h.1 g⟩
theorem up {f : FuncId} {args : List V} {r : V} (h : Fn Tryd.prog Gd f args r) : Fn Tryd.prog Gp f args r := h.up fun _ _ h => h.1

def str (l : List UInt8) : V := .lit (.string ⟨l.toArray⟩)
theorem grow_below (w : World) (k : Nat) (os : Array Obj) : Below w.heap.size w (Go.Sort.grow (w.drewN k) os) :=
  ⟨rfl, rfl, rfl, by simp [Go.Sort.grow], fun b hb => by simp [Go.Sort.grow, Array.getElem?_append, hb]⟩
theorem itoa_fn (n : Int) (h0 : -9223372036854775808 ≤ n) (h1 : n ≤ 9223372036854775807) : Fn Tryd.prog Gp 85 [vint n] (str (Lib.itoa n)) :=
  Fn.of_calls fun E w cargs hG hst hv => by
    obtain ⟨c, hc, hr⟩ := VRs_one hv
    obtain rfl : cargs = #[c] := Array.ext' hc
    obtain rfl := VR_lit hr
    refine (Tryd.strconv_Itoa n h0 h1 w hG.2.tab).mono ?_
    rintro e w' ⟨rfl, k, os, rfl⟩
    have hb := grow_below w k os
    exact ⟨_, rfl, hb, E.M, fun _ _ _ x => x, fun _ _ _ => rfl, fun b o v hM => by rw [hb.cell (p := ⟨b, o, none⟩) (cell_lt (hst _ _ _ hM))]; exact hst _ _ _ hM, VR_mk rfl⟩

/-! ### Numerals -/
theorem itoa_nat (n : Nat) : Lib.itoa (n : Int) = Lib.decDigits n := by rw [Lib.itoa, if_neg (by omega)]; rfl
theorem dec_small {n : Nat} (h : n < 10) : Lib.decDigits n = [UInt8.ofNat (48 + n)] := by rw [Lib.decDigits, dif_pos h]
theorem dec_big {n : Nat} (h : ¬ n < 10) : Lib.decDigits n = Lib.decDigits (n / 10) ++ [UInt8.ofNat (48 + n % 10)] := by rw [Lib.decDigits, dif_neg h]
theorem bytes_append (a b : List UInt8) : (⟨a.toArray⟩ : ByteArray) ++ ⟨b.toArray⟩ = ⟨(a ++ b).toArray⟩ := by
  apply ByteArray.ext
  simp
theorem vadd {a b : List UInt8} (h : a.length + b.length ≤ 9223372036854775807) : vbinS .add ⟨a.toArray⟩ ⟨b.toArray⟩ = some (.string ⟨(a ++ b).toArray⟩) := by
  rw [vbinS, if_pos, bytes_append]
  show a.toArray.size + b.toArray.size ≤ _
  simpa using h
theorem dig_fin : ∀ d : Fin 10, (⟨#[48, 49, 50, 51, 52, 53, 54, 55, 56, 57]⟩ : ByteArray).extract d.val (d.val + 1) = ⟨[UInt8.ofNat (48 + d.val)].toArray⟩ := by decide +kernel
end Go.Proofs.YtbdhjpdjbogggaaDoor
