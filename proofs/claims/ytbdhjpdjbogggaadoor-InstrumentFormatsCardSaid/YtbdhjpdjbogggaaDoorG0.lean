/- What stands in memory throughout: the two tables. Nothing is proved of the program here. -/
import Derived.Test.YtbdhjpdjbogggaaDoorVt
import Derived.Test.YtbdhjpdjbogggaaDoorBase
namespace Go.Proofs.YtbdhjpdjbogggaaDoor
open Go.RowKit

def nobx : Nat → Bool := fun _ => false
def gtab : Nat → List V :=
  fun
  | 0 => [.lit (.int .i64 0), .lit (.int .i64 2), .lit (.int .i64 4), .lit (.int .i64 (-1)), .lit (.int .i64 1), .lit (.int .i64 3), .lit (.int .i64 5)]
  | 1 => [.lit (.int .i64 0), .lit (.int .i64 2), .lit (.int .i64 4), .lit (.int .i64 5), .lit (.int .i64 7), .lit (.int .i64 9), .lit (.int .i64 11)]
  | _ => []
/-- The tables' cells, the library's variable, and that there are eight blocks. -/
structure GOk (M : Nat → Nat → Option Value) : Prop where
  f : ∀ i, i < 7 → M 0 i = some (.int .i64 (fifL.getD i 0))
  b : ∀ i, i < 7 → M 1 i = some (.int .i64 (basL.getD i 0))
  ml : ∃ m, M 2 0 = some (.int .i64 m)
  sz : ∃ b o v, 7 ≤ b ∧ M b o = some v
theorem GOk.mono {M M' : Nat → Nat → Option Value} (h : ∀ b o v, M b o = some v → M' b o = some v) (hM : GOk M) : GOk M' :=
  ⟨fun i hi => h _ _ _ (hM.f i hi), fun i hi => h _ _ _ (hM.b i hi), hM.ml.elim fun m hm => ⟨m, h _ _ _ hm⟩, hM.sz.elim fun b x => x.elim fun o x => x.elim fun v x => ⟨b, o, v, x.1, h _ _ _ x.2⟩⟩
theorem gtab_ok (E : Env) (h : GOk E.M) (g : Nat) : At E g 0 (gtab g) := by
  refine At.of_get fun i v hv => ?_
  rw [Nat.zero_add]
  unfold gtab at hv
  split at hv
  · have hi : i < 7 := by have := (List.getElem?_eq_some_iff.1 hv).1; simpa using this
    refine ⟨_, h.f i hi, ?_⟩
    have : i = 0 ∨ i = 1 ∨ i = 2 ∨ i = 3 ∨ i = 4 ∨ i = 5 ∨ i = 6 := by omega
    rcases this with rfl | rfl | rfl | rfl | rfl | rfl | rfl <;> (cases hv; exact VR_mk rfl)
  · have hi : i < 7 := by have := (List.getElem?_eq_some_iff.1 hv).1; simpa using this
    refine ⟨_, h.b i hi, ?_⟩
    have : i = 0 ∨ i = 1 ∨ i = 2 ∨ i = 3 ∨ i = 4 ∨ i = 5 ∨ i = 6 := by omega
    rcases this with rfl | rfl | rfl | rfl | rfl | rfl | rfl <;> (cases hv; exact VR_mk rfl)
  · simp at hv
theorem gtab_clean (g : Nat) : V.clean (gtab g) = true := by
  unfold gtab
  split <;> rfl
/-- This program's ground. -/
def Gd : Ground := ⟨fun M _ => GOk M, fun _ _ _ _ _ _ _ _ hs h => GOk.mono hs.le.M h, gtab, gtab_clean, fun E _ h g => gtab_ok E h g⟩
/-- The ground as the machine has it. -/
theorem gnd_w {M : Nat → Nat → Option Value} {w : World} (h : GOk M) (hM : ∀ b o v, M b o = some v → w.cell? ⟨b, o, none⟩ = some v) : Gnd w :=
  ⟨hM _ _ _ (h.f 0 (by decide)), hM _ _ _ (h.f 1 (by decide)), hM _ _ _ (h.f 2 (by decide)), hM _ _ _ (h.f 3 (by decide)), hM _ _ _ (h.f 4 (by decide)), hM _ _ _ (h.f 5 (by decide)), hM _ _ _ (h.f 6 (by decide)),
    hM _ _ _ (h.b 0 (by decide)), hM _ _ _ (h.b 1 (by decide)), hM _ _ _ (h.b 2 (by decide)), hM _ _ _ (h.b 3 (by decide)), hM _ _ _ (h.b 4 (by decide)), hM _ _ _ (h.b 5 (by decide)), hM _ _ _ (h.b 6 (by decide)),
    h.ml.elim fun m hm => ⟨m, hM _ _ _ hm⟩, by obtain ⟨b, o, v, hb, hv⟩ := h.sz; have := cell_lt (hM _ _ _ hv); omega⟩
end Go.Proofs.YtbdhjpdjbogggaaDoor
