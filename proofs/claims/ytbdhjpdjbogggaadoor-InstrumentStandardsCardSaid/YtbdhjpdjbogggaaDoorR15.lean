/- Walk of the reference: Names, Texts. -/
import Derived.Test.YtbdhjpdjbogggaaDoorW10
namespace Go.Proofs.YtbdhjpdjbogggaaDoor
open Go.RowKit

/-- A call returns a row of strings. -/
def StrsRet (w : World) (xs : List ByteArray) (e : Ending) (w' : World) : Prop :=
  ∃ (A : Option Addr) (n c : Nat), e = .returned (.slice A n c) ∧ Arr w' w'.heap.size 1 A n (xs.map Value.string) ∧ Below w.heap.size w w'

def nmL : List ByteArray := (List.range 9).map nmB
def txL : List ByteArray := (List.range 9).map txB

theorem strs_new (w : World) (cells : Array Value) (xs : List ByteArray) (n : Nat) (_hn : 0 < n) (hl : xs.length = n) (hc : cells.toList = xs.map Value.string) {t : TypeId} :
    StrsRet w xs (.returned (.slice (some ⟨w.heap.size, 0, none⟩) n n)) (w.alloc (Obj.cells cells t)) :=
  ⟨_, _, _, rfl, ⟨by simp [hl], fun _ => ⟨w.heap.size, 0, rfl, by simp, fun j u hu => by
    rw [Nat.zero_add, (Blk.new w t cells).cell j, ← Array.getElem?_toList, hc]; exact hu⟩⟩, (Below.refl _ _).alloc (Nat.le_refl _) _⟩

set_option maxRecDepth 100000 in
theorem rnames_any (w : World) : Calls Tryd.prog 36 #[] w (StrsRet w nmL) := by
  go_enter Tryd.func36, Tryd.ntmps36
  go_wp2
  go_ret
  exact strs_new w _ nmL 9 (by decide) rfl rfl
set_option maxRecDepth 100000 in
theorem rtexts_any (w : World) : Calls Tryd.prog 79 #[] w (StrsRet w txL) := by
  go_enter Tryd.func79, Tryd.ntmps79
  go_wp2
  go_ret
  exact strs_new w _ txL 9 (by decide) rfl rfl
end Go.Proofs.YtbdhjpdjbogggaaDoor
