/- The standard instruments: names and texts. -/
import Derived.Test.YtbdhjpdjbogggaaDoorW9
import Derived.Laws.Rows
import Derived.Laws.Tables
import Derived.Deep.WholeRow
namespace Go.Proofs.YtbdhjpdjbogggaaDoor
open Go.RowKit

def stdNames : List (List UInt8) := [[108, 117, 116, 101, 54], [108, 117, 116, 101, 55], [108, 117, 116, 101, 49, 48], [98, 97, 114, 111, 113, 117, 101, 49, 51], [116, 104, 101, 111, 114, 98, 111, 49, 52], [118, 105, 104, 117, 101, 108, 97, 54], [103, 117, 105, 116, 97, 114, 52], [103, 117, 105, 116, 97, 114, 53], [99, 105, 116, 116, 101, 114, 110, 52]]
def stdTexts : List (List UInt8) := [
  [71, 52, 47, 56, 32, 68, 52, 47, 56, 32, 65, 51, 47, 56, 32, 70, 51, 47, 56, 43, 32, 67, 51, 47, 56, 43, 32, 71, 50, 47, 56, 43, 32, 58, 32, 49, 32, 50, 32, 51, 32, 52, 32, 53, 32, 54, 32, 55, 32, 56],
  [71, 52, 47, 56, 32, 68, 52, 47, 56, 32, 65, 51, 47, 56, 32, 70, 51, 47, 56, 43, 32, 67, 51, 47, 56, 43, 32, 71, 50, 47, 56, 43, 32, 68, 50, 47, 56, 43, 32, 58, 32, 49, 32, 50, 32, 51, 32, 52, 32, 53, 32, 54, 32, 55, 32, 56],
  [71, 52, 47, 56, 32, 68, 52, 47, 56, 32, 65, 51, 47, 56, 32, 70, 51, 47, 56, 32, 67, 51, 47, 56, 43, 32, 71, 50, 47, 56, 43, 32, 70, 50, 47, 56, 43, 32, 69, 98, 50, 47, 56, 43, 32, 68, 50, 47, 56, 43, 32, 67, 50, 47, 56, 43, 32, 58, 32, 49, 32, 50, 32, 51, 32, 52, 32, 53, 32, 54, 32, 55, 32, 56],
  [70, 52, 47, 57, 32, 68, 52, 47, 57, 32, 65, 51, 47, 57, 32, 70, 51, 47, 57, 32, 68, 51, 47, 57, 32, 65, 50, 47, 57, 43, 32, 71, 50, 47, 57, 43, 32, 70, 50, 47, 57, 43, 32, 69, 50, 47, 48, 43, 32, 68, 50, 47, 48, 43, 32, 67, 50, 47, 48, 43, 32, 66, 49, 47, 48, 43, 32, 65, 49, 47, 48, 43, 32, 58, 32, 49, 32, 50, 32, 51, 32, 52, 32, 53, 32, 54, 32, 55, 32, 56, 32, 57],
  [65, 51, 47, 56, 32, 69, 51, 47, 56, 32, 66, 51, 47, 56, 32, 71, 51, 47, 56, 32, 68, 51, 47, 56, 32, 65, 50, 47, 56, 32, 71, 50, 47, 48, 32, 70, 50, 47, 48, 32, 69, 50, 47, 48, 32, 68, 50, 47, 48, 32, 67, 50, 47, 48, 32, 66, 49, 47, 48, 32, 65, 49, 47, 48, 32, 71, 49, 47, 48, 32, 58, 32, 49, 32, 50, 32, 51, 32, 52, 32, 53, 32, 54, 32, 55, 32, 56],
  [71, 52, 47, 49, 48, 32, 68, 52, 47, 49, 48, 32, 65, 51, 47, 49, 48, 32, 70, 51, 47, 49, 48, 32, 67, 51, 47, 49, 48, 32, 71, 50, 47, 49, 48, 32, 58, 32, 49, 32, 50, 32, 51, 32, 52, 32, 53, 32, 54, 32, 55, 32, 56, 32, 57, 32, 49, 48],
  [65, 52, 47, 56, 32, 69, 52, 47, 56, 32, 67, 52, 47, 56, 32, 71, 51, 47, 56, 43, 32, 58, 32, 49, 32, 50, 32, 51, 32, 52, 32, 53, 32, 54, 32, 55, 32, 56],
  [69, 52, 47, 56, 32, 66, 51, 47, 56, 32, 71, 51, 47, 56, 32, 68, 52, 47, 56, 32, 65, 51, 47, 56, 32, 58, 32, 49, 32, 50, 32, 51, 32, 52, 32, 53, 32, 54, 32, 55, 32, 56],
  [69, 52, 47, 57, 32, 68, 52, 47, 57, 32, 71, 51, 47, 57, 32, 66, 51, 47, 57, 32, 58, 32, 50, 32, 51, 32, 52, 32, 53, 32, 55, 32, 57, 32, 49, 48, 32, 49, 49, 32, 49, 50]]
def strV (l : List UInt8) : Value := .string ⟨l.toArray⟩
def stdV : Value := .agg #[
  .string ⟨#[108, 117, 116, 101, 54]⟩,
  .string ⟨#[71, 52, 47, 56, 32, 68, 52, 47, 56, 32, 65, 51, 47, 56, 32, 70, 51, 47, 56, 43, 32, 67, 51, 47, 56, 43, 32, 71, 50, 47, 56, 43, 32, 58, 32, 49, 32, 50, 32, 51, 32, 52, 32, 53, 32, 54, 32, 55, 32, 56]⟩,
  .string ⟨#[108, 117, 116, 101, 55]⟩,
  .string ⟨#[71, 52, 47, 56, 32, 68, 52, 47, 56, 32, 65, 51, 47, 56, 32, 70, 51, 47, 56, 43, 32, 67, 51, 47, 56, 43, 32, 71, 50, 47, 56, 43, 32, 68, 50, 47, 56, 43, 32, 58, 32, 49, 32, 50, 32, 51, 32, 52, 32, 53, 32, 54, 32, 55, 32, 56]⟩,
  .string ⟨#[108, 117, 116, 101, 49, 48]⟩,
  .string ⟨#[71, 52, 47, 56, 32, 68, 52, 47, 56, 32, 65, 51, 47, 56, 32, 70, 51, 47, 56, 32, 67, 51, 47, 56, 43, 32, 71, 50, 47, 56, 43, 32, 70, 50, 47, 56, 43, 32, 69, 98, 50, 47, 56, 43, 32, 68, 50, 47, 56, 43, 32, 67, 50, 47, 56, 43, 32, 58, 32, 49, 32, 50, 32, 51, 32, 52, 32, 53, 32, 54, 32, 55, 32, 56]⟩,
  .string ⟨#[98, 97, 114, 111, 113, 117, 101, 49, 51]⟩,
  .string ⟨#[70, 52, 47, 57, 32, 68, 52, 47, 57, 32, 65, 51, 47, 57, 32, 70, 51, 47, 57, 32, 68, 51, 47, 57, 32, 65, 50, 47, 57, 43, 32, 71, 50, 47, 57, 43, 32, 70, 50, 47, 57, 43, 32, 69, 50, 47, 48, 43, 32, 68, 50, 47, 48, 43, 32, 67, 50, 47, 48, 43, 32, 66, 49, 47, 48, 43, 32, 65, 49, 47, 48, 43, 32, 58, 32, 49, 32, 50, 32, 51, 32, 52, 32, 53, 32, 54, 32, 55, 32, 56, 32, 57]⟩,
  .string ⟨#[116, 104, 101, 111, 114, 98, 111, 49, 52]⟩,
  .string ⟨#[65, 51, 47, 56, 32, 69, 51, 47, 56, 32, 66, 51, 47, 56, 32, 71, 51, 47, 56, 32, 68, 51, 47, 56, 32, 65, 50, 47, 56, 32, 71, 50, 47, 48, 32, 70, 50, 47, 48, 32, 69, 50, 47, 48, 32, 68, 50, 47, 48, 32, 67, 50, 47, 48, 32, 66, 49, 47, 48, 32, 65, 49, 47, 48, 32, 71, 49, 47, 48, 32, 58, 32, 49, 32, 50, 32, 51, 32, 52, 32, 53, 32, 54, 32, 55, 32, 56]⟩,
  .string ⟨#[118, 105, 104, 117, 101, 108, 97, 54]⟩,
  .string ⟨#[71, 52, 47, 49, 48, 32, 68, 52, 47, 49, 48, 32, 65, 51, 47, 49, 48, 32, 70, 51, 47, 49, 48, 32, 67, 51, 47, 49, 48, 32, 71, 50, 47, 49, 48, 32, 58, 32, 49, 32, 50, 32, 51, 32, 52, 32, 53, 32, 54, 32, 55, 32, 56, 32, 57, 32, 49, 48]⟩,
  .string ⟨#[103, 117, 105, 116, 97, 114, 52]⟩,
  .string ⟨#[65, 52, 47, 56, 32, 69, 52, 47, 56, 32, 67, 52, 47, 56, 32, 71, 51, 47, 56, 43, 32, 58, 32, 49, 32, 50, 32, 51, 32, 52, 32, 53, 32, 54, 32, 55, 32, 56]⟩,
  .string ⟨#[103, 117, 105, 116, 97, 114, 53]⟩,
  .string ⟨#[69, 52, 47, 56, 32, 66, 51, 47, 56, 32, 71, 51, 47, 56, 32, 68, 52, 47, 56, 32, 65, 51, 47, 56, 32, 58, 32, 49, 32, 50, 32, 51, 32, 52, 32, 53, 32, 54, 32, 55, 32, 56]⟩,
  .string ⟨#[99, 105, 116, 116, 101, 114, 110, 52]⟩,
  .string ⟨#[69, 52, 47, 57, 32, 68, 52, 47, 57, 32, 71, 51, 47, 57, 32, 66, 51, 47, 57, 32, 58, 32, 50, 32, 51, 32, 52, 32, 53, 32, 55, 32, 57, 32, 49, 48, 32, 49, 49, 32, 49, 50]⟩]

set_option maxHeartbeats 4000000 in
set_option maxRecDepth 100000 in
theorem std_code (a0 a1 a2 a3 a4 a5 a6 a7 a8 a9 a10 a11 a12 a13 a14 a15 a16 a17 : ByteArray) (w : World) : Code.wp Tryd.prog
    ((Code.region 0 #[{ dst := some 0, op := Op.alloc 94, type := 0, pos := "instrument.go:33", after := #[], guard := none }] false).seq
      ((Code.region 1 #[
        { dst := some 1, op := Op.build 93 #[(0, (Operand.const (Value.string a0))), (1, (Operand.const (Value.string a1)))], type := 93, pos := "instrument.go:34", after := #[], guard := none },
        { dst := some 2, op := Op.build 93 #[(0, (Operand.const (Value.string a2))), (1, (Operand.const (Value.string a3)))], type := 93, pos := "instrument.go:34", after := #[], guard := none },
        { dst := some 3, op := Op.build 93 #[(0, (Operand.const (Value.string a4))), (1, (Operand.const (Value.string a5)))], type := 93, pos := "instrument.go:34", after := #[], guard := none },
        { dst := some 4, op := Op.build 93 #[(0, (Operand.const (Value.string a6))), (1, (Operand.const (Value.string a7)))], type := 93, pos := "instrument.go:34", after := #[], guard := none },
        { dst := some 5, op := Op.build 93 #[(0, (Operand.const (Value.string a8))), (1, (Operand.const (Value.string a9)))], type := 93, pos := "instrument.go:34", after := #[], guard := none },
        { dst := some 6, op := Op.build 93 #[(0, (Operand.const (Value.string a10))), (1, (Operand.const (Value.string a11)))], type := 93, pos := "instrument.go:34", after := #[], guard := none },
        { dst := some 7, op := Op.build 93 #[(0, (Operand.const (Value.string a12))), (1, (Operand.const (Value.string a13)))], type := 93, pos := "instrument.go:34", after := #[], guard := none },
        { dst := some 8, op := Op.build 93 #[(0, (Operand.const (Value.string a14))), (1, (Operand.const (Value.string a15)))], type := 93, pos := "instrument.go:34", after := #[], guard := none },
        { dst := some 9, op := Op.build 93 #[(0, (Operand.const (Value.string a16))), (1, (Operand.const (Value.string a17)))], type := 93, pos := "instrument.go:34", after := #[], guard := none },
        { dst := some 10, op := Op.build 94 #[(0, Operand.tmp 1), (1, Operand.tmp 2), (2, Operand.tmp 3), (3, Operand.tmp 4), (4, Operand.tmp 5), (5, Operand.tmp 6), (6, Operand.tmp 7), (7, Operand.tmp 8), (8, Operand.tmp 9)], type := 94, pos := "instrument.go:34", after := #[{ on := 0, ground := Ground.data }, { on := 1, ground := Ground.data }, { on := 2, ground := Ground.data }, { on := 3, ground := Ground.data }, { on := 4, ground := Ground.data }, { on := 5, ground := Ground.data }, { on := 6, ground := Ground.data }, { on := 7, ground := Ground.data }, { on := 8, ground := Ground.data }], guard := none }, { dst := none, op := Op.store 94 (Operand.tmp 0) (Operand.tmp 10), type := 0, pos := "instrument.go:34", after := #[{ on := 9, ground := Ground.data }, { on := 0, ground := Ground.phase }, { on := 1, ground := Ground.phase }, { on := 2, ground := Ground.phase }, { on := 3, ground := Ground.phase }, { on := 4, ground := Ground.phase }, { on := 5, ground := Ground.phase }, { on := 6, ground := Ground.phase }, { on := 7, ground := Ground.phase }, { on := 8, ground := Ground.phase }, { on := 9, ground := Ground.phase }], guard := none }] false).seq Code.ret))
    (bodyPost Tryd.prog Tryd.f78 fun e w' => e = Ending.returned (.agg #[.string a0, .string a1, .string a2, .string a3, .string a4, .string a5, .string a6, .string a7, .string a8, .string a9, .string a10, .string a11, .string a12, .string a13, .string a14, .string a15, .string a16, .string a17]) ∧ Below w.heap.size w w')
    { tmps := #[undef, undef, undef, undef, undef, undef, undef, undef, undef, undef, undef], defers := [] } w := by
  iterate 41 go_step
  refine wpList_store_row ?_ 94 (.tmp 0) (.tmp 10) ?_ w.heap.size #[.string a0, .string a1, .string a2, .string a3, .string a4, .string a5, .string a6, .string a7, .string a8, .string a9, .string a10, .string a11, .string a12, .string a13, .string a14, .string a15, .string a16, .string a17] ?_ ?_ 94 #[.string ⟨#[]⟩, .string ⟨#[]⟩, .string ⟨#[]⟩, .string ⟨#[]⟩, .string ⟨#[]⟩, .string ⟨#[]⟩, .string ⟨#[]⟩, .string ⟨#[]⟩, .string ⟨#[]⟩, .string ⟨#[]⟩, .string ⟨#[]⟩, .string ⟨#[]⟩, .string ⟨#[]⟩, .string ⟨#[]⟩, .string ⟨#[]⟩, .string ⟨#[]⟩, .string ⟨#[]⟩, .string ⟨#[]⟩] (heap_alloc_new _ _) ?_ ?_ ?_ ?_
  · rfl
  · rfl
  · rfl
  · rfl
  · kernel_rfl
  · rfl
  · simp [Value.oneCell']
  rw [World.setRow_alloc_new]
  refine wpList_nil ?_
  go_step
  go_step
  go_step
  refine bodyPost_ret (v := (.agg #[.string a0, .string a1, .string a2, .string a3, .string a4, .string a5, .string a6, .string a7, .string a8, .string a9, .string a10, .string a11, .string a12, .string a13, .string a14, .string a15, .string a16, .string a17])) ?_ rfl ⟨rfl, (by repeat (first | exact Below.refl _ _ | assumption | refine below_drewN ?_ _ | refine Below.drew ?_ | refine Below.alloc ?_ (by first | exact Nat.le_refl _ | omega | (simp; done) | (simp; omega)) _ | refine Below.setCell ?_ (by first | exact Nat.le_refl _ | (simp; done) | (simp; omega)) _))⟩
  refine results_cell_row (d := _) rfl _ _ w.heap.size 94 _ _ rfl (heap_alloc_new _ _) rfl rfl (by kernel_rfl)

theorem standards_any (w : World) : Calls Tryd.prog 78 #[] w fun e w' => e = .returned stdV ∧ Below w.heap.size w w' := by
  go_enter Tryd.func78, Tryd.ntmps78
  exact std_code _ _ _ _ _ _ _ _ _ _ _ _ _ _ _ _ _ _ w
end Go.Proofs.YtbdhjpdjbogggaaDoor
