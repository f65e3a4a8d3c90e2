/- Functions of the program, as code on values by numbers: printed by a program from the program that was given, and held against it here. -/
import Derived.Test.YtojjdkoglhecbaaG0
namespace Go.Proofs.Ytojjdkoglhecbaa
open Go.RowKit

set_option maxRecDepth 100000 in
abbrev c_hand_Standard_p1 : VC :=
  (.seq (.ops 0 [⟨(some 1), none, (.mksl 4 1 [(.lit (.int .i64 0)), (.lit (.int .i64 0)), (.lit (.int .i64 0)), (.lit (.int .i64 0))] [(0, 1), (1, 1), (2, 1), (3, 1)]), [(.c (.lit (.int .i64 0))), (.c (.lit (.int .i64 1))), (.c (.lit (.int .i64 2))), (.c (.lit (.int .i64 3)))], none⟩, ⟨(some 2), none, (.mksl 4 1 [(.lit (.int .i64 0)), (.lit (.int .i64 0)), (.lit (.int .i64 0)), (.lit (.int .i64 0))] [(0, 1), (1, 1), (2, 1), (3, 1)]), [(.c (.lit (.int .i64 0))), (.c (.lit (.int .i64 2))), (.c (.lit (.int .i64 3))), (.c (.lit (.int .i64 4)))], none⟩, ⟨(some 3), none, (.mksl 4 1 [(.lit (.bool false)), (.lit (.bool false)), (.lit (.bool false)), (.lit (.bool false))] [(0, 1), (1, 1), (2, 1), (3, 1)]), [(.c (.lit (.bool true))), (.c (.lit (.bool false))), (.c (.lit (.bool false))), (.c (.lit (.bool false)))], none⟩, ⟨(some 4), none, (.build [(.sl 0 [] .exact), (.sl 0 [] .exact), (.sl 0 [] .exact), (.lit (.int .i64 0)), (.lit (.int .i64 0)), (.lit (.int .i64 0)), (.lit (.int .i64 0)), (.lit (.int .i64 0)), (.lit (.int .i64 0)), (.lit (.int .i64 0))] [(0, 1), (1, 1), (2, 1), (3, 1), (4, 1), (5, 1), (6, 1), (7, 1), (8, 1), (9, 1)]), [(.t 1), (.t 2), (.t 3), (.c (.lit (.int .i64 12))), (.c (.lit (.int .i64 7))), (.c (.lit (.int .i64 2))), (.c (.lit (.int .i64 3))), (.c (.lit (.int .i64 4))), (.c (.lit (.int .i64 2))), (.c (.lit (.int .i64 1)))], none⟩, ⟨none, none, (.st 10), [(.t 0), (.t 4)], none⟩]) .ret)
set_option maxRecDepth 100000 in
def c_hand_Standard : VC :=
  (.seq (.ops 1 [⟨(some 0), none, (.alloc 25 [(.sl 0 [] .exact), (.sl 0 [] .exact), (.sl 0 [] .exact), (.lit (.int .i64 0)), (.lit (.int .i64 0)), (.lit (.int .i64 0)), (.lit (.int .i64 0)), (.lit (.int .i64 0)), (.lit (.int .i64 0)), (.lit (.int .i64 0))]), [], none⟩]) c_hand_Standard_p1)
set_option maxRecDepth 100000 in
theorem k_hand_Standard : Comp Try.prog nobx gtab 21 5 c_hand_Standard [(.c 0 10 true)] := ⟨⟨Try.f21, _, Try.func21, rfl, rfl, by kernel_rfl, by kernel_rfl⟩⟩
set_option maxRecDepth 100000 in
abbrev c_hand_Check_p1 : VC :=
  (.seq (.ops 0 [⟨(some 2), none, .mv, [(.c (.lit (.int .i64 60)))], none⟩]) .ret)
set_option maxRecDepth 100000 in
abbrev c_hand_Check_p2 : VC :=
  (.seq (.ops 0 [⟨(some 2), none, .mv, [(.c (.lit (.int .i64 60)))], none⟩]) .ret)
set_option maxRecDepth 100000 in
abbrev c_hand_Check_p3 : VC :=
  (.seq (.ops 0 [⟨(some 31), none, (.fldA 0), [(.t 1)], none⟩, ⟨(some 32), none, .ld1, [(.t 31)], none⟩, ⟨(some 33), none, .mv, [(.t 4)], none⟩, ⟨(some 34), none, (.ixA 1), [(.t 32), (.t 33)], none⟩, ⟨(some 35), none, .ld1, [(.t 34)], none⟩, ⟨(some 36), none, (.bin .lss), [(.t 35), (.c (.lit (.int .i64 0)))], none⟩, ⟨(some 37), none, .mv, [(.t 36)], none⟩, ⟨(some 38), (some (37, false)), (.fldA 0), [(.t 1)], none⟩, ⟨(some 39), (some (37, false)), .ld1, [(.t 38)], (some [0, 1, 2, 3, 4, 5, 6, 7])⟩, ⟨(some 40), (some (37, false)), .mv, [(.t 4)], none⟩, ⟨(some 41), (some (37, false)), (.ixA 1), [(.t 39), (.t 40)], none⟩, ⟨(some 42), (some (37, false)), .ld1, [(.t 41)], (some [0, 1, 2, 3, 4, 5, 6, 7, 8, 9, 10])⟩, ⟨(some 43), (some (37, false)), (.fldA 1), [(.t 1)], none⟩, ⟨(some 44), (some (37, false)), .ld1, [(.t 43)], (some [0, 1, 2, 3, 4, 5, 6, 12])⟩, ⟨(some 45), (some (37, false)), .mv, [(.t 4)], none⟩, ⟨(some 46), (some (37, false)), (.ixA 1), [(.t 44), (.t 45)], none⟩, ⟨(some 47), (some (37, false)), .ld1, [(.t 46)], (some [0, 1, 2, 3, 4, 5, 6, 12, 13, 14, 15])⟩, ⟨(some 48), (some (37, false)), (.bin .gtr), [(.t 42), (.t 47)], none⟩, ⟨(some 49), none, .pick, [(.t 37), (.c (.lit (.bool true))), (.t 48)], none⟩, ⟨(some 50), none, .mv, [(.t 49)], none⟩, ⟨(some 51), (some (50, false)), (.fldA 1), [(.t 1)], none⟩, ⟨(some 52), (some (50, false)), .ld1, [(.t 51)], none⟩, ⟨(some 53), (some (50, false)), .mv, [(.t 4)], none⟩, ⟨(some 54), (some (50, false)), (.ixA 1), [(.t 52), (.t 53)], none⟩, ⟨(some 55), (some (50, false)), .ld1, [(.t 54)], none⟩, ⟨(some 56), (some (50, false)), (.bin .gtr), [(.t 55), (.c (.lit (.int .i64 8)))], none⟩, ⟨(some 57), none, .pick, [(.t 50), (.c (.lit (.bool true))), (.t 56)], none⟩]) (.cond (.t 57) c_hand_Check_p2 .skip))
set_option maxRecDepth 100000 in
abbrev c_hand_Check_p4 : VC :=
  (.ops 0 [⟨(some 58), none, (.bin .add), [(.t 28), (.c (.lit (.int .i64 1)))], none⟩, ⟨(some 28), none, .mv, [(.t 58)], none⟩])
set_option maxRecDepth 100000 in
abbrev c_hand_Check_p5 : VC :=
  (.seq (.block 1 (.seq (.ops 0 [⟨(some 30), none, .mv, [(.t 28)], none⟩, ⟨(some 4), none, .mv, [(.t 30)], none⟩]) c_hand_Check_p3)) c_hand_Check_p4)
set_option maxRecDepth 100000 in
abbrev c_hand_Check_p6 : VC :=
  (.seq (.ops 0 [⟨(some 29), none, (.bin .lss), [(.t 28), (.t 27)], none⟩]) (.seq (.cond (.t 29) .skip (.exit 0)) c_hand_Check_p5))
abbrev w_hand_Check_p6 : Nat := 576460752034988052
set_option maxRecDepth 100000 in
abbrev c_hand_Check_p8 : VC :=
  (.seq (.ops 0 [⟨(some 2), none, .mv, [(.c (.lit (.int .i64 60)))], none⟩]) .ret)
set_option maxRecDepth 100000 in
abbrev c_hand_Check_p9 : VC :=
  (.seq (.ops 0 [⟨(some 2), none, .mv, [(.c (.lit (.int .i64 60)))], none⟩]) .ret)
set_option maxRecDepth 100000 in
abbrev c_hand_Check_p10 : VC :=
  (.seq (.ops 0 [⟨(some 97), none, .mv, [(.t 6)], none⟩, ⟨(some 98), none, (.call 63), [(.t 97), (.c (.lit (.int .i64 0))), (.c (.lit (.int .i64 1000)))], none⟩, ⟨(some 99), none, (.un .not), [(.t 98)], none⟩]) (.cond (.t 99) c_hand_Check_p9 .skip))
set_option maxRecDepth 100000 in
abbrev c_hand_Check_p11 : VC :=
  (.ops 0 [⟨(some 100), none, (.bin .add), [(.t 93), (.c (.lit (.int .i64 1)))], none⟩, ⟨(some 93), none, .mv, [(.t 100)], none⟩])
set_option maxRecDepth 100000 in
abbrev c_hand_Check_p12 : VC :=
  (.seq (.block 3 (.seq (.ops 0 [⟨(some 95), none, (.ixA 1), [(.t 91), (.t 93)], none⟩, ⟨(some 96), none, .ld1, [(.t 95)], none⟩, ⟨(some 6), none, .mv, [(.t 96)], none⟩]) c_hand_Check_p10)) c_hand_Check_p11)
set_option maxRecDepth 100000 in
abbrev c_hand_Check_p13 : VC :=
  (.seq (.ops 0 [⟨(some 94), none, (.bin .lss), [(.t 93), (.t 92)], none⟩]) (.seq (.cond (.t 94) .skip (.exit 2)) c_hand_Check_p12))
abbrev w_hand_Check_p13 : Nat := 2525397680142175760794213417028
set_option maxRecDepth 100000 in
abbrev c_hand_Check_p15 : VC :=
  (.seq (.ops 0 [⟨(some 2), none, .mv, [(.c (.lit (.int .i64 0)))], none⟩]) .ret)
set_option maxRecDepth 100000 in
abbrev c_hand_Check_p16 : VC :=
  (.seq (.seq (.ops 0 [⟨(some 81), none, (.fldA 5), [(.t 1)], none⟩, ⟨(some 82), none, .ld1, [(.t 81)], none⟩, ⟨(some 83), none, (.fldA 6), [(.t 1)], none⟩, ⟨(some 84), none, .ld1, [(.t 83)], none⟩, ⟨(some 85), none, (.fldA 7), [(.t 1)], none⟩, ⟨(some 86), none, .ld1, [(.t 85)], none⟩, ⟨(some 87), none, (.fldA 8), [(.t 1)], none⟩, ⟨(some 88), none, .ld1, [(.t 87)], none⟩, ⟨(some 89), none, (.fldA 9), [(.t 1)], none⟩, ⟨(some 90), none, .ld1, [(.t 89)], none⟩, ⟨(some 91), none, (.mksl 5 1 [(.lit (.int .i64 0)), (.lit (.int .i64 0)), (.lit (.int .i64 0)), (.lit (.int .i64 0)), (.lit (.int .i64 0))] [(0, 1), (1, 1), (2, 1), (3, 1), (4, 1)]), [(.t 82), (.t 84), (.t 86), (.t 88), (.t 90)], none⟩, ⟨(some 92), none, .len, [(.t 91)], none⟩, ⟨(some 93), none, .mv, [(.c (.lit (.int .i64 0)))], none⟩]) (.block 2 (.loop c_hand_Check_p13))) c_hand_Check_p15)
set_option maxRecDepth 100000 in
abbrev c_hand_Check_p17 : VC :=
  (.seq (.seq (.ops 0 [⟨(some 59), none, (.fldA 0), [(.t 1)], none⟩, ⟨(some 60), none, .ld1, [(.t 59)], none⟩, ⟨(some 61), none, (.call 64), [(.t 60)], none⟩, ⟨(some 62), none, (.un .not), [(.t 61)], none⟩, ⟨(some 63), none, .mv, [(.t 62)], none⟩, ⟨(some 64), (some (63, false)), (.fldA 1), [(.t 1)], none⟩, ⟨(some 65), (some (63, false)), .ld1, [(.t 64)], none⟩, ⟨(some 66), (some (63, false)), (.call 64), [(.t 65)], none⟩, ⟨(some 67), (some (63, false)), (.un .not), [(.t 66)], none⟩, ⟨(some 68), none, .pick, [(.t 63), (.c (.lit (.bool true))), (.t 67)], none⟩, ⟨(some 69), none, .mv, [(.t 68)], none⟩, ⟨(some 70), (some (69, false)), (.fldA 3), [(.t 1)], none⟩, ⟨(some 71), (some (69, false)), .ld1, [(.t 70)], none⟩, ⟨(some 72), (some (69, false)), (.call 63), [(.t 71), (.c (.lit (.int .i64 1))), (.c (.lit (.int .i64 18)))], none⟩, ⟨(some 73), (some (69, false)), (.un .not), [(.t 72)], none⟩, ⟨(some 74), none, .pick, [(.t 69), (.c (.lit (.bool true))), (.t 73)], none⟩, ⟨(some 75), none, .mv, [(.t 74)], none⟩, ⟨(some 76), (some (75, false)), (.fldA 4), [(.t 1)], none⟩, ⟨(some 77), (some (75, false)), .ld1, [(.t 76)], none⟩, ⟨(some 78), (some (75, false)), (.call 63), [(.t 77), (.c (.lit (.int .i64 0))), (.c (.lit (.int .i64 18)))], none⟩, ⟨(some 79), (some (75, false)), (.un .not), [(.t 78)], none⟩, ⟨(some 80), none, .pick, [(.t 75), (.c (.lit (.bool true))), (.t 79)], none⟩]) (.cond (.t 80) c_hand_Check_p8 .skip)) c_hand_Check_p16)
set_option maxRecDepth 100000 in
abbrev c_hand_Check_p18 : VC :=
  (.seq (.seq (.ops 0 [⟨(some 27), none, .mv, [(.t 3)], none⟩, ⟨(some 28), none, .mv, [(.c (.lit (.int .i64 0)))], none⟩]) (.block 0 (.loop c_hand_Check_p6))) c_hand_Check_p17)
set_option maxRecDepth 100000 in
abbrev c_hand_Check_p19 : VC :=
  (.seq (.seq (.ops 0 [⟨(some 10), none, .mv, [(.t 3)], none⟩, ⟨(some 11), none, (.call 63), [(.t 10), (.c (.lit (.int .i64 1))), (.c (.lit (.int .i64 4)))], none⟩, ⟨(some 12), none, (.un .not), [(.t 11)], none⟩, ⟨(some 13), none, .mv, [(.t 12)], none⟩, ⟨(some 14), (some (13, false)), (.fldA 1), [(.t 1)], none⟩, ⟨(some 15), (some (13, false)), .ld1, [(.t 14)], none⟩, ⟨(some 16), (some (13, false)), .len, [(.t 15)], none⟩, ⟨(some 17), (some (13, false)), .mv, [(.t 3)], none⟩, ⟨(some 18), (some (13, false)), (.bin .neq), [(.t 16), (.t 17)], none⟩, ⟨(some 19), none, .pick, [(.t 13), (.c (.lit (.bool true))), (.t 18)], none⟩, ⟨(some 20), none, .mv, [(.t 19)], none⟩, ⟨(some 21), (some (20, false)), (.fldA 2), [(.t 1)], none⟩, ⟨(some 22), (some (20, false)), .ld1, [(.t 21)], none⟩, ⟨(some 23), (some (20, false)), .len, [(.t 22)], none⟩, ⟨(some 24), (some (20, false)), .mv, [(.t 3)], none⟩, ⟨(some 25), (some (20, false)), (.bin .neq), [(.t 23), (.t 24)], none⟩, ⟨(some 26), none, .pick, [(.t 20), (.c (.lit (.bool true))), (.t 25)], none⟩]) (.cond (.t 26) c_hand_Check_p1 .skip)) c_hand_Check_p18)
set_option maxRecDepth 100000 in
abbrev c_hand_Check_p20 : VC :=
  (.seq (.ops 0 [⟨(some 7), none, (.fldA 0), [(.t 1)], none⟩, ⟨(some 8), none, .ld1, [(.t 7)], none⟩, ⟨(some 9), none, .len, [(.t 8)], none⟩, ⟨(some 3), none, .mv, [(.t 9)], none⟩]) c_hand_Check_p19)
set_option maxRecDepth 100000 in
def c_hand_Check : VC :=
  (.seq (.ops 2 [⟨(some 1), none, (.box 25), [(.t 0)], none⟩, ⟨(some 2), none, .mv, [(.c (.lit (.int .i64 0)))], none⟩]) c_hand_Check_p20)
set_option maxRecDepth 100000 in
theorem k_hand_Check : Comp Try.prog nobx gtab 24 101 c_hand_Check [(.t 2)] := ⟨⟨Try.f24, _, Try.func24, rfl, rfl, by kernel_rfl, by kernel_rfl⟩⟩
set_option maxRecDepth 100000 in
abbrev c_hand_within_p1 : VC :=
  (.seq (.ops 0 [⟨(some 7), none, .mv, [(.t 0)], none⟩, ⟨(some 8), none, .mv, [(.t 1)], none⟩, ⟨(some 9), none, (.bin .geq), [(.t 7), (.t 8)], none⟩, ⟨(some 10), none, .mv, [(.t 9)], none⟩, ⟨(some 11), (some (10, true)), .mv, [(.t 0)], none⟩, ⟨(some 12), (some (10, true)), .mv, [(.t 2)], none⟩, ⟨(some 13), (some (10, true)), (.bin .leq), [(.t 11), (.t 12)], none⟩, ⟨(some 14), none, .pick, [(.t 10), (.t 13), (.c (.lit (.bool false)))], none⟩, ⟨(some 6), none, .mv, [(.t 14)], none⟩]) .ret)
set_option maxRecDepth 100000 in
def c_hand_within : VC :=
  (.seq (.ops 0 [⟨(some 6), none, .mv, [(.c (.lit (.bool false)))], none⟩]) c_hand_within_p1)
set_option maxRecDepth 100000 in
theorem k_hand_within : Comp Try.prog nobx gtab 63 15 c_hand_within [(.t 6)] := ⟨⟨Try.f63, _, Try.func63, rfl, rfl, by kernel_rfl, by kernel_rfl⟩⟩
set_option maxRecDepth 100000 in
abbrev c_slices_IsSorted_int_int_p1 : VC :=
  (.seq (.ops 0 [⟨(some 2), none, .mv, [(.c (.lit (.bool false)))], none⟩]) .ret)
set_option maxRecDepth 100000 in
abbrev c_slices_IsSorted_int_int_p2 : VC :=
  (.ops 0 [⟨(some 9), none, .mv, [(.t 3)], none⟩, ⟨(some 10), none, (.bin .sub), [(.t 9), (.c (.lit (.int .i64 1)))], none⟩, ⟨(some 3), none, .mv, [(.t 10)], none⟩])
set_option maxRecDepth 100000 in
abbrev c_slices_IsSorted_int_int_p3 : VC :=
  (.seq (.block 1 (.seq (.ops 0 [⟨(some 11), none, .mv, [(.t 0)], none⟩, ⟨(some 12), none, .mv, [(.t 3)], none⟩, ⟨(some 13), none, (.ixA 1), [(.t 11), (.t 12)], none⟩, ⟨(some 14), none, .ld1, [(.t 13)], (some [0, 1, 2])⟩, ⟨(some 15), none, .mv, [(.t 0)], none⟩, ⟨(some 16), none, .mv, [(.t 3)], none⟩, ⟨(some 17), none, (.bin .sub), [(.t 16), (.c (.lit (.int .i64 1)))], none⟩, ⟨(some 18), none, (.ixA 1), [(.t 15), (.t 17)], none⟩, ⟨(some 19), none, .ld1, [(.t 18)], (some [4, 5, 6, 7])⟩, ⟨(some 20), none, (.call 98), [(.t 14), (.t 19)], none⟩]) (.cond (.t 20) c_slices_IsSorted_int_int_p1 .skip))) c_slices_IsSorted_int_int_p2)
set_option maxRecDepth 100000 in
abbrev c_slices_IsSorted_int_int_p4 : VC :=
  (.seq (.seq (.ops 0 [⟨(some 7), none, .mv, [(.t 3)], none⟩, ⟨(some 8), none, (.bin .gtr), [(.t 7), (.c (.lit (.int .i64 0)))], none⟩]) (.cond (.t 8) .skip (.exit 0))) c_slices_IsSorted_int_int_p3)
abbrev w_slices_IsSorted_int_int_p4 : Nat := 2097036
set_option maxRecDepth 100000 in
abbrev c_slices_IsSorted_int_int_p6 : VC :=
  (.seq (.ops 0 [⟨(some 2), none, .mv, [(.c (.lit (.bool true)))], none⟩]) .ret)
set_option maxRecDepth 100000 in
abbrev c_slices_IsSorted_int_int_p7 : VC :=
  (.seq (.seq (.ops 0 [⟨(some 4), none, .mv, [(.t 0)], none⟩, ⟨(some 5), none, .len, [(.t 4)], none⟩, ⟨(some 6), none, (.bin .sub), [(.t 5), (.c (.lit (.int .i64 1)))], none⟩, ⟨(some 3), none, .mv, [(.t 6)], none⟩]) (.block 0 (.loop c_slices_IsSorted_int_int_p4))) c_slices_IsSorted_int_int_p6)
set_option maxRecDepth 100000 in
def c_slices_IsSorted_int_int : VC :=
  (.seq (.ops 0 [⟨(some 2), none, .mv, [(.c (.lit (.bool false)))], none⟩]) c_slices_IsSorted_int_int_p7)
set_option maxRecDepth 100000 in
theorem k_slices_IsSorted_int_int : Comp Try.prog nobx gtab 64 21 c_slices_IsSorted_int_int [(.t 2)] := ⟨⟨Try.f64, _, Try.func64, rfl, rfl, by kernel_rfl, by kernel_rfl⟩⟩
set_option maxRecDepth 100000 in
abbrev c_cmp_Less_int_p1 : VC :=
  (.seq (.ops 0 [⟨(some 5), none, .mv, [(.t 0)], none⟩, ⟨(some 6), none, (.call 128), [(.t 5)], none⟩, ⟨(some 7), none, .mv, [(.t 6)], none⟩, ⟨(some 8), (some (7, true)), .mv, [(.t 1)], none⟩, ⟨(some 9), (some (7, true)), (.call 128), [(.t 8)], none⟩, ⟨(some 10), (some (7, true)), (.un .not), [(.t 9)], none⟩, ⟨(some 11), none, .pick, [(.t 7), (.t 10), (.c (.lit (.bool false)))], none⟩, ⟨(some 12), none, .mv, [(.t 11)], none⟩, ⟨(some 13), (some (12, false)), .mv, [(.t 0)], none⟩, ⟨(some 14), (some (12, false)), .mv, [(.t 1)], none⟩, ⟨(some 15), (some (12, false)), (.bin .lss), [(.t 13), (.t 14)], none⟩, ⟨(some 16), none, .pick, [(.t 12), (.c (.lit (.bool true))), (.t 15)], none⟩, ⟨(some 4), none, .mv, [(.t 16)], none⟩]) .ret)
set_option maxRecDepth 100000 in
def c_cmp_Less_int : VC :=
  (.seq (.ops 0 [⟨(some 4), none, .mv, [(.c (.lit (.bool false)))], none⟩]) c_cmp_Less_int_p1)
set_option maxRecDepth 100000 in
theorem k_cmp_Less_int : Comp Try.prog nobx gtab 98 17 c_cmp_Less_int [(.t 4)] := ⟨⟨Try.f98, _, Try.func98, rfl, rfl, by kernel_rfl, by kernel_rfl⟩⟩
set_option maxRecDepth 100000 in
abbrev c_cmp_isNaN_int_p1 : VC :=
  (.seq (.ops 0 [⟨(some 3), none, .mv, [(.t 0)], none⟩, ⟨(some 4), none, .mv, [(.t 0)], none⟩, ⟨(some 5), none, (.bin .neq), [(.t 3), (.t 4)], none⟩, ⟨(some 2), none, .mv, [(.t 5)], none⟩]) .ret)
set_option maxRecDepth 100000 in
def c_cmp_isNaN_int : VC :=
  (.seq (.ops 0 [⟨(some 2), none, .mv, [(.c (.lit (.bool false)))], none⟩]) c_cmp_isNaN_int_p1)
set_option maxRecDepth 100000 in
theorem k_cmp_isNaN_int : Comp Try.prog nobx gtab 128 6 c_cmp_isNaN_int [(.t 2)] := ⟨⟨Try.f128, _, Try.func128, rfl, rfl, by kernel_rfl, by kernel_rfl⟩⟩
set_option maxRecDepth 100000 in
abbrev c_hand_rising_p1 : VC :=
  (.seq (.ops 0 [⟨(some 2), none, .mv, [(.c (.lit (.bool false)))], none⟩]) .ret)
set_option maxRecDepth 100000 in
abbrev c_hand_rising_p2 : VC :=
  (.ops 0 [⟨(some 8), none, .mv, [(.t 3)], none⟩, ⟨(some 9), none, (.bin .add), [(.t 8), (.c (.lit (.int .i64 1)))], none⟩, ⟨(some 3), none, .mv, [(.t 9)], none⟩])
set_option maxRecDepth 100000 in
abbrev c_hand_rising_p3 : VC :=
  (.seq (.block 1 (.seq (.ops 0 [⟨(some 10), none, .mv, [(.t 0)], none⟩, ⟨(some 11), none, .mv, [(.t 3)], none⟩, ⟨(some 12), none, (.ixA 1), [(.t 10), (.t 11)], none⟩, ⟨(some 13), none, .ld1, [(.t 12)], (some [0, 1, 2])⟩, ⟨(some 14), none, .mv, [(.t 0)], none⟩, ⟨(some 15), none, .mv, [(.t 3)], none⟩, ⟨(some 16), none, (.bin .sub), [(.t 15), (.c (.lit (.int .i64 1)))], none⟩, ⟨(some 17), none, (.ixA 1), [(.t 14), (.t 16)], none⟩, ⟨(some 18), none, .ld1, [(.t 17)], (some [4, 5, 6, 7])⟩, ⟨(some 19), none, (.bin .leq), [(.t 13), (.t 18)], none⟩]) (.cond (.t 19) c_hand_rising_p1 .skip))) c_hand_rising_p2)
set_option maxRecDepth 100000 in
abbrev c_hand_rising_p4 : VC :=
  (.seq (.seq (.ops 0 [⟨(some 4), none, .mv, [(.t 3)], none⟩, ⟨(some 5), none, .mv, [(.t 0)], none⟩, ⟨(some 6), none, .len, [(.t 5)], none⟩, ⟨(some 7), none, (.bin .lss), [(.t 4), (.t 6)], none⟩]) (.cond (.t 7) .skip (.exit 0))) c_hand_rising_p3)
abbrev w_hand_rising_p4 : Nat := 1048572
set_option maxRecDepth 100000 in
abbrev c_hand_rising_p6 : VC :=
  (.seq (.ops 0 [⟨(some 2), none, .mv, [(.c (.lit (.bool true)))], none⟩]) .ret)
set_option maxRecDepth 100000 in
abbrev c_hand_rising_p7 : VC :=
  (.seq (.seq (.ops 0 [⟨(some 3), none, .mv, [(.c (.lit (.int .i64 1)))], none⟩]) (.block 0 (.loop c_hand_rising_p4))) c_hand_rising_p6)
set_option maxRecDepth 100000 in
def c_hand_rising : VC :=
  (.seq (.ops 0 [⟨(some 2), none, .mv, [(.c (.lit (.bool false)))], none⟩]) c_hand_rising_p7)
set_option maxRecDepth 100000 in
theorem k_hand_rising : Comp Try.prog nobx gtab 99 20 c_hand_rising [(.t 2)] := ⟨⟨Try.f99, _, Try.func99, rfl, rfl, by kernel_rfl, by kernel_rfl⟩⟩
set_option maxRecDepth 100000 in
abbrev c_theorboref06_Standard_p1 : VC :=
  (.seq (.ops 0 [⟨(some 1), none, (.mksl 4 1 [(.lit (.int .i64 0)), (.lit (.int .i64 0)), (.lit (.int .i64 0)), (.lit (.int .i64 0))] [(0, 1), (1, 1), (2, 1), (3, 1)]), [(.c (.lit (.int .i64 0))), (.c (.lit (.int .i64 1))), (.c (.lit (.int .i64 2))), (.c (.lit (.int .i64 3)))], none⟩, ⟨(some 2), none, (.mksl 4 1 [(.lit (.int .i64 0)), (.lit (.int .i64 0)), (.lit (.int .i64 0)), (.lit (.int .i64 0))] [(0, 1), (1, 1), (2, 1), (3, 1)]), [(.c (.lit (.int .i64 0))), (.c (.lit (.int .i64 2))), (.c (.lit (.int .i64 3))), (.c (.lit (.int .i64 4)))], none⟩, ⟨(some 3), none, (.mksl 4 1 [(.lit (.bool false)), (.lit (.bool false)), (.lit (.bool false)), (.lit (.bool false))] [(0, 1), (1, 1), (2, 1), (3, 1)]), [(.c (.lit (.bool true))), (.c (.lit (.bool false))), (.c (.lit (.bool false))), (.c (.lit (.bool false)))], none⟩, ⟨(some 4), none, (.build [(.sl 0 [] .exact), (.sl 0 [] .exact), (.sl 0 [] .exact), (.lit (.int .i64 0)), (.lit (.int .i64 0)), (.lit (.int .i64 0)), (.lit (.int .i64 0)), (.lit (.int .i64 0)), (.lit (.int .i64 0)), (.lit (.int .i64 0))] [(0, 1), (1, 1), (2, 1), (3, 1), (4, 1), (5, 1), (6, 1), (7, 1), (8, 1), (9, 1)]), [(.t 1), (.t 2), (.t 3), (.c (.lit (.int .i64 12))), (.c (.lit (.int .i64 7))), (.c (.lit (.int .i64 2))), (.c (.lit (.int .i64 3))), (.c (.lit (.int .i64 4))), (.c (.lit (.int .i64 2))), (.c (.lit (.int .i64 1)))], none⟩, ⟨none, none, (.st 10), [(.t 0), (.t 4)], none⟩]) .ret)
set_option maxRecDepth 100000 in
def c_theorboref06_Standard : VC :=
  (.seq (.ops 1 [⟨(some 0), none, (.alloc 25 [(.sl 0 [] .exact), (.sl 0 [] .exact), (.sl 0 [] .exact), (.lit (.int .i64 0)), (.lit (.int .i64 0)), (.lit (.int .i64 0)), (.lit (.int .i64 0)), (.lit (.int .i64 0)), (.lit (.int .i64 0)), (.lit (.int .i64 0))]), [], none⟩]) c_theorboref06_Standard_p1)
set_option maxRecDepth 100000 in
theorem k_theorboref06_Standard : Comp Try.prog nobx gtab 22 5 c_theorboref06_Standard [(.c 0 10 true)] := ⟨⟨Try.f22, _, Try.func22, rfl, rfl, by kernel_rfl, by kernel_rfl⟩⟩
set_option maxRecDepth 100000 in
abbrev c_theorboref06_Check_p1 : VC :=
  (.seq (.ops 0 [⟨(some 2), none, .mv, [(.c (.lit (.int .i64 60)))], none⟩]) .ret)
set_option maxRecDepth 100000 in
abbrev c_theorboref06_Check_p2 : VC :=
  (.seq (.ops 0 [⟨(some 2), none, .mv, [(.c (.lit (.int .i64 60)))], none⟩]) .ret)
set_option maxRecDepth 100000 in
abbrev c_theorboref06_Check_p3 : VC :=
  (.ops 0 [⟨(some 33), none, .mv, [(.t 4)], none⟩, ⟨(some 34), none, (.bin .add), [(.t 33), (.c (.lit (.int .i64 1)))], none⟩, ⟨(some 4), none, .mv, [(.t 34)], none⟩])
set_option maxRecDepth 100000 in
abbrev c_theorboref06_Check_p4 : VC :=
  (.seq (.block 1 (.seq (.ops 0 [⟨(some 35), none, (.fldA 0), [(.t 1)], none⟩, ⟨(some 36), none, .ld1, [(.t 35)], none⟩, ⟨(some 37), none, .mv, [(.t 4)], none⟩, ⟨(some 38), none, (.ixA 1), [(.t 36), (.t 37)], none⟩, ⟨(some 39), none, .ld1, [(.t 38)], none⟩, ⟨(some 40), none, (.bin .lss), [(.t 39), (.c (.lit (.int .i64 0)))], none⟩, ⟨(some 41), none, .mv, [(.t 40)], none⟩, ⟨(some 42), (some (41, false)), (.fldA 0), [(.t 1)], none⟩, ⟨(some 43), (some (41, false)), .ld1, [(.t 42)], (some [0, 1, 2, 3, 4, 5, 6, 7])⟩, ⟨(some 44), (some (41, false)), .mv, [(.t 4)], none⟩, ⟨(some 45), (some (41, false)), (.ixA 1), [(.t 43), (.t 44)], none⟩, ⟨(some 46), (some (41, false)), .ld1, [(.t 45)], (some [0, 1, 2, 3, 4, 5, 6, 7, 8, 9, 10])⟩, ⟨(some 47), (some (41, false)), (.fldA 1), [(.t 1)], none⟩, ⟨(some 48), (some (41, false)), .ld1, [(.t 47)], (some [0, 1, 2, 3, 4, 5, 6, 12])⟩, ⟨(some 49), (some (41, false)), .mv, [(.t 4)], none⟩, ⟨(some 50), (some (41, false)), (.ixA 1), [(.t 48), (.t 49)], none⟩, ⟨(some 51), (some (41, false)), .ld1, [(.t 50)], (some [0, 1, 2, 3, 4, 5, 6, 12, 13, 14, 15])⟩, ⟨(some 52), (some (41, false)), (.bin .gtr), [(.t 46), (.t 51)], none⟩, ⟨(some 53), none, .pick, [(.t 41), (.c (.lit (.bool true))), (.t 52)], none⟩, ⟨(some 54), none, .mv, [(.t 53)], none⟩, ⟨(some 55), (some (54, false)), (.fldA 1), [(.t 1)], none⟩, ⟨(some 56), (some (54, false)), .ld1, [(.t 55)], none⟩, ⟨(some 57), (some (54, false)), .mv, [(.t 4)], none⟩, ⟨(some 58), (some (54, false)), (.ixA 1), [(.t 56), (.t 57)], none⟩, ⟨(some 59), (some (54, false)), .ld1, [(.t 58)], none⟩, ⟨(some 60), (some (54, false)), (.bin .gtr), [(.t 59), (.c (.lit (.int .i64 8)))], none⟩, ⟨(some 61), none, .pick, [(.t 54), (.c (.lit (.bool true))), (.t 60)], none⟩, ⟨(some 62), none, .mv, [(.t 61)], none⟩, ⟨(some 63), (some (62, false)), .mv, [(.t 4)], none⟩, ⟨(some 64), (some (62, false)), (.bin .gtr), [(.t 63), (.c (.lit (.int .i64 0)))], none⟩, ⟨(some 65), (some (62, false)), .mv, [(.t 64)], none⟩, ⟨(some 66), (some (65, true)), (.fldA 0), [(.t 1)], none⟩, ⟨(some 67), (some (65, true)), .ld1, [(.t 66)], (some [0, 1, 2, 3, 4, 5, 6, 7, 8, 9, 10, 11, 12, 13, 14, 15, 16, 17, 18, 19, 20, 21, 22, 23, 24, 25, 26, 27, 28, 29, 30, 31])⟩, ⟨(some 68), (some (65, true)), .mv, [(.t 4)], none⟩, ⟨(some 69), (some (65, true)), (.ixA 1), [(.t 67), (.t 68)], none⟩, ⟨(some 70), (some (65, true)), .ld1, [(.t 69)], (some [0, 1, 2, 3, 4, 5, 6, 7, 8, 9, 10, 11, 12, 13, 14, 15, 16, 17, 18, 19, 20, 21, 22, 23, 24, 25, 26, 27, 28, 29, 30, 31, 32, 33, 34])⟩, ⟨(some 71), (some (65, true)), (.fldA 0), [(.t 1)], none⟩, ⟨(some 72), (some (65, true)), .ld1, [(.t 71)], (some [0, 1, 2, 3, 4, 5, 6, 7, 8, 9, 10, 11, 12, 13, 14, 15, 16, 17, 18, 19, 20, 21, 22, 23, 24, 25, 26, 27, 28, 29, 30, 36])⟩, ⟨(some 73), (some (65, true)), .mv, [(.t 4)], none⟩, ⟨(some 74), (some (65, true)), (.bin .sub), [(.t 73), (.c (.lit (.int .i64 1)))], none⟩, ⟨(some 75), (some (65, true)), (.ixA 1), [(.t 72), (.t 74)], none⟩, ⟨(some 76), (some (65, true)), .ld1, [(.t 75)], (some [0, 1, 2, 3, 4, 5, 6, 7, 8, 9, 10, 11, 12, 13, 14, 15, 16, 17, 18, 19, 20, 21, 22, 23, 24, 25, 26, 27, 28, 29, 30, 36, 37, 38, 39, 40])⟩, ⟨(some 77), (some (65, true)), (.bin .lss), [(.t 70), (.t 76)], none⟩, ⟨(some 78), (some (65, true)), .mv, [(.t 77)], none⟩, ⟨(some 79), (some (78, false)), (.fldA 1), [(.t 1)], none⟩, ⟨(some 80), (some (78, false)), .ld1, [(.t 79)], (some [0, 1, 2, 3, 4, 5, 6, 7, 8, 9, 10, 11, 12, 13, 14, 15, 16, 17, 18, 19, 20, 21, 22, 23, 24, 25, 26, 27, 28, 29, 30, 31, 32, 33, 34, 35, 36, 37, 38, 39, 40, 41, 42, 43, 44])⟩, ⟨(some 81), (some (78, false)), .mv, [(.t 4)], none⟩, ⟨(some 82), (some (78, false)), (.ixA 1), [(.t 80), (.t 81)], none⟩, ⟨(some 83), (some (78, false)), .ld1, [(.t 82)], (some [0, 1, 2, 3, 4, 5, 6, 7, 8, 9, 10, 11, 12, 13, 14, 15, 16, 17, 18, 19, 20, 21, 22, 23, 24, 25, 26, 27, 28, 29, 30, 31, 32, 33, 34, 35, 36, 37, 38, 39, 40, 41, 42, 43, 44, 45, 46, 47])⟩, ⟨(some 84), (some (78, false)), (.fldA 1), [(.t 1)], none⟩, ⟨(some 85), (some (78, false)), .ld1, [(.t 84)], (some [0, 1, 2, 3, 4, 5, 6, 7, 8, 9, 10, 11, 12, 13, 14, 15, 16, 17, 18, 19, 20, 21, 22, 23, 24, 25, 26, 27, 28, 29, 30, 31, 32, 33, 34, 35, 36, 37, 38, 39, 40, 41, 42, 43, 49])⟩, ⟨(some 86), (some (78, false)), .mv, [(.t 4)], none⟩, ⟨(some 87), (some (78, false)), (.bin .sub), [(.t 86), (.c (.lit (.int .i64 1)))], none⟩, ⟨(some 88), (some (78, false)), (.ixA 1), [(.t 85), (.t 87)], none⟩, ⟨(some 89), (some (78, false)), .ld1, [(.t 88)], (some [0, 1, 2, 3, 4, 5, 6, 7, 8, 9, 10, 11, 12, 13, 14, 15, 16, 17, 18, 19, 20, 21, 22, 23, 24, 25, 26, 27, 28, 29, 30, 31, 32, 33, 34, 35, 36, 37, 38, 39, 40, 41, 42, 43, 49, 50, 51, 52, 53])⟩, ⟨(some 90), (some (78, false)), (.bin .lss), [(.t 83), (.t 89)], none⟩, ⟨(some 91), (some (65, true)), .pick, [(.t 78), (.c (.lit (.bool true))), (.t 90)], none⟩, ⟨(some 92), (some (62, false)), .pick, [(.t 65), (.t 91), (.c (.lit (.bool false)))], none⟩, ⟨(some 93), none, .pick, [(.t 62), (.c (.lit (.bool true))), (.t 92)], none⟩]) (.cond (.t 93) c_theorboref06_Check_p2 .skip))) c_theorboref06_Check_p3)
set_option maxRecDepth 100000 in
abbrev c_theorboref06_Check_p5 : VC :=
  (.seq (.seq (.ops 0 [⟨(some 30), none, .mv, [(.t 4)], none⟩, ⟨(some 31), none, .mv, [(.t 3)], none⟩, ⟨(some 32), none, (.bin .lss), [(.t 30), (.t 31)], none⟩]) (.cond (.t 32) .skip (.exit 0))) c_theorboref06_Check_p4)
abbrev w_theorboref06_Check_p5 : Nat := 19807040628566084397312245780
set_option maxRecDepth 100000 in
abbrev c_theorboref06_Check_p7 : VC :=
  (.seq (.ops 0 [⟨(some 2), none, .mv, [(.c (.lit (.int .i64 60)))], none⟩]) .ret)
set_option maxRecDepth 100000 in
abbrev c_theorboref06_Check_p8 : VC :=
  (.seq (.ops 0 [⟨(some 2), none, .mv, [(.c (.lit (.int .i64 60)))], none⟩]) .ret)
set_option maxRecDepth 100000 in
abbrev c_theorboref06_Check_p9 : VC :=
  (.seq (.ops 0 [⟨(some 128), none, .mv, [(.t 6)], none⟩, ⟨(some 129), none, (.bin .lss), [(.t 128), (.c (.lit (.int .i64 0)))], none⟩, ⟨(some 130), none, .mv, [(.t 129)], none⟩, ⟨(some 131), (some (130, false)), .mv, [(.t 6)], none⟩, ⟨(some 132), (some (130, false)), (.bin .gtr), [(.t 131), (.c (.lit (.int .i64 1000)))], none⟩, ⟨(some 133), none, .pick, [(.t 130), (.c (.lit (.bool true))), (.t 132)], none⟩]) (.cond (.t 133) c_theorboref06_Check_p8 .skip))
set_option maxRecDepth 100000 in
abbrev c_theorboref06_Check_p10 : VC :=
  (.ops 0 [⟨(some 134), none, (.bin .add), [(.t 124), (.c (.lit (.int .i64 1)))], none⟩, ⟨(some 124), none, .mv, [(.t 134)], none⟩])
set_option maxRecDepth 100000 in
abbrev c_theorboref06_Check_p11 : VC :=
  (.seq (.block 3 (.seq (.ops 0 [⟨(some 126), none, (.ixA 1), [(.t 122), (.t 124)], none⟩, ⟨(some 127), none, .ld1, [(.t 126)], none⟩, ⟨(some 6), none, .mv, [(.t 127)], none⟩]) c_theorboref06_Check_p9)) c_theorboref06_Check_p10)
set_option maxRecDepth 100000 in
abbrev c_theorboref06_Check_p12 : VC :=
  (.seq (.cond (.t 125) .skip (.exit 2)) c_theorboref06_Check_p11)
set_option maxRecDepth 100000 in
abbrev c_theorboref06_Check_p13 : VC :=
  (.seq (.ops 0 [⟨(some 125), none, (.bin .lss), [(.t 124), (.t 123)], none⟩]) c_theorboref06_Check_p12)
abbrev w_theorboref06_Check_p13 : Nat := 43534875317947564669345488838301845553220
set_option maxRecDepth 100000 in
abbrev c_theorboref06_Check_p15 : VC :=
  (.seq (.ops 0 [⟨(some 2), none, .mv, [(.c (.lit (.int .i64 0)))], none⟩]) .ret)
set_option maxRecDepth 100000 in
abbrev c_theorboref06_Check_p16 : VC :=
  (.seq (.seq (.ops 0 [⟨(some 112), none, (.fldA 5), [(.t 1)], none⟩, ⟨(some 113), none, .ld1, [(.t 112)], none⟩, ⟨(some 114), none, (.fldA 6), [(.t 1)], none⟩, ⟨(some 115), none, .ld1, [(.t 114)], none⟩, ⟨(some 116), none, (.fldA 7), [(.t 1)], none⟩, ⟨(some 117), none, .ld1, [(.t 116)], none⟩, ⟨(some 118), none, (.fldA 8), [(.t 1)], none⟩, ⟨(some 119), none, .ld1, [(.t 118)], none⟩, ⟨(some 120), none, (.fldA 9), [(.t 1)], none⟩, ⟨(some 121), none, .ld1, [(.t 120)], none⟩, ⟨(some 122), none, (.mksl 5 1 [(.lit (.int .i64 0)), (.lit (.int .i64 0)), (.lit (.int .i64 0)), (.lit (.int .i64 0)), (.lit (.int .i64 0))] [(0, 1), (1, 1), (2, 1), (3, 1), (4, 1)]), [(.t 113), (.t 115), (.t 117), (.t 119), (.t 121)], none⟩, ⟨(some 123), none, .len, [(.t 122)], none⟩, ⟨(some 124), none, .mv, [(.c (.lit (.int .i64 0)))], none⟩]) (.block 2 (.loop c_theorboref06_Check_p13))) c_theorboref06_Check_p15)
set_option maxRecDepth 100000 in
abbrev c_theorboref06_Check_p17 : VC :=
  (.seq (.seq (.ops 0 [⟨(some 94), none, (.fldA 3), [(.t 1)], none⟩, ⟨(some 95), none, .ld1, [(.t 94)], none⟩, ⟨(some 96), none, (.bin .lss), [(.t 95), (.c (.lit (.int .i64 1)))], none⟩, ⟨(some 97), none, .mv, [(.t 96)], none⟩, ⟨(some 98), (some (97, false)), (.fldA 3), [(.t 1)], none⟩, ⟨(some 99), (some (97, false)), .ld1, [(.t 98)], none⟩, ⟨(some 100), (some (97, false)), (.bin .gtr), [(.t 99), (.c (.lit (.int .i64 18)))], none⟩, ⟨(some 101), none, .pick, [(.t 97), (.c (.lit (.bool true))), (.t 100)], none⟩, ⟨(some 102), none, .mv, [(.t 101)], none⟩, ⟨(some 103), (some (102, false)), (.fldA 4), [(.t 1)], none⟩, ⟨(some 104), (some (102, false)), .ld1, [(.t 103)], none⟩, ⟨(some 105), (some (102, false)), (.bin .lss), [(.t 104), (.c (.lit (.int .i64 0)))], none⟩, ⟨(some 106), none, .pick, [(.t 102), (.c (.lit (.bool true))), (.t 105)], none⟩, ⟨(some 107), none, .mv, [(.t 106)], none⟩, ⟨(some 108), (some (107, false)), (.fldA 4), [(.t 1)], none⟩, ⟨(some 109), (some (107, false)), .ld1, [(.t 108)], none⟩, ⟨(some 110), (some (107, false)), (.bin .gtr), [(.t 109), (.c (.lit (.int .i64 18)))], none⟩, ⟨(some 111), none, .pick, [(.t 107), (.c (.lit (.bool true))), (.t 110)], none⟩]) (.cond (.t 111) c_theorboref06_Check_p7 .skip)) c_theorboref06_Check_p16)
set_option maxRecDepth 100000 in
abbrev c_theorboref06_Check_p18 : VC :=
  (.seq (.seq (.ops 0 [⟨(some 4), none, .mv, [(.c (.lit (.int .i64 0)))], none⟩]) (.block 0 (.loop c_theorboref06_Check_p5))) c_theorboref06_Check_p17)
set_option maxRecDepth 100000 in
abbrev c_theorboref06_Check_p19 : VC :=
  (.seq (.seq (.ops 0 [⟨(some 10), none, .mv, [(.t 3)], none⟩, ⟨(some 11), none, (.bin .lss), [(.t 10), (.c (.lit (.int .i64 1)))], none⟩, ⟨(some 12), none, .mv, [(.t 11)], none⟩, ⟨(some 13), (some (12, false)), .mv, [(.t 3)], none⟩, ⟨(some 14), (some (12, false)), (.bin .gtr), [(.t 13), (.c (.lit (.int .i64 4)))], none⟩, ⟨(some 15), none, .pick, [(.t 12), (.c (.lit (.bool true))), (.t 14)], none⟩, ⟨(some 16), none, .mv, [(.t 15)], none⟩, ⟨(some 17), (some (16, false)), (.fldA 1), [(.t 1)], none⟩, ⟨(some 18), (some (16, false)), .ld1, [(.t 17)], none⟩, ⟨(some 19), (some (16, false)), .len, [(.t 18)], none⟩, ⟨(some 20), (some (16, false)), .mv, [(.t 3)], none⟩, ⟨(some 21), (some (16, false)), (.bin .neq), [(.t 19), (.t 20)], none⟩, ⟨(some 22), none, .pick, [(.t 16), (.c (.lit (.bool true))), (.t 21)], none⟩, ⟨(some 23), none, .mv, [(.t 22)], none⟩, ⟨(some 24), (some (23, false)), (.fldA 2), [(.t 1)], none⟩, ⟨(some 25), (some (23, false)), .ld1, [(.t 24)], none⟩, ⟨(some 26), (some (23, false)), .len, [(.t 25)], none⟩, ⟨(some 27), (some (23, false)), .mv, [(.t 3)], none⟩, ⟨(some 28), (some (23, false)), (.bin .neq), [(.t 26), (.t 27)], none⟩, ⟨(some 29), none, .pick, [(.t 23), (.c (.lit (.bool true))), (.t 28)], none⟩]) (.cond (.t 29) c_theorboref06_Check_p1 .skip)) c_theorboref06_Check_p18)
set_option maxRecDepth 100000 in
abbrev c_theorboref06_Check_p20 : VC :=
  (.seq (.ops 0 [⟨(some 7), none, (.fldA 0), [(.t 1)], none⟩, ⟨(some 8), none, .ld1, [(.t 7)], none⟩, ⟨(some 9), none, .len, [(.t 8)], none⟩, ⟨(some 3), none, .mv, [(.t 9)], none⟩]) c_theorboref06_Check_p19)
set_option maxRecDepth 100000 in
def c_theorboref06_Check : VC :=
  (.seq (.ops 2 [⟨(some 1), none, (.box 25), [(.t 0)], none⟩, ⟨(some 2), none, .mv, [(.c (.lit (.int .i64 0)))], none⟩]) c_theorboref06_Check_p20)
set_option maxRecDepth 100000 in
theorem k_theorboref06_Check : Comp Try.prog nobx gtab 25 135 c_theorboref06_Check [(.t 2)] := ⟨⟨Try.f25, _, Try.func25, rfl, rfl, by kernel_rfl, by kernel_rfl⟩⟩
set_option maxRecDepth 100000 in
abbrev c_theorboref06_ascend_p1 : VC :=
  (.seq (.ops 0 [⟨(some 2), none, .mv, [(.c (.lit (.bool false)))], none⟩]) .ret)
set_option maxRecDepth 100000 in
abbrev c_theorboref06_ascend_p2 : VC :=
  (.ops 0 [⟨(some 8), none, .mv, [(.t 3)], none⟩, ⟨(some 9), none, (.bin .add), [(.t 8), (.c (.lit (.int .i64 1)))], none⟩, ⟨(some 3), none, .mv, [(.t 9)], none⟩])
set_option maxRecDepth 100000 in
abbrev c_theorboref06_ascend_p3 : VC :=
  (.seq (.block 1 (.seq (.ops 0 [⟨(some 10), none, .mv, [(.t 0)], none⟩, ⟨(some 11), none, .mv, [(.t 3)], none⟩, ⟨(some 12), none, (.ixA 1), [(.t 10), (.t 11)], none⟩, ⟨(some 13), none, .ld1, [(.t 12)], none⟩, ⟨(some 14), none, (.bin .lss), [(.t 13), (.c (.lit (.int .i64 1)))], none⟩, ⟨(some 15), none, .mv, [(.t 14)], none⟩, ⟨(some 16), (some (15, false)), .mv, [(.t 0)], none⟩, ⟨(some 17), (some (15, false)), .mv, [(.t 3)], none⟩, ⟨(some 18), (some (15, false)), (.ixA 1), [(.t 16), (.t 17)], none⟩, ⟨(some 19), (some (15, false)), .ld1, [(.t 18)], none⟩, ⟨(some 20), (some (15, false)), (.bin .gtr), [(.t 19), (.c (.lit (.int .i64 14)))], none⟩, ⟨(some 21), none, .pick, [(.t 15), (.c (.lit (.bool true))), (.t 20)], none⟩, ⟨(some 22), none, .mv, [(.t 21)], none⟩, ⟨(some 23), (some (22, false)), .mv, [(.t 3)], none⟩, ⟨(some 24), (some (22, false)), (.bin .gtr), [(.t 23), (.c (.lit (.int .i64 0)))], none⟩, ⟨(some 25), (some (22, false)), .mv, [(.t 24)], none⟩, ⟨(some 26), (some (25, true)), .mv, [(.t 0)], none⟩, ⟨(some 27), (some (25, true)), .mv, [(.t 3)], none⟩, ⟨(some 28), (some (25, true)), (.ixA 1), [(.t 26), (.t 27)], none⟩, ⟨(some 29), (some (25, true)), .ld1, [(.t 28)], (some [0, 1, 2, 3, 4, 5, 6, 7, 8, 9, 10, 11, 12, 13, 14, 15, 16, 17, 18])⟩, ⟨(some 30), (some (25, true)), .mv, [(.t 0)], none⟩, ⟨(some 31), (some (25, true)), .mv, [(.t 3)], none⟩, ⟨(some 32), (some (25, true)), (.bin .sub), [(.t 31), (.c (.lit (.int .i64 1)))], none⟩, ⟨(some 33), (some (25, true)), (.ixA 1), [(.t 30), (.t 32)], none⟩, ⟨(some 34), (some (25, true)), .ld1, [(.t 33)], (some [0, 1, 2, 3, 4, 5, 6, 7, 8, 9, 10, 11, 12, 13, 14, 15, 20, 21, 22, 23])⟩, ⟨(some 35), (some (25, true)), (.bin .leq), [(.t 29), (.t 34)], none⟩, ⟨(some 36), (some (22, false)), .pick, [(.t 25), (.t 35), (.c (.lit (.bool false)))], none⟩, ⟨(some 37), none, .pick, [(.t 22), (.c (.lit (.bool true))), (.t 36)], none⟩]) (.cond (.t 37) c_theorboref06_ascend_p1 .skip))) c_theorboref06_ascend_p2)
set_option maxRecDepth 100000 in
abbrev c_theorboref06_ascend_p4 : VC :=
  (.seq (.seq (.ops 0 [⟨(some 4), none, .mv, [(.t 3)], none⟩, ⟨(some 5), none, .mv, [(.t 0)], none⟩, ⟨(some 6), none, .len, [(.t 5)], none⟩, ⟨(some 7), none, (.bin .lss), [(.t 4), (.t 6)], none⟩]) (.cond (.t 7) .skip (.exit 0))) c_theorboref06_ascend_p3)
abbrev w_theorboref06_ascend_p4 : Nat := 274877906940
set_option maxRecDepth 100000 in
abbrev c_theorboref06_ascend_p6 : VC :=
  (.seq (.ops 0 [⟨(some 2), none, .mv, [(.c (.lit (.bool true)))], none⟩]) .ret)
set_option maxRecDepth 100000 in
abbrev c_theorboref06_ascend_p7 : VC :=
  (.seq (.seq (.ops 0 [⟨(some 3), none, .mv, [(.c (.lit (.int .i64 0)))], none⟩]) (.block 0 (.loop c_theorboref06_ascend_p4))) c_theorboref06_ascend_p6)
set_option maxRecDepth 100000 in
def c_theorboref06_ascend : VC :=
  (.seq (.ops 0 [⟨(some 2), none, .mv, [(.c (.lit (.bool false)))], none⟩]) c_theorboref06_ascend_p7)
set_option maxRecDepth 100000 in
theorem k_theorboref06_ascend : Comp Try.prog nobx gtab 101 38 c_theorboref06_ascend [(.t 2)] := ⟨⟨Try.f101, _, Try.func101, rfl, rfl, by kernel_rfl, by kernel_rfl⟩⟩
set_option maxRecDepth 100000 in
abbrev c_theorbolaw06_SameInts_p1 : VC :=
  (.seq (.ops 0 [⟨(some 4), none, .mv, [(.c (.lit (.bool false)))], none⟩]) .ret)
set_option maxRecDepth 100000 in
abbrev c_theorbolaw06_SameInts_p2 : VC :=
  (.seq (.ops 0 [⟨(some 4), none, .mv, [(.c (.lit (.bool false)))], none⟩]) .ret)
set_option maxRecDepth 100000 in
abbrev c_theorbolaw06_SameInts_p3 : VC :=
  (.ops 0 [⟨(some 15), none, .mv, [(.t 5)], none⟩, ⟨(some 16), none, (.bin .add), [(.t 15), (.c (.lit (.int .i64 1)))], none⟩, ⟨(some 5), none, .mv, [(.t 16)], none⟩])
set_option maxRecDepth 100000 in
abbrev c_theorbolaw06_SameInts_p4 : VC :=
  (.seq (.block 1 (.seq (.ops 0 [⟨(some 17), none, .mv, [(.t 0)], none⟩, ⟨(some 18), none, .mv, [(.t 5)], none⟩, ⟨(some 19), none, (.ixA 1), [(.t 17), (.t 18)], none⟩, ⟨(some 20), none, .ld1, [(.t 19)], (some [0, 1, 2])⟩, ⟨(some 21), none, .mv, [(.t 1)], none⟩, ⟨(some 22), none, .mv, [(.t 5)], none⟩, ⟨(some 23), none, (.ixA 1), [(.t 21), (.t 22)], none⟩, ⟨(some 24), none, .ld1, [(.t 23)], (some [4, 5, 6])⟩, ⟨(some 25), none, (.bin .neq), [(.t 20), (.t 24)], none⟩]) (.cond (.t 25) c_theorbolaw06_SameInts_p2 .skip))) c_theorbolaw06_SameInts_p3)
set_option maxRecDepth 100000 in
abbrev c_theorbolaw06_SameInts_p5 : VC :=
  (.seq (.seq (.ops 0 [⟨(some 11), none, .mv, [(.t 5)], none⟩, ⟨(some 12), none, .mv, [(.t 0)], none⟩, ⟨(some 13), none, .len, [(.t 12)], none⟩, ⟨(some 14), none, (.bin .lss), [(.t 11), (.t 13)], none⟩]) (.cond (.t 14) .skip (.exit 0))) c_theorbolaw06_SameInts_p4)
abbrev w_theorbolaw06_SameInts_p5 : Nat := 67106864
set_option maxRecDepth 100000 in
abbrev c_theorbolaw06_SameInts_p7 : VC :=
  (.seq (.ops 0 [⟨(some 4), none, .mv, [(.c (.lit (.bool true)))], none⟩]) .ret)
set_option maxRecDepth 100000 in
abbrev c_theorbolaw06_SameInts_p8 : VC :=
  (.seq (.seq (.ops 0 [⟨(some 5), none, .mv, [(.c (.lit (.int .i64 0)))], none⟩]) (.block 0 (.loop c_theorbolaw06_SameInts_p5))) c_theorbolaw06_SameInts_p7)
set_option maxRecDepth 100000 in
abbrev c_theorbolaw06_SameInts_p9 : VC :=
  (.seq (.seq (.ops 0 [⟨(some 6), none, .mv, [(.t 0)], none⟩, ⟨(some 7), none, .len, [(.t 6)], none⟩, ⟨(some 8), none, .mv, [(.t 1)], none⟩, ⟨(some 9), none, .len, [(.t 8)], none⟩, ⟨(some 10), none, (.bin .neq), [(.t 7), (.t 9)], none⟩]) (.cond (.t 10) c_theorbolaw06_SameInts_p1 .skip)) c_theorbolaw06_SameInts_p8)
set_option maxRecDepth 100000 in
def c_theorbolaw06_SameInts : VC :=
  (.seq (.ops 0 [⟨(some 4), none, .mv, [(.c (.lit (.bool false)))], none⟩]) c_theorbolaw06_SameInts_p9)
set_option maxRecDepth 100000 in
theorem k_theorbolaw06_SameInts : Comp Try.prog nobx gtab 23 26 c_theorbolaw06_SameInts [(.t 4)] := ⟨⟨Try.f23, _, Try.func23, rfl, rfl, by kernel_rfl, by kernel_rfl⟩⟩
set_option maxRecDepth 100000 in
abbrev c_theorboref06_place_p1 : VC :=
  (.seq (.ops 0 [⟨(some 21), none, (.fldA 0), [(.t 2)], none⟩, ⟨(some 22), none, .ld1, [(.t 21)], none⟩, ⟨(some 23), none, .mv, [(.t 5)], none⟩, ⟨(some 24), none, (.ixA 2), [(.t 22), (.t 23)], none⟩, ⟨(some 25), none, (.ldA 2), [(.t 24)], none⟩, ⟨none, none, (.st 2), [(.t 4), (.t 25)], none⟩]) .ret)
set_option maxRecDepth 100000 in
abbrev c_theorboref06_place_p2 : VC :=
  (.ops 0 [⟨(some 11), none, .mv, [(.t 5)], none⟩, ⟨(some 12), none, (.bin .add), [(.t 11), (.c (.lit (.int .i64 1)))], none⟩, ⟨(some 5), none, .mv, [(.t 12)], none⟩])
set_option maxRecDepth 100000 in
abbrev c_theorboref06_place_p3 : VC :=
  (.seq (.block 1 (.seq (.ops 0 [⟨(some 13), none, (.fldA 0), [(.t 2)], none⟩, ⟨(some 14), none, .ld1, [(.t 13)], none⟩, ⟨(some 15), none, .mv, [(.t 5)], none⟩, ⟨(some 16), none, (.ixA 2), [(.t 14), (.t 15)], none⟩, ⟨(some 17), none, (.fldA 0), [(.t 16)], none⟩, ⟨(some 18), none, .ld1, [(.t 17)], none⟩, ⟨(some 19), none, .mv, [(.t 1)], none⟩, ⟨(some 20), none, (.bin .eql), [(.t 18), (.t 19)], none⟩]) (.cond (.t 20) c_theorboref06_place_p1 .skip))) c_theorboref06_place_p2)
set_option maxRecDepth 100000 in
abbrev c_theorboref06_place_p4 : VC :=
  (.seq (.seq (.ops 0 [⟨(some 6), none, .mv, [(.t 5)], none⟩, ⟨(some 7), none, (.fldA 0), [(.t 2)], none⟩, ⟨(some 8), none, .ld1, [(.t 7)], none⟩, ⟨(some 9), none, .len, [(.t 8)], none⟩, ⟨(some 10), none, (.bin .lss), [(.t 6), (.t 9)], none⟩]) (.cond (.t 10) .skip (.exit 0))) c_theorboref06_place_p3)
abbrev w_theorboref06_place_p4 : Nat := 67108832
set_option maxRecDepth 100000 in
abbrev c_theorboref06_place_p6 : VC :=
  (.seq (.ops 0 [⟨(some 26), none, (.build [(.lit (.int .i64 0)), (.lit (.int .i64 0))] []), [], none⟩, ⟨none, none, (.st 2), [(.t 4), (.t 26)], none⟩]) .ret)
set_option maxRecDepth 100000 in
abbrev c_theorboref06_place_p7 : VC :=
  (.seq (.seq (.ops 0 [⟨(some 5), none, .mv, [(.c (.lit (.int .i64 0)))], none⟩]) (.block 0 (.loop c_theorboref06_place_p4))) c_theorboref06_place_p6)
set_option maxRecDepth 100000 in
def c_theorboref06_place : VC :=
  (.seq (.ops 2 [⟨(some 2), none, (.box 47), [(.t 0)], none⟩, ⟨(some 4), none, (.alloc 92 [(.lit (.int .i64 0)), (.lit (.int .i64 0))]), [], none⟩]) c_theorboref06_place_p7)
set_option maxRecDepth 100000 in
theorem k_theorboref06_place : Comp Try.prog nobx gtab 68 27 c_theorboref06_place [(.c 4 2 true)] := ⟨⟨Try.f68, _, Try.func68, rfl, rfl, by kernel_rfl, by kernel_rfl⟩⟩
end Go.Proofs.Ytojjdkoglhecbaa
