/- Functions of the program, as code on values by numbers: printed by a program from the program that was given, and held against it here. -/
import Derived.Test.YtojjdkoglhecbaaG0
namespace Go.Proofs.Ytojjdkoglhecbaa
open Go.RowKit

set_option maxRecDepth 100000 in
abbrev c_hand_reach_p1 : VC :=
  (.seq (.ops 0 [⟨(some 9), none, .mv, [(.t 3)], none⟩, ⟨(some 10), none, .mv, [(.t 1)], none⟩, ⟨(some 11), none, (.fldA 0), [(.t 4)], none⟩, ⟨(some 12), none, .ld1, [(.t 11)], (some [2])⟩, ⟨(some 13), none, .mv, [(.t 2)], none⟩, ⟨(some 14), none, (.bin .sub), [(.t 13), (.c (.lit (.int .i64 1)))], none⟩, ⟨(some 15), none, (.ixA 1), [(.t 12), (.t 14)], none⟩, ⟨(some 16), none, .ld1, [(.t 15)], (some [2, 3, 4, 5, 6])⟩, ⟨(some 17), none, (.bin .add), [(.t 10), (.t 16)], none⟩, ⟨(some 18), none, .mv, [(.t 1)], none⟩, ⟨(some 19), none, (.fldA 1), [(.t 4)], none⟩, ⟨(some 20), none, .ld1, [(.t 19)], (some [10])⟩, ⟨(some 21), none, .mv, [(.t 2)], none⟩, ⟨(some 22), none, (.bin .sub), [(.t 21), (.c (.lit (.int .i64 1)))], none⟩, ⟨(some 23), none, (.ixA 1), [(.t 20), (.t 22)], none⟩, ⟨(some 24), none, .ld1, [(.t 23)], (some [10, 11, 12, 13, 14])⟩, ⟨(some 25), none, (.bin .add), [(.t 18), (.t 24)], none⟩, ⟨(some 26), none, (.call 63), [(.t 9), (.t 17), (.t 25)], none⟩, ⟨(some 8), none, .mv, [(.t 26)], none⟩]) .ret)
set_option maxRecDepth 100000 in
def c_hand_reach : VC :=
  (.seq (.ops 2 [⟨(some 4), none, (.box 25), [(.t 0)], none⟩, ⟨(some 8), none, .mv, [(.c (.lit (.bool false)))], none⟩]) c_hand_reach_p1)
set_option maxRecDepth 100000 in
theorem k_hand_reach : Comp Try.prog nobx gtab 107 27 c_hand_reach [(.t 8)] := ⟨⟨Try.f107, _, Try.func107, rfl, rfl, by kernel_rfl, by kernel_rfl⟩⟩
set_option maxRecDepth 100000 in
abbrev c_hand_agree_p1 : VC :=
  (.seq (.ops 0 [⟨(some 15), none, .mv, [(.t 2)], none⟩, ⟨(some 16), none, .mv, [(.t 3)], none⟩, ⟨(some 17), none, (.bin .lss), [(.t 15), (.t 16)], none⟩, ⟨(some 8), none, .mv, [(.t 17)], none⟩]) .ret)
set_option maxRecDepth 100000 in
abbrev c_hand_agree_p2 : VC :=
  (.seq (.ops 0 [⟨(some 24), none, .mv, [(.t 2)], none⟩, ⟨(some 25), none, .mv, [(.t 3)], none⟩, ⟨(some 26), none, (.bin .gtr), [(.t 24), (.t 25)], none⟩, ⟨(some 8), none, .mv, [(.t 26)], none⟩]) .ret)
set_option maxRecDepth 100000 in
abbrev c_hand_agree_p3 : VC :=
  (.seq (.ops 0 [⟨(some 33), none, .mv, [(.t 2)], none⟩, ⟨(some 34), none, .mv, [(.t 3)], none⟩, ⟨(some 35), none, (.bin .geq), [(.t 33), (.t 34)], none⟩, ⟨(some 8), none, .mv, [(.t 35)], none⟩]) .ret)
set_option maxRecDepth 100000 in
abbrev c_hand_agree_p4 : VC :=
  (.seq (.ops 0 [⟨(some 28), none, (.fldA 0), [(.t 4)], none⟩, ⟨(some 29), none, .ld1, [(.t 28)], none⟩, ⟨(some 30), none, (.fldA 0), [(.t 5)], none⟩, ⟨(some 31), none, .ld1, [(.t 30)], none⟩, ⟨(some 32), none, (.bin .lss), [(.t 29), (.t 31)], none⟩, ⟨(some 27), none, .mv, [(.t 32)], none⟩]) (.cond (.t 27) c_hand_agree_p3 .skip))
set_option maxRecDepth 100000 in
abbrev c_hand_agree_p5 : VC :=
  (.seq (.ops 0 [⟨(some 19), none, (.fldA 1), [(.t 4)], none⟩, ⟨(some 20), none, .ld1, [(.t 19)], none⟩, ⟨(some 21), none, (.fldA 1), [(.t 5)], none⟩, ⟨(some 22), none, .ld1, [(.t 21)], none⟩, ⟨(some 23), none, (.bin .gtr), [(.t 20), (.t 22)], none⟩, ⟨(some 18), none, .mv, [(.t 23)], none⟩]) (.cond (.t 18) c_hand_agree_p2 c_hand_agree_p4))
set_option maxRecDepth 100000 in
abbrev c_hand_agree_p6 : VC :=
  (.seq (.ops 0 [⟨(some 36), none, .mv, [(.t 2)], none⟩, ⟨(some 37), none, .mv, [(.t 3)], none⟩, ⟨(some 38), none, (.bin .leq), [(.t 36), (.t 37)], none⟩, ⟨(some 8), none, .mv, [(.t 38)], none⟩]) .ret)
set_option maxRecDepth 100000 in
abbrev c_hand_agree_p7 : VC :=
  (.seq (.block 0 (.seq (.ops 0 [⟨(some 10), none, (.fldA 1), [(.t 4)], none⟩, ⟨(some 11), none, .ld1, [(.t 10)], none⟩, ⟨(some 12), none, (.fldA 1), [(.t 5)], none⟩, ⟨(some 13), none, .ld1, [(.t 12)], none⟩, ⟨(some 14), none, (.bin .lss), [(.t 11), (.t 13)], none⟩, ⟨(some 9), none, .mv, [(.t 14)], none⟩]) (.cond (.t 9) c_hand_agree_p1 c_hand_agree_p5))) c_hand_agree_p6)
set_option maxRecDepth 100000 in
def c_hand_agree : VC :=
  (.seq (.ops 3 [⟨(some 4), none, (.box 92), [(.t 0)], none⟩, ⟨(some 5), none, (.box 92), [(.t 1)], none⟩, ⟨(some 8), none, .mv, [(.c (.lit (.bool false)))], none⟩]) c_hand_agree_p7)
set_option maxRecDepth 100000 in
theorem k_hand_agree : Comp Try.prog nobx gtab 108 39 c_hand_agree [(.t 8)] := ⟨⟨Try.f108, _, Try.func108, rfl, rfl, by kernel_rfl, by kernel_rfl⟩⟩
set_option maxRecDepth 100000 in
abbrev c_hand_spans_p1 : VC :=
  (.ops 0 [⟨(some 38), none, .mv, [(.t 10)], none⟩, ⟨(some 9), none, .mv, [(.t 38)], none⟩])
set_option maxRecDepth 100000 in
abbrev c_hand_spans_p2 : VC :=
  (.seq (.ops 0 [⟨(some 35), none, .mv, [(.t 11)], none⟩, ⟨(some 36), none, .mv, [(.t 7)], none⟩, ⟨(some 37), none, (.bin .eql), [(.t 35), (.t 36)], none⟩]) (.cond (.t 37) c_hand_spans_p1 .skip))
set_option maxRecDepth 100000 in
abbrev c_hand_spans_p3 : VC :=
  (.ops 0 [⟨(some 39), none, (.bin .add), [(.t 30), (.c (.lit (.int .i64 1)))], none⟩, ⟨(some 30), none, .mv, [(.t 39)], none⟩])
set_option maxRecDepth 100000 in
abbrev c_hand_spans_p4 : VC :=
  (.seq (.block 3 (.seq (.ops 0 [⟨(some 32), none, .mv, [(.t 30)], none⟩, ⟨(some 33), none, (.ixA 1), [(.t 28), (.t 30)], none⟩, ⟨(some 34), none, .ld1, [(.t 33)], none⟩, ⟨(some 10), none, .mv, [(.t 32)], none⟩, ⟨(some 11), none, .mv, [(.t 34)], none⟩]) c_hand_spans_p2)) c_hand_spans_p3)
set_option maxRecDepth 100000 in
abbrev c_hand_spans_p5 : VC :=
  (.seq (.ops 0 [⟨(some 31), none, (.bin .lss), [(.t 30), (.t 29)], none⟩]) (.seq (.cond (.t 31) .skip (.exit 2)) c_hand_spans_p4))
abbrev w_hand_spans_p5 : Nat := 1098437889536
set_option maxRecDepth 100000 in
abbrev c_hand_spans_p7 : VC :=
  (.seq (.ops 0 [⟨(some 6), none, .mv, [(.c (.lit (.bool false)))], none⟩]) .ret)
set_option maxRecDepth 100000 in
abbrev c_hand_spans_p8 : VC :=
  (.seq (.ops 0 [⟨(some 6), none, .mv, [(.c (.lit (.bool false)))], none⟩]) .ret)
set_option maxRecDepth 100000 in
abbrev c_hand_spans_p9 : VC :=
  (.seq (.ops 0 [⟨(some 6), none, .mv, [(.c (.lit (.bool false)))], none⟩]) .ret)
set_option maxRecDepth 100000 in
abbrev c_hand_spans_p10 : VC :=
  (.seq (.ops 0 [⟨(some 87), none, (.fldA 0), [(.t 4)], none⟩, ⟨(some 88), none, .ld1, [(.t 87)], none⟩, ⟨(some 89), none, .mv, [(.t 8)], none⟩, ⟨(some 90), none, .mv, [(.t 9)], none⟩, ⟨(some 91), none, (.slc 2 true true), [(.t 88), (.t 89), (.t 90)], none⟩, ⟨(some 92), none, (.mkfn 133), [(.t 14)], none⟩, ⟨(some 93), none, (.call 120), [(.t 91), (.t 92)], none⟩]) (.cond (.t 93) c_hand_spans_p9 .skip))
set_option maxRecDepth 100000 in
abbrev c_hand_spans_p11 : VC :=
  (.seq (.seq (.ops 0 [⟨(some 83), none, (.fldA 2), [(.t 4)], none⟩, ⟨(some 84), none, .ld1, [(.t 83)], none⟩, ⟨(some 85), none, (.mkfn 132), [(.t 12), (.t 13)], none⟩, ⟨(some 86), none, (.call 85), [(.t 84), (.t 85)], none⟩]) (.cond (.t 86) c_hand_spans_p8 .skip)) c_hand_spans_p10)
set_option maxRecDepth 100000 in
abbrev c_hand_spans_p12 : VC :=
  (.seq (.ops 24 [⟨(some 65), none, (.fldA 0), [(.t 4)], none⟩, ⟨(some 66), none, .ld1, [(.t 65)], (some [0])⟩, ⟨(some 67), none, .mv, [(.t 8)], none⟩, ⟨(some 68), none, (.ixA 2), [(.t 66), (.t 67)], none⟩, ⟨(some 69), none, (.fldA 0), [(.t 68)], none⟩, ⟨(some 70), none, .ld1, [(.t 69)], (some [0, 1, 2, 3, 4])⟩, ⟨(some 71), none, (.fldA 0), [(.t 4)], none⟩, ⟨(some 72), none, .ld1, [(.t 71)], (some [6])⟩, ⟨(some 73), none, .mv, [(.t 9)], none⟩, ⟨(some 74), none, (.ixA 2), [(.t 72), (.t 73)], none⟩, ⟨(some 75), none, (.fldA 0), [(.t 74)], none⟩, ⟨(some 76), none, .ld1, [(.t 75)], (some [6, 7, 8, 9, 10])⟩, ⟨(some 77), none, (.fldA 0), [(.t 4)], none⟩, ⟨(some 78), none, .ld1, [(.t 77)], (some [12])⟩, ⟨(some 79), none, .mv, [(.t 8)], none⟩, ⟨(some 80), none, (.ixA 2), [(.t 78), (.t 79)], none⟩, ⟨(some 81), none, (.fldA 1), [(.t 80)], none⟩, ⟨(some 82), none, .ld1, [(.t 81)], (some [12, 13, 14, 15, 16])⟩, ⟨(some 12), none, (.alloc 3 [(.lit (.int .i64 0))]), [], (some [])⟩, ⟨(some 13), none, (.alloc 3 [(.lit (.int .i64 0))]), [], (some [])⟩, ⟨(some 14), none, (.alloc 3 [(.lit (.int .i64 0))]), [], (some [])⟩, ⟨none, none, (.st 1), [(.t 12), (.t 70)], (some [18])⟩, ⟨none, none, (.st 1), [(.t 13), (.t 76)], (some [19])⟩, ⟨none, none, (.st 1), [(.t 14), (.t 82)], none⟩]) c_hand_spans_p11)
set_option maxRecDepth 100000 in
abbrev c_hand_spans_p13 : VC :=
  (.seq (.seq (.ops 0 [⟨(some 43), none, (.fldA 2), [(.t 3)], none⟩, ⟨(some 44), none, .ld1, [(.t 43)], none⟩, ⟨(some 45), none, .mv, [(.t 7)], none⟩, ⟨(some 46), none, (.bin .sub), [(.t 45), (.c (.lit (.int .i64 1)))], none⟩, ⟨(some 47), none, (.ixA 1), [(.t 44), (.t 46)], none⟩, ⟨(some 48), none, .ld1, [(.t 47)], none⟩, ⟨(some 49), none, (.un .not), [(.t 48)], none⟩, ⟨(some 50), none, .mv, [(.t 49)], none⟩, ⟨(some 51), (some (50, false)), (.fldA 0), [(.t 4)], none⟩, ⟨(some 52), (some (50, false)), .ld1, [(.t 51)], (some [0, 1, 2, 3, 4, 5, 6, 7, 8])⟩, ⟨(some 53), (some (50, false)), .mv, [(.t 8)], none⟩, ⟨(some 54), (some (50, false)), (.ixA 2), [(.t 52), (.t 53)], none⟩, ⟨(some 55), (some (50, false)), (.fldA 1), [(.t 54)], none⟩, ⟨(some 56), (some (50, false)), .ld1, [(.t 55)], (some [0, 1, 2, 3, 4, 5, 6, 7, 8, 9, 10, 11, 12])⟩, ⟨(some 57), (some (50, false)), (.fldA 0), [(.t 4)], none⟩, ⟨(some 58), (some (50, false)), .ld1, [(.t 57)], (some [0, 1, 2, 3, 4, 5, 6, 7, 14])⟩, ⟨(some 59), (some (50, false)), .mv, [(.t 9)], none⟩, ⟨(some 60), (some (50, false)), (.ixA 2), [(.t 58), (.t 59)], none⟩, ⟨(some 61), (some (50, false)), (.fldA 1), [(.t 60)], none⟩, ⟨(some 62), (some (50, false)), .ld1, [(.t 61)], (some [0, 1, 2, 3, 4, 5, 6, 7, 14, 15, 16, 17, 18])⟩, ⟨(some 63), (some (50, false)), (.bin .neq), [(.t 56), (.t 62)], none⟩, ⟨(some 64), none, .pick, [(.t 50), (.c (.lit (.bool true))), (.t 63)], none⟩]) (.cond (.t 64) c_hand_spans_p7 .skip)) c_hand_spans_p12)
set_option maxRecDepth 100000 in
abbrev c_hand_spans_p14 : VC :=
  (.seq (.seq (.ops 0 [⟨(some 40), none, .mv, [(.t 8)], none⟩, ⟨(some 41), none, .mv, [(.t 9)], none⟩, ⟨(some 42), none, (.bin .eql), [(.t 40), (.t 41)], none⟩]) (.cond (.t 42) (.exit 1) .skip)) c_hand_spans_p13)
set_option maxRecDepth 100000 in
abbrev c_hand_spans_p15 : VC :=
  (.seq (.seq (.ops 0 [⟨(some 28), none, .mv, [(.t 2)], none⟩, ⟨(some 29), none, .len, [(.t 28)], none⟩, ⟨(some 30), none, .mv, [(.c (.lit (.int .i64 0)))], none⟩]) (.block 2 (.loop c_hand_spans_p5))) c_hand_spans_p14)
set_option maxRecDepth 100000 in
abbrev c_hand_spans_p16 : VC :=
  (.seq (.ops 0 [⟨(some 27), none, .mv, [(.t 8)], none⟩, ⟨(some 9), none, .mv, [(.t 27)], none⟩]) c_hand_spans_p15)
set_option maxRecDepth 100000 in
abbrev c_hand_spans_p17 : VC :=
  (.seq (.seq (.ops 0 [⟨(some 25), none, .mv, [(.t 8)], none⟩, ⟨(some 26), none, (.bin .lss), [(.t 25), (.c (.lit (.int .i64 0)))], none⟩]) (.cond (.t 26) (.exit 1) .skip)) c_hand_spans_p16)
set_option maxRecDepth 100000 in
abbrev c_hand_spans_p18 : VC :=
  (.ops 0 [⟨(some 20), none, .mv, [(.t 7)], none⟩, ⟨(some 21), none, (.bin .add), [(.t 20), (.c (.lit (.int .i64 1)))], none⟩, ⟨(some 7), none, .mv, [(.t 21)], none⟩])
set_option maxRecDepth 100000 in
abbrev c_hand_spans_p19 : VC :=
  (.seq (.block 1 (.seq (.ops 0 [⟨(some 22), none, .mv, [(.t 2)], none⟩, ⟨(some 23), none, .mv, [(.t 7)], none⟩, ⟨(some 24), none, (.call 92), [(.t 22), (.t 23)], none⟩, ⟨(some 8), none, .mv, [(.t 24)], none⟩]) c_hand_spans_p17)) c_hand_spans_p18)
set_option maxRecDepth 100000 in
abbrev c_hand_spans_p20 : VC :=
  (.seq (.seq (.ops 0 [⟨(some 15), none, .mv, [(.t 7)], none⟩, ⟨(some 16), none, (.fldA 0), [(.t 3)], none⟩, ⟨(some 17), none, .ld1, [(.t 16)], none⟩, ⟨(some 18), none, .len, [(.t 17)], none⟩, ⟨(some 19), none, (.bin .leq), [(.t 15), (.t 18)], none⟩]) (.cond (.t 19) .skip (.exit 0))) c_hand_spans_p19)
abbrev w_hand_spans_p20 : Nat := 19807040628566084398385987520
set_option maxRecDepth 100000 in
abbrev c_hand_spans_p22 : VC :=
  (.seq (.ops 0 [⟨(some 6), none, .mv, [(.c (.lit (.bool true)))], none⟩]) .ret)
set_option maxRecDepth 100000 in
abbrev c_hand_spans_p23 : VC :=
  (.seq (.seq (.ops 0 [⟨(some 7), none, .mv, [(.c (.lit (.int .i64 1)))], none⟩]) (.block 0 (.loop c_hand_spans_p20))) c_hand_spans_p22)
set_option maxRecDepth 100000 in
def c_hand_spans : VC :=
  (.seq (.ops 3 [⟨(some 3), none, (.box 25), [(.t 0)], none⟩, ⟨(some 4), none, (.box 47), [(.t 1)], none⟩, ⟨(some 6), none, .mv, [(.c (.lit (.bool false)))], none⟩]) c_hand_spans_p23)
set_option maxRecDepth 100000 in
theorem k_hand_spans : Comp Try.prog nobx gtab 105 94 c_hand_spans [(.t 6)] := ⟨⟨Try.f105, _, Try.func105, rfl, rfl, by kernel_rfl, by kernel_rfl⟩⟩
set_option maxRecDepth 100000 in
abbrev c_hand_spans_1_p1 : VC :=
  (.seq (.ops 0 [⟨(some 5), none, .mv, [(.t 0)], none⟩, ⟨(some 6), none, .ld1, [(.t 1)], none⟩, ⟨(some 7), none, (.bin .gtr), [(.t 5), (.t 6)], none⟩, ⟨(some 8), none, .mv, [(.t 7)], none⟩, ⟨(some 9), (some (8, true)), .mv, [(.t 0)], none⟩, ⟨(some 10), (some (8, true)), .ld1, [(.t 2)], none⟩, ⟨(some 11), (some (8, true)), (.bin .lss), [(.t 9), (.t 10)], none⟩, ⟨(some 12), none, .pick, [(.t 8), (.t 11), (.c (.lit (.bool false)))], none⟩, ⟨(some 4), none, .mv, [(.t 12)], none⟩]) .ret)
set_option maxRecDepth 100000 in
def c_hand_spans_1 : VC :=
  (.seq (.ops 0 [⟨(some 4), none, .mv, [(.c (.lit (.bool false)))], none⟩]) c_hand_spans_1_p1)
set_option maxRecDepth 100000 in
theorem k_hand_spans_1 : Comp Try.prog nobx gtab 132 13 c_hand_spans_1 [(.t 4)] := ⟨⟨Try.f132, _, Try.func132, rfl, rfl, by kernel_rfl, by kernel_rfl⟩⟩
set_option maxRecDepth 100000 in
abbrev c_hand_spans_2_p1 : VC :=
  (.seq (.ops 0 [⟨(some 4), none, (.fldA 1), [(.t 2)], none⟩, ⟨(some 5), none, .ld1, [(.t 4)], none⟩, ⟨(some 6), none, .ld1, [(.t 1)], none⟩, ⟨(some 7), none, (.bin .lss), [(.t 5), (.t 6)], none⟩, ⟨(some 3), none, .mv, [(.t 7)], none⟩]) .ret)
set_option maxRecDepth 100000 in
def c_hand_spans_2 : VC :=
  (.seq (.ops 2 [⟨(some 2), none, (.box 92), [(.t 0)], none⟩, ⟨(some 3), none, .mv, [(.c (.lit (.bool false)))], none⟩]) c_hand_spans_2_p1)
set_option maxRecDepth 100000 in
theorem k_hand_spans_2 : Comp Try.prog nobx gtab 133 8 c_hand_spans_2 [(.t 3)] := ⟨⟨Try.f133, _, Try.func133, rfl, rfl, by kernel_rfl, by kernel_rfl⟩⟩
set_option maxRecDepth 100000 in
abbrev c_slices_Index_int_int_p1 : VC :=
  (.seq (.ops 0 [⟨(some 17), none, .mv, [(.t 5)], none⟩, ⟨(some 4), none, .mv, [(.t 17)], none⟩]) .ret)
set_option maxRecDepth 100000 in
abbrev c_slices_Index_int_int_p2 : VC :=
  (.seq (.ops 0 [⟨(some 11), none, .mv, [(.t 1)], none⟩, ⟨(some 12), none, .mv, [(.t 0)], none⟩, ⟨(some 13), none, .mv, [(.t 5)], none⟩, ⟨(some 14), none, (.ixA 1), [(.t 12), (.t 13)], none⟩, ⟨(some 15), none, .ld1, [(.t 14)], none⟩, ⟨(some 16), none, (.bin .eql), [(.t 11), (.t 15)], none⟩]) (.cond (.t 16) c_slices_Index_int_int_p1 .skip))
set_option maxRecDepth 100000 in
abbrev c_slices_Index_int_int_p3 : VC :=
  (.ops 0 [⟨(some 18), none, (.bin .add), [(.t 8), (.c (.lit (.int .i64 1)))], none⟩, ⟨(some 8), none, .mv, [(.t 18)], none⟩])
set_option maxRecDepth 100000 in
abbrev c_slices_Index_int_int_p4 : VC :=
  (.seq (.block 1 (.seq (.ops 0 [⟨(some 10), none, .mv, [(.t 8)], none⟩, ⟨(some 5), none, .mv, [(.t 10)], none⟩]) c_slices_Index_int_int_p2)) c_slices_Index_int_int_p3)
set_option maxRecDepth 100000 in
abbrev c_slices_Index_int_int_p5 : VC :=
  (.seq (.cond (.t 9) .skip (.exit 0)) c_slices_Index_int_int_p4)
set_option maxRecDepth 100000 in
abbrev c_slices_Index_int_int_p6 : VC :=
  (.seq (.ops 0 [⟨(some 9), none, (.bin .lss), [(.t 8), (.t 7)], none⟩]) c_slices_Index_int_int_p5)
abbrev w_slices_Index_int_int_p6 : Nat := 524080
set_option maxRecDepth 100000 in
abbrev c_slices_Index_int_int_p8 : VC :=
  (.seq (.ops 0 [⟨(some 4), none, .mv, [(.c (.lit (.int .i64 (-1))))], none⟩]) .ret)
set_option maxRecDepth 100000 in
abbrev c_slices_Index_int_int_p9 : VC :=
  (.seq (.seq (.ops 0 [⟨(some 6), none, .mv, [(.t 0)], none⟩, ⟨(some 7), none, .len, [(.t 6)], none⟩, ⟨(some 8), none, .mv, [(.c (.lit (.int .i64 0)))], none⟩]) (.block 0 (.loop c_slices_Index_int_int_p6))) c_slices_Index_int_int_p8)
set_option maxRecDepth 100000 in
def c_slices_Index_int_int : VC :=
  (.seq (.ops 0 [⟨(some 4), none, .mv, [(.c (.lit (.int .i64 0)))], none⟩]) c_slices_Index_int_int_p9)
set_option maxRecDepth 100000 in
theorem k_slices_Index_int_int : Comp Try.prog nobx gtab 92 19 c_slices_Index_int_int [(.t 4)] := ⟨⟨Try.f92, _, Try.func92, rfl, rfl, by kernel_rfl, by kernel_rfl⟩⟩
set_option maxRecDepth 100000 in
abbrev c_slices_ContainsFunc_int_int_p1 : VC :=
  (.seq (.ops 0 [⟨(some 5), none, .mv, [(.t 0)], none⟩, ⟨(some 6), none, .mv, [(.t 1)], none⟩, ⟨(some 7), none, (.call 125), [(.t 5), (.t 6)], none⟩, ⟨(some 8), none, (.bin .geq), [(.t 7), (.c (.lit (.int .i64 0)))], none⟩, ⟨(some 4), none, .mv, [(.t 8)], none⟩]) .ret)
set_option maxRecDepth 100000 in
def c_slices_ContainsFunc_int_int : VC :=
  (.seq (.ops 0 [⟨(some 4), none, .mv, [(.c (.lit (.bool false)))], none⟩]) c_slices_ContainsFunc_int_int_p1)
set_option maxRecDepth 100000 in
theorem k_slices_ContainsFunc_int_int : Comp Try.prog nobx gtab 85 9 c_slices_ContainsFunc_int_int [(.t 4)] := ⟨⟨Try.f85, _, Try.func85, rfl, rfl, by kernel_rfl, by kernel_rfl⟩⟩
set_option maxRecDepth 100000 in
abbrev c_slices_IndexFunc_int_int_p1 : VC :=
  (.seq (.ops 0 [⟨(some 17), none, .mv, [(.t 5)], none⟩, ⟨(some 4), none, .mv, [(.t 17)], none⟩]) .ret)
set_option maxRecDepth 100000 in
abbrev c_slices_IndexFunc_int_int_p2 : VC :=
  (.seq (.ops 0 [⟨(some 11), none, .mv, [(.t 1)], none⟩, ⟨(some 12), none, .mv, [(.t 0)], none⟩, ⟨(some 13), none, .mv, [(.t 5)], none⟩, ⟨(some 14), none, (.ixA 1), [(.t 12), (.t 13)], none⟩, ⟨(some 15), none, .ld1, [(.t 14)], none⟩, ⟨(some 16), none, .callv, [(.t 11), (.t 15)], none⟩]) (.cond (.t 16) c_slices_IndexFunc_int_int_p1 .skip))
set_option maxRecDepth 100000 in
abbrev c_slices_IndexFunc_int_int_p3 : VC :=
  (.ops 0 [⟨(some 18), none, (.bin .add), [(.t 8), (.c (.lit (.int .i64 1)))], none⟩, ⟨(some 8), none, .mv, [(.t 18)], none⟩])
set_option maxRecDepth 100000 in
abbrev c_slices_IndexFunc_int_int_p4 : VC :=
  (.seq (.block 1 (.seq (.ops 0 [⟨(some 10), none, .mv, [(.t 8)], none⟩, ⟨(some 5), none, .mv, [(.t 10)], none⟩]) c_slices_IndexFunc_int_int_p2)) c_slices_IndexFunc_int_int_p3)
set_option maxRecDepth 100000 in
abbrev c_slices_IndexFunc_int_int_p5 : VC :=
  (.seq (.cond (.t 9) .skip (.exit 0)) c_slices_IndexFunc_int_int_p4)
set_option maxRecDepth 100000 in
abbrev c_slices_IndexFunc_int_int_p6 : VC :=
  (.seq (.ops 0 [⟨(some 9), none, (.bin .lss), [(.t 8), (.t 7)], none⟩]) c_slices_IndexFunc_int_int_p5)
abbrev w_slices_IndexFunc_int_int_p6 : Nat := 524080
set_option maxRecDepth 100000 in
abbrev c_slices_IndexFunc_int_int_p8 : VC :=
  (.seq (.ops 0 [⟨(some 4), none, .mv, [(.c (.lit (.int .i64 (-1))))], none⟩]) .ret)
set_option maxRecDepth 100000 in
abbrev c_slices_IndexFunc_int_int_p9 : VC :=
  (.seq (.seq (.ops 0 [⟨(some 6), none, .mv, [(.t 0)], none⟩, ⟨(some 7), none, .len, [(.t 6)], none⟩, ⟨(some 8), none, .mv, [(.c (.lit (.int .i64 0)))], none⟩]) (.block 0 (.loop c_slices_IndexFunc_int_int_p6))) c_slices_IndexFunc_int_int_p8)
set_option maxRecDepth 100000 in
def c_slices_IndexFunc_int_int : VC :=
  (.seq (.ops 0 [⟨(some 4), none, .mv, [(.c (.lit (.int .i64 0)))], none⟩]) c_slices_IndexFunc_int_int_p9)
set_option maxRecDepth 100000 in
theorem k_slices_IndexFunc_int_int : Comp Try.prog nobx gtab 125 19 c_slices_IndexFunc_int_int [(.t 4)] := ⟨⟨Try.f125, _, Try.func125, rfl, rfl, by kernel_rfl, by kernel_rfl⟩⟩
set_option maxRecDepth 100000 in
abbrev c_slices_ContainsFunc_api_Place_api_Place_p1 : VC :=
  (.seq (.ops 0 [⟨(some 5), none, .mv, [(.t 0)], none⟩, ⟨(some 6), none, .mv, [(.t 1)], none⟩, ⟨(some 7), none, (.call 129), [(.t 5), (.t 6)], none⟩, ⟨(some 8), none, (.bin .geq), [(.t 7), (.c (.lit (.int .i64 0)))], none⟩, ⟨(some 4), none, .mv, [(.t 8)], none⟩]) .ret)
set_option maxRecDepth 100000 in
def c_slices_ContainsFunc_api_Place_api_Place : VC :=
  (.seq (.ops 0 [⟨(some 4), none, .mv, [(.c (.lit (.bool false)))], none⟩]) c_slices_ContainsFunc_api_Place_api_Place_p1)
set_option maxRecDepth 100000 in
theorem k_slices_ContainsFunc_api_Place_api_Place : Comp Try.prog nobx gtab 120 9 c_slices_ContainsFunc_api_Place_api_Place [(.t 4)] := ⟨⟨Try.f120, _, Try.func120, rfl, rfl, by kernel_rfl, by kernel_rfl⟩⟩
set_option maxRecDepth 100000 in
abbrev c_hand_fits_p1 : VC :=
  (.seq (.ops 0 [⟨(some 6), none, .mv, [(.c (.lit (.bool false)))], none⟩]) .ret)
set_option maxRecDepth 100000 in
abbrev c_hand_fits_p2 : VC :=
  (.seq (.ops 0 [⟨(some 6), none, .mv, [(.c (.lit (.bool false)))], none⟩]) .ret)
set_option maxRecDepth 100000 in
abbrev c_hand_fits_p3 : VC :=
  (.seq (.ops 0 [⟨(some 6), none, .mv, [(.c (.lit (.bool false)))], none⟩]) .ret)
set_option maxRecDepth 100000 in
abbrev c_hand_fits_p4 : VC :=
  (.seq (.ops 0 [⟨(some 57), none, (.fldA 0), [(.t 4)], none⟩, ⟨(some 58), none, .ld1, [(.t 57)], (some [0])⟩, ⟨(some 59), none, .mv, [(.t 9)], none⟩, ⟨(some 60), none, (.ixA 2), [(.t 58), (.t 59)], none⟩, ⟨(some 61), none, (.ldA 2), [(.t 60)], (some [0, 1, 2, 3])⟩, ⟨(some 62), none, (.fldA 0), [(.t 4)], none⟩, ⟨(some 63), none, .ld1, [(.t 62)], (some [5])⟩, ⟨(some 64), none, .mv, [(.t 7)], none⟩, ⟨(some 65), none, (.ixA 2), [(.t 63), (.t 64)], none⟩, ⟨(some 66), none, (.ldA 2), [(.t 65)], (some [5, 6, 7, 8])⟩, ⟨(some 67), none, (.fldA 1), [(.t 5)], none⟩, ⟨(some 68), none, .ld1, [(.t 67)], (some [10])⟩, ⟨(some 69), none, .mv, [(.t 9)], none⟩, ⟨(some 70), none, (.ixA 1), [(.t 68), (.t 69)], none⟩, ⟨(some 71), none, .ld1, [(.t 70)], (some [10, 11, 12, 13])⟩, ⟨(some 72), none, .mv, [(.t 8)], none⟩, ⟨(some 73), none, (.call 108), [(.t 61), (.t 66), (.t 71), (.t 72)], none⟩, ⟨(some 74), none, (.un .not), [(.t 73)], none⟩]) (.cond (.t 74) c_hand_fits_p3 .skip))
set_option maxRecDepth 100000 in
abbrev c_hand_fits_p5 : VC :=
  (.ops 0 [⟨(some 75), none, (.bin .add), [(.t 54), (.c (.lit (.int .i64 1)))], none⟩, ⟨(some 54), none, .mv, [(.t 75)], none⟩])
set_option maxRecDepth 100000 in
abbrev c_hand_fits_p6 : VC :=
  (.seq (.block 3 (.seq (.ops 0 [⟨(some 56), none, .mv, [(.t 54)], none⟩, ⟨(some 9), none, .mv, [(.t 56)], none⟩]) c_hand_fits_p4)) c_hand_fits_p5)
set_option maxRecDepth 100000 in
abbrev c_hand_fits_p7 : VC :=
  (.seq (.ops 0 [⟨(some 55), none, (.bin .lss), [(.t 54), (.t 53)], none⟩]) (.seq (.cond (.t 55) .skip (.exit 2)) c_hand_fits_p6))
abbrev w_hand_fits_p7 : Nat := 75557845711515813937728
set_option maxRecDepth 100000 in
abbrev c_hand_fits_p9 : VC :=
  (.seq (.ops 0 [⟨(some 53), none, .mv, [(.t 7)], none⟩, ⟨(some 54), none, .mv, [(.c (.lit (.int .i64 0)))], none⟩]) (.block 2 (.loop c_hand_fits_p7)))
set_option maxRecDepth 100000 in
abbrev c_hand_fits_p10 : VC :=
  (.seq (.seq (.ops 0 [⟨(some 33), none, .mv, [(.t 8)], none⟩, ⟨(some 34), none, (.fldA 0), [(.t 3)], none⟩, ⟨(some 35), none, .ld1, [(.t 34)], none⟩, ⟨(some 36), none, .len, [(.t 35)], none⟩, ⟨(some 37), none, (.call 63), [(.t 33), (.c (.lit (.int .i64 1))), (.t 36)], none⟩, ⟨(some 38), none, (.un .not), [(.t 37)], none⟩, ⟨(some 39), none, .mv, [(.t 38)], none⟩, ⟨(some 40), (some (39, false)), (.ldA 10), [(.t 3)], (some [0, 1, 2, 3, 4, 5, 6])⟩, ⟨(some 41), (some (39, false)), (.fldA 0), [(.t 5)], none⟩, ⟨(some 42), (some (39, false)), .ld1, [(.t 41)], (some [0, 1, 2, 3, 4, 5, 6, 8])⟩, ⟨(some 43), (some (39, false)), .mv, [(.t 8)], none⟩, ⟨(some 44), (some (39, false)), (.fldA 0), [(.t 4)], none⟩, ⟨(some 45), (some (39, false)), .ld1, [(.t 44)], (some [0, 1, 2, 3, 4, 5, 6, 11])⟩, ⟨(some 46), (some (39, false)), .mv, [(.t 7)], none⟩, ⟨(some 47), (some (39, false)), (.ixA 2), [(.t 45), (.t 46)], none⟩, ⟨(some 48), (some (39, false)), (.fldA 1), [(.t 47)], none⟩, ⟨(some 49), (some (39, false)), .ld1, [(.t 48)], (some [0, 1, 2, 3, 4, 5, 6, 11, 12, 13, 14, 15])⟩, ⟨(some 50), (some (39, false)), (.call 107), [(.t 40), (.t 42), (.t 43), (.t 49)], none⟩, ⟨(some 51), (some (39, false)), (.un .not), [(.t 50)], none⟩, ⟨(some 52), none, .pick, [(.t 39), (.c (.lit (.bool true))), (.t 51)], none⟩]) (.cond (.t 52) c_hand_fits_p2 .skip)) c_hand_fits_p9)
set_option maxRecDepth 100000 in
abbrev c_hand_fits_p11 : VC :=
  (.ops 0 [⟨(some 76), none, (.bin .add), [(.t 28), (.c (.lit (.int .i64 1)))], none⟩, ⟨(some 28), none, .mv, [(.t 76)], none⟩])
set_option maxRecDepth 100000 in
abbrev c_hand_fits_p12 : VC :=
  (.seq (.block 1 (.seq (.ops 0 [⟨(some 30), none, .mv, [(.t 28)], none⟩, ⟨(some 31), none, (.ixA 1), [(.t 26), (.t 28)], none⟩, ⟨(some 32), none, .ld1, [(.t 31)], none⟩, ⟨(some 7), none, .mv, [(.t 30)], none⟩, ⟨(some 8), none, .mv, [(.t 32)], none⟩]) c_hand_fits_p10)) c_hand_fits_p11)
set_option maxRecDepth 100000 in
abbrev c_hand_fits_p13 : VC :=
  (.seq (.ops 0 [⟨(some 29), none, (.bin .lss), [(.t 28), (.t 27)], none⟩]) (.seq (.cond (.t 29) .skip (.exit 0)) c_hand_fits_p12))
abbrev w_hand_fits_p13 : Nat := 151115727451828378403776
set_option maxRecDepth 100000 in
abbrev c_hand_fits_p15 : VC :=
  (.seq (.ops 0 [⟨(some 77), none, (.ldA 10), [(.t 3)], none⟩, ⟨(some 78), none, (.ldA 3), [(.t 4)], none⟩, ⟨(some 79), none, (.fldA 1), [(.t 5)], none⟩, ⟨(some 80), none, .ld1, [(.t 79)], none⟩, ⟨(some 81), none, (.call 105), [(.t 77), (.t 78), (.t 80)], none⟩, ⟨(some 6), none, .mv, [(.t 81)], none⟩]) .ret)
set_option maxRecDepth 100000 in
abbrev c_hand_fits_p16 : VC :=
  (.seq (.seq (.ops 0 [⟨(some 25), none, (.fldA 1), [(.t 5)], none⟩, ⟨(some 26), none, .ld1, [(.t 25)], none⟩, ⟨(some 27), none, .len, [(.t 26)], none⟩, ⟨(some 28), none, .mv, [(.c (.lit (.int .i64 0)))], none⟩]) (.block 0 (.loop c_hand_fits_p13))) c_hand_fits_p15)
set_option maxRecDepth 100000 in
abbrev c_hand_fits_p17 : VC :=
  (.seq (.seq (.ops 0 [⟨(some 10), none, (.fldA 0), [(.t 5)], none⟩, ⟨(some 11), none, .ld1, [(.t 10)], none⟩, ⟨(some 12), none, (.fldA 3), [(.t 3)], none⟩, ⟨(some 13), none, .ld1, [(.t 12)], none⟩, ⟨(some 14), none, (.call 63), [(.t 11), (.c (.lit (.int .i64 1))), (.t 13)], none⟩, ⟨(some 15), none, (.un .not), [(.t 14)], none⟩, ⟨(some 16), none, .mv, [(.t 15)], none⟩, ⟨(some 17), (some (16, false)), (.fldA 1), [(.t 5)], none⟩, ⟨(some 18), (some (16, false)), .ld1, [(.t 17)], none⟩, ⟨(some 19), (some (16, false)), .len, [(.t 18)], none⟩, ⟨(some 20), (some (16, false)), (.fldA 0), [(.t 4)], none⟩, ⟨(some 21), (some (16, false)), .ld1, [(.t 20)], none⟩, ⟨(some 22), (some (16, false)), .len, [(.t 21)], none⟩, ⟨(some 23), (some (16, false)), (.bin .neq), [(.t 19), (.t 22)], none⟩, ⟨(some 24), none, .pick, [(.t 16), (.c (.lit (.bool true))), (.t 23)], none⟩]) (.cond (.t 24) c_hand_fits_p1 .skip)) c_hand_fits_p16)
set_option maxRecDepth 100000 in
def c_hand_fits : VC :=
  (.seq (.ops 4 [⟨(some 3), none, (.box 25), [(.t 0)], none⟩, ⟨(some 4), none, (.box 47), [(.t 1)], none⟩, ⟨(some 5), none, (.box 53), [(.t 2)], none⟩, ⟨(some 6), none, .mv, [(.c (.lit (.bool false)))], none⟩]) c_hand_fits_p17)
set_option maxRecDepth 100000 in
theorem k_hand_fits : Comp Try.prog nobx gtab 78 82 c_hand_fits [(.t 6)] := ⟨⟨Try.f78, _, Try.func78, rfl, rfl, by kernel_rfl, by kernel_rfl⟩⟩
set_option maxRecDepth 100000 in
abbrev c_theorboref06_reach_p1 : VC :=
  (.seq (.ops 0 [⟨(some 9), none, .mv, [(.t 2)], none⟩, ⟨(some 10), none, (.bin .geq), [(.t 9), (.c (.lit (.int .i64 1)))], none⟩, ⟨(some 11), none, .mv, [(.t 10)], none⟩, ⟨(some 12), (some (11, true)), .mv, [(.t 2)], none⟩, ⟨(some 13), (some (11, true)), (.fldA 0), [(.t 4)], none⟩, ⟨(some 14), (some (11, true)), .ld1, [(.t 13)], none⟩, ⟨(some 15), (some (11, true)), .len, [(.t 14)], none⟩, ⟨(some 16), (some (11, true)), (.bin .leq), [(.t 12), (.t 15)], none⟩, ⟨(some 17), none, .pick, [(.t 11), (.t 16), (.c (.lit (.bool false)))], none⟩, ⟨(some 18), none, .mv, [(.t 17)], none⟩, ⟨(some 19), (some (18, true)), .mv, [(.t 3)], none⟩, ⟨(some 20), (some (18, true)), .mv, [(.t 1)], none⟩, ⟨(some 21), (some (18, true)), (.bin .sub), [(.t 19), (.t 20)], none⟩, ⟨(some 22), (some (18, true)), (.fldA 0), [(.t 4)], none⟩, ⟨(some 23), (some (18, true)), .ld1, [(.t 22)], none⟩, ⟨(some 24), (some (18, true)), .mv, [(.t 2)], none⟩, ⟨(some 25), (some (18, true)), (.bin .sub), [(.t 24), (.c (.lit (.int .i64 1)))], none⟩, ⟨(some 26), (some (18, true)), (.ixA 1), [(.t 23), (.t 25)], none⟩, ⟨(some 27), (some (18, true)), .ld1, [(.t 26)], none⟩, ⟨(some 28), (some (18, true)), (.bin .geq), [(.t 21), (.t 27)], none⟩, ⟨(some 29), none, .pick, [(.t 18), (.t 28), (.c (.lit (.bool false)))], none⟩, ⟨(some 30), none, .mv, [(.t 29)], none⟩, ⟨(some 31), (some (30, true)), .mv, [(.t 3)], none⟩, ⟨(some 32), (some (30, true)), .mv, [(.t 1)], none⟩, ⟨(some 33), (some (30, true)), (.bin .sub), [(.t 31), (.t 32)], none⟩, ⟨(some 34), (some (30, true)), (.fldA 1), [(.t 4)], none⟩, ⟨(some 35), (some (30, true)), .ld1, [(.t 34)], none⟩, ⟨(some 36), (some (30, true)), .mv, [(.t 2)], none⟩, ⟨(some 37), (some (30, true)), (.bin .sub), [(.t 36), (.c (.lit (.int .i64 1)))], none⟩, ⟨(some 38), (some (30, true)), (.ixA 1), [(.t 35), (.t 37)], none⟩, ⟨(some 39), (some (30, true)), .ld1, [(.t 38)], none⟩, ⟨(some 40), (some (30, true)), (.bin .leq), [(.t 33), (.t 39)], none⟩, ⟨(some 41), none, .pick, [(.t 30), (.t 40), (.c (.lit (.bool false)))], none⟩, ⟨(some 8), none, .mv, [(.t 41)], none⟩]) .ret)
set_option maxRecDepth 100000 in
def c_theorboref06_reach : VC :=
  (.seq (.ops 2 [⟨(some 4), none, (.box 25), [(.t 0)], none⟩, ⟨(some 8), none, .mv, [(.c (.lit (.bool false)))], none⟩]) c_theorboref06_reach_p1)
set_option maxRecDepth 100000 in
theorem k_theorboref06_reach : Comp Try.prog nobx gtab 115 42 c_theorboref06_reach [(.t 8)] := ⟨⟨Try.f115, _, Try.func115, rfl, rfl, by kernel_rfl, by kernel_rfl⟩⟩
set_option maxRecDepth 100000 in
abbrev c_theorboref06_apart_p1 : VC :=
  (.seq (.ops 0 [⟨(some 33), none, .mv, [(.t 4)], none⟩, ⟨(some 34), none, .mv, [(.t 5)], none⟩, ⟨(some 35), none, (.bin .lss), [(.t 33), (.t 34)], none⟩, ⟨(some 12), none, .mv, [(.t 35)], none⟩]) .ret)
set_option maxRecDepth 100000 in
abbrev c_theorboref06_apart_p2 : VC :=
  (.seq (.ops 0 [⟨(some 42), none, .mv, [(.t 4)], none⟩, ⟨(some 43), none, .mv, [(.t 5)], none⟩, ⟨(some 44), none, (.bin .gtr), [(.t 42), (.t 43)], none⟩, ⟨(some 12), none, .mv, [(.t 44)], none⟩]) .ret)
set_option maxRecDepth 100000 in
abbrev c_theorboref06_apart_p3 : VC :=
  (.seq (.ops 0 [⟨(some 49), none, .mv, [(.t 4)], none⟩, ⟨(some 50), none, .mv, [(.t 5)], none⟩, ⟨(some 51), none, (.bin .gtr), [(.t 49), (.t 50)], none⟩, ⟨(some 12), none, .mv, [(.t 51)], none⟩]) .ret)
set_option maxRecDepth 100000 in
abbrev c_theorboref06_apart_p4 : VC :=
  (.seq (.ops 0 [⟨(some 46), none, .mv, [(.t 4)], none⟩, ⟨(some 47), none, .mv, [(.t 5)], none⟩, ⟨(some 48), none, (.bin .neq), [(.t 46), (.t 47)], none⟩, ⟨(some 45), none, .mv, [(.t 48)], none⟩]) (.cond (.t 45) c_theorboref06_apart_p3 .skip))
set_option maxRecDepth 100000 in
abbrev c_theorboref06_apart_p5 : VC :=
  (.cond (.t 36) c_theorboref06_apart_p2 c_theorboref06_apart_p4)
set_option maxRecDepth 100000 in
abbrev c_theorboref06_apart_p6 : VC :=
  (.seq (.ops 0 [⟨(some 37), none, (.fldA 1), [(.t 13)], none⟩, ⟨(some 38), none, .ld1, [(.t 37)], none⟩, ⟨(some 39), none, (.fldA 1), [(.t 14)], none⟩, ⟨(some 40), none, .ld1, [(.t 39)], none⟩, ⟨(some 41), none, (.bin .gtr), [(.t 38), (.t 40)], none⟩, ⟨(some 36), none, .mv, [(.t 41)], none⟩]) c_theorboref06_apart_p5)
set_option maxRecDepth 100000 in
abbrev c_theorboref06_apart_p7 : VC :=
  (.cond (.t 27) c_theorboref06_apart_p1 c_theorboref06_apart_p6)
set_option maxRecDepth 100000 in
abbrev c_theorboref06_apart_p8 : VC :=
  (.seq (.ops 0 [⟨(some 12), none, .mv, [(.c (.lit (.bool false)))], none⟩]) .ret)
set_option maxRecDepth 100000 in
abbrev c_theorboref06_apart_p9 : VC :=
  (.seq (.ops 0 [⟨(some 12), none, .mv, [(.c (.lit (.bool false)))], none⟩]) .ret)
set_option maxRecDepth 100000 in
abbrev c_theorboref06_apart_p10 : VC :=
  (.ops 0 [⟨(some 64), none, .mv, [(.t 15)], none⟩, ⟨(some 65), none, (.bin .add), [(.t 64), (.c (.lit (.int .i64 1)))], none⟩, ⟨(some 15), none, .mv, [(.t 65)], none⟩])
set_option maxRecDepth 100000 in
abbrev c_theorboref06_apart_p11 : VC :=
  (.seq (.block 2 (.seq (.ops 0 [⟨(some 66), none, (.fldA 2), [(.t 7)], none⟩, ⟨(some 67), none, .ld1, [(.t 66)], (some [0])⟩, ⟨(some 68), none, .mv, [(.t 15)], none⟩, ⟨(some 69), none, (.ixA 1), [(.t 67), (.t 68)], none⟩, ⟨(some 70), none, .ld1, [(.t 69)], (some [0, 1, 2, 3])⟩, ⟨(some 71), none, (.fldA 0), [(.t 13)], none⟩, ⟨(some 72), none, .ld1, [(.t 71)], (some [5])⟩, ⟨(some 73), none, (.bin .gtr), [(.t 70), (.t 72)], none⟩, ⟨(some 74), none, .mv, [(.t 73)], none⟩, ⟨(some 75), (some (74, true)), (.fldA 2), [(.t 7)], none⟩, ⟨(some 76), (some (74, true)), .ld1, [(.t 75)], (some [0, 1, 2, 3, 4, 5, 6, 7, 8, 9])⟩, ⟨(some 77), (some (74, true)), .mv, [(.t 15)], none⟩, ⟨(some 78), (some (74, true)), (.ixA 1), [(.t 76), (.t 77)], none⟩, ⟨(some 79), (some (74, true)), .ld1, [(.t 78)], (some [0, 1, 2, 3, 4, 5, 6, 7, 8, 9, 10, 11, 12])⟩, ⟨(some 80), (some (74, true)), (.fldA 0), [(.t 14)], none⟩, ⟨(some 81), (some (74, true)), .ld1, [(.t 80)], (some [0, 1, 2, 3, 4, 5, 6, 7, 8, 14])⟩, ⟨(some 82), (some (74, true)), (.bin .lss), [(.t 79), (.t 81)], none⟩, ⟨(some 83), none, .pick, [(.t 74), (.t 82), (.c (.lit (.bool false)))], none⟩]) (.cond (.t 83) c_theorboref06_apart_p9 .skip))) c_theorboref06_apart_p10)
set_option maxRecDepth 100000 in
abbrev c_theorboref06_apart_p12 : VC :=
  (.seq (.seq (.ops 0 [⟨(some 59), none, .mv, [(.t 15)], none⟩, ⟨(some 60), none, (.fldA 2), [(.t 7)], none⟩, ⟨(some 61), none, .ld1, [(.t 60)], none⟩, ⟨(some 62), none, .len, [(.t 61)], none⟩, ⟨(some 63), none, (.bin .lss), [(.t 59), (.t 62)], none⟩]) (.cond (.t 63) .skip (.exit 1))) c_theorboref06_apart_p11)
abbrev w_theorboref06_apart_p12 : Nat := 19342812537373314491912192
set_option maxRecDepth 100000 in
abbrev c_theorboref06_apart_p14 : VC :=
  (.seq (.ops 0 [⟨(some 12), none, .mv, [(.c (.lit (.bool false)))], none⟩]) .ret)
set_option maxRecDepth 100000 in
abbrev c_theorboref06_apart_p15 : VC :=
  (.ops 0 [⟨(some 88), none, .mv, [(.t 16)], none⟩, ⟨(some 89), none, (.bin .add), [(.t 88), (.c (.lit (.int .i64 1)))], none⟩, ⟨(some 16), none, .mv, [(.t 89)], none⟩])
set_option maxRecDepth 100000 in
abbrev c_theorboref06_apart_p16 : VC :=
  (.seq (.block 4 (.seq (.ops 0 [⟨(some 90), none, (.fldA 0), [(.t 7)], none⟩, ⟨(some 91), none, .ld1, [(.t 90)], (some [0])⟩, ⟨(some 92), none, .mv, [(.t 16)], none⟩, ⟨(some 93), none, (.ixA 2), [(.t 91), (.t 92)], none⟩, ⟨(some 94), none, (.fldA 1), [(.t 93)], none⟩, ⟨(some 95), none, .ld1, [(.t 94)], (some [0, 1, 2, 3, 4])⟩, ⟨(some 96), none, (.fldA 1), [(.t 13)], none⟩, ⟨(some 97), none, .ld1, [(.t 96)], (some [6])⟩, ⟨(some 98), none, (.bin .lss), [(.t 95), (.t 97)], none⟩]) (.cond (.t 98) c_theorboref06_apart_p14 .skip))) c_theorboref06_apart_p15)
set_option maxRecDepth 100000 in
abbrev c_theorboref06_apart_p17 : VC :=
  (.seq (.seq (.ops 0 [⟨(some 85), none, .mv, [(.t 16)], none⟩, ⟨(some 86), none, .mv, [(.t 3)], none⟩, ⟨(some 87), none, (.bin .lss), [(.t 85), (.t 86)], none⟩]) (.cond (.t 87) .skip (.exit 3))) c_theorboref06_apart_p16)
abbrev w_theorboref06_apart_p17 : Nat := 633786614487887032614761074688
set_option maxRecDepth 100000 in
abbrev c_theorboref06_apart_p19 : VC :=
  (.seq (.ops 0 [⟨(some 12), none, .mv, [(.c (.lit (.bool true)))], none⟩]) .ret)
set_option maxRecDepth 100000 in
abbrev c_theorboref06_apart_p20 : VC :=
  (.seq (.seq (.ops 0 [⟨(some 84), none, .mv, [(.t 2)], none⟩, ⟨(some 16), none, .mv, [(.t 84)], none⟩]) (.block 3 (.loop c_theorboref06_apart_p17))) c_theorboref06_apart_p19)
set_option maxRecDepth 100000 in
abbrev c_theorboref06_apart_p21 : VC :=
  (.seq (.seq (.ops 0 [⟨(some 15), none, .mv, [(.c (.lit (.int .i64 0)))], none⟩]) (.block 1 (.loop c_theorboref06_apart_p12))) c_theorboref06_apart_p20)
set_option maxRecDepth 100000 in
abbrev c_theorboref06_apart_p22 : VC :=
  (.seq (.seq (.ops 0 [⟨(some 52), none, (.fldA 2), [(.t 6)], none⟩, ⟨(some 53), none, .ld1, [(.t 52)], none⟩, ⟨(some 54), none, .mv, [(.t 4)], none⟩, ⟨(some 55), none, (.bin .sub), [(.t 54), (.c (.lit (.int .i64 1)))], none⟩, ⟨(some 56), none, (.ixA 1), [(.t 53), (.t 55)], none⟩, ⟨(some 57), none, .ld1, [(.t 56)], none⟩, ⟨(some 58), none, (.un .not), [(.t 57)], none⟩]) (.cond (.t 58) c_theorboref06_apart_p8 .skip)) c_theorboref06_apart_p21)
set_option maxRecDepth 100000 in
abbrev c_theorboref06_apart_p23 : VC :=
  (.seq (.block 0 (.seq (.ops 0 [⟨(some 28), none, (.fldA 1), [(.t 13)], none⟩, ⟨(some 29), none, .ld1, [(.t 28)], none⟩, ⟨(some 30), none, (.fldA 1), [(.t 14)], none⟩, ⟨(some 31), none, .ld1, [(.t 30)], none⟩, ⟨(some 32), none, (.bin .lss), [(.t 29), (.t 31)], none⟩, ⟨(some 27), none, .mv, [(.t 32)], none⟩]) c_theorboref06_apart_p7)) c_theorboref06_apart_p22)
set_option maxRecDepth 100000 in
abbrev c_theorboref06_apart_p24 : VC :=
  (.seq (.ops 14 [⟨(some 17), none, (.fldA 0), [(.t 7)], none⟩, ⟨(some 18), none, .ld1, [(.t 17)], (some [0])⟩, ⟨(some 19), none, .mv, [(.t 2)], none⟩, ⟨(some 20), none, (.ixA 2), [(.t 18), (.t 19)], none⟩, ⟨(some 21), none, (.ldA 2), [(.t 20)], (some [0, 1, 2, 3])⟩, ⟨(some 22), none, (.fldA 0), [(.t 7)], none⟩, ⟨(some 23), none, .ld1, [(.t 22)], (some [5])⟩, ⟨(some 24), none, .mv, [(.t 3)], none⟩, ⟨(some 25), none, (.ixA 2), [(.t 23), (.t 24)], none⟩, ⟨(some 26), none, (.ldA 2), [(.t 25)], (some [5, 6, 7, 8])⟩, ⟨(some 13), none, (.alloc 92 [(.lit (.int .i64 0)), (.lit (.int .i64 0))]), [], (some [])⟩, ⟨(some 14), none, (.alloc 92 [(.lit (.int .i64 0)), (.lit (.int .i64 0))]), [], (some [])⟩, ⟨none, none, (.st 2), [(.t 13), (.t 21)], (some [10])⟩, ⟨none, none, (.st 2), [(.t 14), (.t 26)], none⟩]) c_theorboref06_apart_p23)
set_option maxRecDepth 100000 in
def c_theorboref06_apart : VC :=
  (.seq (.ops 3 [⟨(some 6), none, (.box 25), [(.t 0)], none⟩, ⟨(some 7), none, (.box 47), [(.t 1)], none⟩, ⟨(some 12), none, .mv, [(.c (.lit (.bool false)))], none⟩]) c_theorboref06_apart_p24)
set_option maxRecDepth 100000 in
theorem k_theorboref06_apart : Comp Try.prog nobx gtab 116 99 c_theorboref06_apart [(.t 12)] := ⟨⟨Try.f116, _, Try.func116, rfl, rfl, by kernel_rfl, by kernel_rfl⟩⟩
set_option maxRecDepth 100000 in
abbrev c_theorboref06_Fits_p1 : VC :=
  (.seq (.ops 0 [⟨(some 6), none, .mv, [(.c (.lit (.bool false)))], none⟩]) .ret)
set_option maxRecDepth 100000 in
abbrev c_theorboref06_Fits_p2 : VC :=
  (.seq (.ops 0 [⟨(some 6), none, .mv, [(.c (.lit (.bool false)))], none⟩]) .ret)
set_option maxRecDepth 100000 in
abbrev c_theorboref06_Fits_p3 : VC :=
  (.seq (.ops 0 [⟨(some 6), none, .mv, [(.c (.lit (.bool false)))], none⟩]) .ret)
set_option maxRecDepth 100000 in
abbrev c_theorboref06_Fits_p4 : VC :=
  (.ops 0 [⟨(some 54), none, .mv, [(.t 8)], none⟩, ⟨(some 55), none, (.bin .add), [(.t 54), (.c (.lit (.int .i64 1)))], none⟩, ⟨(some 8), none, .mv, [(.t 55)], none⟩])
set_option maxRecDepth 100000 in
abbrev c_theorboref06_Fits_p5 : VC :=
  (.seq (.block 3 (.seq (.ops 0 [⟨(some 56), none, (.ldA 10), [(.t 3)], (some [])⟩, ⟨(some 57), none, (.ldA 3), [(.t 4)], (some [])⟩, ⟨(some 58), none, .mv, [(.t 8)], none⟩, ⟨(some 59), none, .mv, [(.t 7)], none⟩, ⟨(some 60), none, (.fldA 1), [(.t 5)], none⟩, ⟨(some 61), none, .ld1, [(.t 60)], (some [4])⟩, ⟨(some 62), none, .mv, [(.t 8)], none⟩, ⟨(some 63), none, (.ixA 1), [(.t 61), (.t 62)], none⟩, ⟨(some 64), none, .ld1, [(.t 63)], (some [4, 5, 6, 7])⟩, ⟨(some 65), none, (.fldA 1), [(.t 5)], none⟩, ⟨(some 66), none, .ld1, [(.t 65)], (some [9])⟩, ⟨(some 67), none, .mv, [(.t 7)], none⟩, ⟨(some 68), none, (.ixA 1), [(.t 66), (.t 67)], none⟩, ⟨(some 69), none, .ld1, [(.t 68)], (some [9, 10, 11, 12])⟩, ⟨(some 70), none, (.call 116), [(.t 56), (.t 57), (.t 58), (.t 59), (.t 64), (.t 69)], none⟩, ⟨(some 71), none, (.un .not), [(.t 70)], none⟩]) (.cond (.t 71) c_theorboref06_Fits_p3 .skip))) c_theorboref06_Fits_p4)
set_option maxRecDepth 100000 in
abbrev c_theorboref06_Fits_p6 : VC :=
  (.seq (.seq (.ops 0 [⟨(some 51), none, .mv, [(.t 8)], none⟩, ⟨(some 52), none, .mv, [(.t 7)], none⟩, ⟨(some 53), none, (.bin .lss), [(.t 51), (.t 52)], none⟩]) (.cond (.t 53) .skip (.exit 2))) c_theorboref06_Fits_p5)
abbrev w_theorboref06_Fits_p6 : Nat := 4722364231069831528768
set_option maxRecDepth 100000 in
abbrev c_theorboref06_Fits_p8 : VC :=
  (.seq (.ops 0 [⟨(some 8), none, .mv, [(.c (.lit (.int .i64 0)))], none⟩]) (.block 2 (.loop c_theorboref06_Fits_p6)))
set_option maxRecDepth 100000 in
abbrev c_theorboref06_Fits_p9 : VC :=
  (.ops 0 [⟨(some 33), none, .mv, [(.t 7)], none⟩, ⟨(some 34), none, (.bin .add), [(.t 33), (.c (.lit (.int .i64 1)))], none⟩, ⟨(some 7), none, .mv, [(.t 34)], none⟩])
set_option maxRecDepth 100000 in
abbrev c_theorboref06_Fits_p10 : VC :=
  (.seq (.block 1 (.seq (.seq (.ops 0 [⟨(some 35), none, (.ldA 10), [(.t 3)], (some [])⟩, ⟨(some 36), none, (.fldA 0), [(.t 5)], none⟩, ⟨(some 37), none, .ld1, [(.t 36)], (some [1])⟩, ⟨(some 38), none, (.fldA 1), [(.t 5)], none⟩, ⟨(some 39), none, .ld1, [(.t 38)], (some [3])⟩, ⟨(some 40), none, .mv, [(.t 7)], none⟩, ⟨(some 41), none, (.ixA 1), [(.t 39), (.t 40)], none⟩, ⟨(some 42), none, .ld1, [(.t 41)], (some [3, 4, 5, 6])⟩, ⟨(some 43), none, (.fldA 0), [(.t 4)], none⟩, ⟨(some 44), none, .ld1, [(.t 43)], (some [8])⟩, ⟨(some 45), none, .mv, [(.t 7)], none⟩, ⟨(some 46), none, (.ixA 2), [(.t 44), (.t 45)], none⟩, ⟨(some 47), none, (.fldA 1), [(.t 46)], none⟩, ⟨(some 48), none, .ld1, [(.t 47)], (some [8, 9, 10, 11, 12])⟩, ⟨(some 49), none, (.call 115), [(.t 35), (.t 37), (.t 42), (.t 48)], none⟩, ⟨(some 50), none, (.un .not), [(.t 49)], none⟩]) (.cond (.t 50) c_theorboref06_Fits_p2 .skip)) c_theorboref06_Fits_p8)) c_theorboref06_Fits_p9)
set_option maxRecDepth 100000 in
abbrev c_theorboref06_Fits_p11 : VC :=
  (.seq (.seq (.ops 0 [⟨(some 28), none, .mv, [(.t 7)], none⟩, ⟨(some 29), none, (.fldA 0), [(.t 4)], none⟩, ⟨(some 30), none, .ld1, [(.t 29)], none⟩, ⟨(some 31), none, .len, [(.t 30)], none⟩, ⟨(some 32), none, (.bin .lss), [(.t 28), (.t 31)], none⟩]) (.cond (.t 32) .skip (.exit 0))) c_theorboref06_Fits_p10)
abbrev w_theorboref06_Fits_p11 : Nat := 4722366482869376778688
set_option maxRecDepth 100000 in
abbrev c_theorboref06_Fits_p13 : VC :=
  (.seq (.ops 0 [⟨(some 6), none, .mv, [(.c (.lit (.bool true)))], none⟩]) .ret)
set_option maxRecDepth 100000 in
abbrev c_theorboref06_Fits_p14 : VC :=
  (.seq (.seq (.ops 0 [⟨(some 7), none, .mv, [(.c (.lit (.int .i64 0)))], none⟩]) (.block 0 (.loop c_theorboref06_Fits_p11))) c_theorboref06_Fits_p13)
set_option maxRecDepth 100000 in
abbrev c_theorboref06_Fits_p15 : VC :=
  (.seq (.seq (.ops 0 [⟨(some 9), none, (.fldA 0), [(.t 5)], none⟩, ⟨(some 10), none, .ld1, [(.t 9)], none⟩, ⟨(some 11), none, (.bin .lss), [(.t 10), (.c (.lit (.int .i64 1)))], none⟩, ⟨(some 12), none, .mv, [(.t 11)], none⟩, ⟨(some 13), (some (12, false)), (.fldA 0), [(.t 5)], none⟩, ⟨(some 14), (some (12, false)), .ld1, [(.t 13)], none⟩, ⟨(some 15), (some (12, false)), (.fldA 3), [(.t 3)], none⟩, ⟨(some 16), (some (12, false)), .ld1, [(.t 15)], none⟩, ⟨(some 17), (some (12, false)), (.bin .gtr), [(.t 14), (.t 16)], none⟩, ⟨(some 18), none, .pick, [(.t 12), (.c (.lit (.bool true))), (.t 17)], none⟩, ⟨(some 19), none, .mv, [(.t 18)], none⟩, ⟨(some 20), (some (19, false)), (.fldA 1), [(.t 5)], none⟩, ⟨(some 21), (some (19, false)), .ld1, [(.t 20)], none⟩, ⟨(some 22), (some (19, false)), .len, [(.t 21)], none⟩, ⟨(some 23), (some (19, false)), (.fldA 0), [(.t 4)], none⟩, ⟨(some 24), (some (19, false)), .ld1, [(.t 23)], none⟩, ⟨(some 25), (some (19, false)), .len, [(.t 24)], none⟩, ⟨(some 26), (some (19, false)), (.bin .neq), [(.t 22), (.t 25)], none⟩, ⟨(some 27), none, .pick, [(.t 19), (.c (.lit (.bool true))), (.t 26)], none⟩]) (.cond (.t 27) c_theorboref06_Fits_p1 .skip)) c_theorboref06_Fits_p14)
set_option maxRecDepth 100000 in
def c_theorboref06_Fits : VC :=
  (.seq (.ops 4 [⟨(some 3), none, (.box 25), [(.t 0)], none⟩, ⟨(some 4), none, (.box 47), [(.t 1)], none⟩, ⟨(some 5), none, (.box 53), [(.t 2)], none⟩, ⟨(some 6), none, .mv, [(.c (.lit (.bool false)))], none⟩]) c_theorboref06_Fits_p15)
set_option maxRecDepth 100000 in
theorem k_theorboref06_Fits : Comp Try.prog nobx gtab 80 72 c_theorboref06_Fits [(.t 6)] := ⟨⟨Try.f80, _, Try.func80, rfl, rfl, by kernel_rfl, by kernel_rfl⟩⟩
end Go.Proofs.Ytojjdkoglhecbaa
