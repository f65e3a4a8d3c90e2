/- Functions of the program, as code on values by numbers: printed by a program from the program that was given, and held against it here. -/
import Derived.Test.YtbdhjpdjbogggaaDoorG0
namespace Go.Proofs.YtbdhjpdjbogggaaDoor
open Go.RowKit

set_option maxRecDepth 100000 in
abbrev c_instrument_Check_1 : VC :=
  (.seq (.ops 0 [⟨(some 2), none, .mv, [(.c (.lit (.int .i64 2)))], none⟩]) .ret)
set_option maxRecDepth 100000 in
abbrev c_instrument_Check_2 : VC :=
  (.seq (.ops 0 [⟨(some 2), none, .mv, [(.c (.lit (.int .i64 11)))], none⟩]) .ret)
set_option maxRecDepth 100000 in
abbrev c_instrument_Check_3 : VC :=
  (.seq (.ops 0 [⟨(some 2), none, .mv, [(.c (.lit (.int .i64 11)))], none⟩]) .ret)
set_option maxRecDepth 100000 in
abbrev c_instrument_Check_4 : VC :=
  (.ops 0 [⟨(some 36), none, .mv, [(.t 5)], none⟩, ⟨(some 3), none, .mv, [(.t 36)], none⟩])
set_option maxRecDepth 100000 in
abbrev c_instrument_Check_5 : VC :=
  (.seq (.seq (.ops 0 [⟨(some 29), none, .mv, [(.t 5)], none⟩, ⟨(some 30), none, .mv, [(.t 3)], none⟩, ⟨(some 31), none, (.bin .leq), [(.t 29), (.t 30)], none⟩, ⟨(some 32), none, .mv, [(.t 31)], none⟩, ⟨(some 33), (some (32, false)), .mv, [(.t 5)], none⟩, ⟨(some 34), (some (32, false)), (.bin .gtr), [(.t 33), (.c (.lit (.int .i64 127)))], none⟩, ⟨(some 35), none, .pick, [(.t 32), (.c (.lit (.bool true))), (.t 34)], none⟩]) (.cond (.t 35) c_instrument_Check_3 .skip)) c_instrument_Check_4)
set_option maxRecDepth 100000 in
abbrev c_instrument_Check_6 : VC :=
  (.ops 0 [⟨(some 37), none, (.bin .add), [(.t 25), (.c (.lit (.int .i64 1)))], none⟩, ⟨(some 25), none, .mv, [(.t 37)], none⟩])
set_option maxRecDepth 100000 in
abbrev c_instrument_Check_7 : VC :=
  (.seq (.block 1 (.seq (.ops 0 [⟨(some 27), none, (.ixA 1), [(.t 23), (.t 25)], none⟩, ⟨(some 28), none, .ld1, [(.t 27)], none⟩, ⟨(some 5), none, .mv, [(.t 28)], none⟩]) c_instrument_Check_5)) c_instrument_Check_6)
set_option maxRecDepth 100000 in
abbrev c_instrument_Check_8 : VC :=
  (.seq (.ops 0 [⟨(some 26), none, (.bin .lss), [(.t 25), (.t 24)], none⟩]) (.seq (.cond (.t 26) .skip (.exit 0)) c_instrument_Check_7))
set_option maxRecDepth 100000 in
abbrev c_instrument_Check_9 : VC :=
  (.seq (.ops 0 [⟨(some 2), none, .mv, [(.c (.lit (.int .i64 13)))], none⟩]) .ret)
set_option maxRecDepth 100000 in
abbrev c_instrument_Check_10 : VC :=
  (.seq (.ops 0 [⟨(some 2), none, .mv, [(.c (.lit (.int .i64 10)))], none⟩]) .ret)
set_option maxRecDepth 100000 in
abbrev c_instrument_Check_11 : VC :=
  (.seq (.ops 0 [⟨(some 56), none, (.fldA 0), [(.t 7)], none⟩, ⟨(some 57), none, .ld1, [(.t 56)], none⟩, ⟨(some 58), none, (.bin .lss), [(.t 57), (.c (.lit (.int .i64 0)))], none⟩, ⟨(some 59), none, .mv, [(.t 58)], none⟩, ⟨(some 60), (some (59, false)), (.fldA 0), [(.t 7)], none⟩, ⟨(some 61), (some (59, false)), .ld1, [(.t 60)], none⟩, ⟨(some 62), (some (59, false)), (.bin .gtr), [(.t 61), (.c (.lit (.int .i64 127)))], none⟩, ⟨(some 63), none, .pick, [(.t 59), (.c (.lit (.bool true))), (.t 62)], none⟩, ⟨(some 64), none, .mv, [(.t 63)], none⟩, ⟨(some 65), (some (64, false)), (.ldA 2), [(.t 1)], none⟩, ⟨(some 66), (some (64, false)), (.ldA 3), [(.t 7)], none⟩, ⟨(some 67), (some (64, false)), (.call 69), [(.t 65), (.t 66)], none⟩, ⟨(some 68), (some (64, false)), (.bin .gtr), [(.t 67), (.c (.lit (.int .i64 127)))], none⟩, ⟨(some 69), none, .pick, [(.t 64), (.c (.lit (.bool true))), (.t 68)], none⟩]) (.cond (.t 69) c_instrument_Check_10 .skip))
set_option maxRecDepth 100000 in
abbrev c_instrument_Check_12 : VC :=
  (.seq (.seq (.ops 0 [⟨(some 45), none, (.fldA 1), [(.t 7)], none⟩, ⟨(some 46), none, .ld1, [(.t 45)], none⟩, ⟨(some 47), none, (.bin .lss), [(.t 46), (.c (.lit (.int .i64 0)))], none⟩, ⟨(some 48), none, .mv, [(.t 47)], none⟩, ⟨(some 49), (some (48, false)), (.fldA 1), [(.t 7)], none⟩, ⟨(some 50), (some (48, false)), .ld1, [(.t 49)], none⟩, ⟨(some 51), (some (48, false)), (.fldA 1), [(.t 1)], none⟩, ⟨(some 52), (some (48, false)), .ld1, [(.t 51)], none⟩, ⟨(some 53), (some (48, false)), .len, [(.t 52)], none⟩, ⟨(some 54), (some (48, false)), (.bin .gtr), [(.t 50), (.t 53)], none⟩, ⟨(some 55), none, .pick, [(.t 48), (.c (.lit (.bool true))), (.t 54)], none⟩]) (.cond (.t 55) c_instrument_Check_9 .skip)) c_instrument_Check_11)
set_option maxRecDepth 100000 in
abbrev c_instrument_Check_13 : VC :=
  (.ops 0 [⟨(some 70), none, (.bin .add), [(.t 41), (.c (.lit (.int .i64 1)))], none⟩, ⟨(some 41), none, .mv, [(.t 70)], none⟩])
set_option maxRecDepth 100000 in
abbrev c_instrument_Check_14 : VC :=
  (.seq (.block 3 (.seq (.ops 4 [⟨(some 43), none, (.ixA 3), [(.t 39), (.t 41)], none⟩, ⟨(some 44), none, (.ldA 3), [(.t 43)], none⟩, ⟨(some 7), none, (.alloc 59 [(.lit (.int .i64 0)), (.lit (.int .i64 0)), (.lit (.bool false))]), [], none⟩, ⟨none, none, (.st 3), [(.t 7), (.t 44)], none⟩]) c_instrument_Check_12)) c_instrument_Check_13)
set_option maxRecDepth 100000 in
abbrev c_instrument_Check_15 : VC :=
  (.seq (.cond (.t 42) .skip (.exit 2)) c_instrument_Check_14)
set_option maxRecDepth 100000 in
abbrev c_instrument_Check_16 : VC :=
  (.seq (.ops 0 [⟨(some 42), none, (.bin .lss), [(.t 41), (.t 40)], none⟩]) c_instrument_Check_15)
set_option maxRecDepth 100000 in
abbrev c_instrument_Check_17 : VC :=
  (.seq (.ops 0 [⟨(some 2), none, .mv, [(.c (.lit (.int .i64 0)))], none⟩]) .ret)
set_option maxRecDepth 100000 in
abbrev c_instrument_Check_18 : VC :=
  (.seq (.seq (.ops 0 [⟨(some 38), none, (.fldA 0), [(.t 1)], none⟩, ⟨(some 39), none, .ld1, [(.t 38)], none⟩, ⟨(some 40), none, .len, [(.t 39)], none⟩, ⟨(some 41), none, .mv, [(.c (.lit (.int .i64 0)))], none⟩]) (.block 2 (.loop c_instrument_Check_16))) c_instrument_Check_17)
set_option maxRecDepth 100000 in
abbrev c_instrument_Check_19 : VC :=
  (.seq (.seq (.ops 0 [⟨(some 22), none, (.fldA 1), [(.t 1)], none⟩, ⟨(some 23), none, .ld1, [(.t 22)], none⟩, ⟨(some 24), none, .len, [(.t 23)], none⟩, ⟨(some 25), none, .mv, [(.c (.lit (.int .i64 0)))], none⟩]) (.block 0 (.loop c_instrument_Check_8))) c_instrument_Check_18)
set_option maxRecDepth 100000 in
abbrev c_instrument_Check_20 : VC :=
  (.seq (.ops 0 [⟨(some 3), none, .mv, [(.c (.lit (.int .i64 0)))], none⟩]) c_instrument_Check_19)
set_option maxRecDepth 100000 in
abbrev c_instrument_Check_21 : VC :=
  (.seq (.seq (.ops 0 [⟨(some 18), none, (.fldA 0), [(.t 1)], none⟩, ⟨(some 19), none, .ld1, [(.t 18)], none⟩, ⟨(some 20), none, .len, [(.t 19)], none⟩, ⟨(some 21), none, (.bin .eql), [(.t 20), (.c (.lit (.int .i64 0)))], none⟩]) (.cond (.t 21) c_instrument_Check_2 .skip)) c_instrument_Check_20)
set_option maxRecDepth 100000 in
abbrev c_instrument_Check_22 : VC :=
  (.seq (.seq (.ops 0 [⟨(some 8), none, (.fldA 0), [(.t 1)], none⟩, ⟨(some 9), none, .ld1, [(.t 8)], none⟩, ⟨(some 10), none, .len, [(.t 9)], none⟩, ⟨(some 11), none, (.bin .gtr), [(.t 10), (.c (.lit (.int .i64 14)))], none⟩, ⟨(some 12), none, .mv, [(.t 11)], none⟩, ⟨(some 13), (some (12, false)), (.fldA 1), [(.t 1)], none⟩, ⟨(some 14), (some (12, false)), .ld1, [(.t 13)], none⟩, ⟨(some 15), (some (12, false)), .len, [(.t 14)], none⟩, ⟨(some 16), (some (12, false)), (.bin .gtr), [(.t 15), (.c (.lit (.int .i64 18)))], none⟩, ⟨(some 17), none, .pick, [(.t 12), (.c (.lit (.bool true))), (.t 16)], none⟩]) (.cond (.t 17) c_instrument_Check_1 .skip)) c_instrument_Check_21)
set_option maxRecDepth 100000 in
def c_instrument_Check : VC :=
  (.seq (.ops 2 [⟨(some 1), none, (.box 39), [(.t 0)], none⟩, ⟨(some 2), none, .mv, [(.c (.lit (.int .i64 0)))], none⟩]) c_instrument_Check_22)
set_option maxRecDepth 100000 in
theorem k_instrument_Check : Comp Tryd.prog nobx gtab 30 71 c_instrument_Check [(.t 2)] := ⟨⟨Tryd.f30, _, Tryd.func30, rfl, rfl, by kernel_rfl, by kernel_rfl⟩⟩
set_option maxRecDepth 100000 in
abbrev c_instrument_Reentrant_1 : VC :=
  (.seq (.ops 0 [⟨(some 11), none, .mv, [(.t 4)], none⟩, ⟨(some 2), none, .mv, [(.c (.sl 0 [] .exact))], none⟩, ⟨(some 3), none, .mv, [(.t 11)], none⟩]) .ret)
set_option maxRecDepth 100000 in
abbrev c_instrument_Reentrant_2 : VC :=
  (.seq (.ops 0 [⟨(some 9), none, .mv, [(.t 4)], none⟩, ⟨(some 10), none, (.bin .neq), [(.t 9), (.c (.lit (.int .i64 0)))], none⟩]) (.cond (.t 10) c_instrument_Reentrant_1 .skip))
set_option maxRecDepth 100000 in
abbrev c_instrument_Reentrant_3 : VC :=
  (.ops 6 [⟨(some 33), none, .mv, [(.t 5)], none⟩, ⟨(some 34), none, .mv, [(.t 6)], none⟩, ⟨(some 35), none, (.bin .add), [(.t 34), (.c (.lit (.int .i64 1)))], none⟩, ⟨(some 36), none, (.mksl 1 1 [(.lit (.int .i64 0))] [(0, 1)]), [(.t 35)], none⟩, ⟨(some 37), none, (.app 3 1 8), [(.t 33), (.t 36)], none⟩, ⟨(some 5), none, .mv, [(.t 37)], none⟩])
set_option maxRecDepth 100000 in
abbrev c_instrument_Reentrant_4 : VC :=
  (.ops 0 [⟨(some 17), none, .mv, [(.t 6)], none⟩, ⟨(some 18), none, (.bin .add), [(.t 17), (.c (.lit (.int .i64 1)))], none⟩, ⟨(some 6), none, .mv, [(.t 18)], none⟩])
set_option maxRecDepth 100000 in
abbrev c_instrument_Reentrant_5 : VC :=
  (.seq (.block 1 (.seq (.ops 0 [⟨(some 19), none, (.fldA 0), [(.t 1)], none⟩, ⟨(some 20), none, .ld1, [(.t 19)], (some [0])⟩, ⟨(some 21), none, .mv, [(.t 6)], none⟩, ⟨(some 22), none, (.ixA 3), [(.t 20), (.t 21)], none⟩, ⟨(some 23), none, (.fldA 0), [(.t 22)], none⟩, ⟨(some 24), none, .ld1, [(.t 23)], (some [0, 1, 2, 3, 4])⟩, ⟨(some 25), none, (.fldA 0), [(.t 1)], none⟩, ⟨(some 26), none, .ld1, [(.t 25)], (some [6])⟩, ⟨(some 27), none, .mv, [(.t 6)], none⟩, ⟨(some 28), none, (.bin .sub), [(.t 27), (.c (.lit (.int .i64 1)))], none⟩, ⟨(some 29), none, (.ixA 3), [(.t 26), (.t 28)], none⟩, ⟨(some 30), none, (.fldA 0), [(.t 29)], none⟩, ⟨(some 31), none, .ld1, [(.t 30)], (some [6, 7, 8, 9, 10, 11])⟩, ⟨(some 32), none, (.bin .gtr), [(.t 24), (.t 31)], none⟩]) (.cond (.t 32) c_instrument_Reentrant_3 .skip))) c_instrument_Reentrant_4)
set_option maxRecDepth 100000 in
abbrev c_instrument_Reentrant_6 : VC :=
  (.seq (.seq (.ops 0 [⟨(some 12), none, .mv, [(.t 6)], none⟩, ⟨(some 13), none, (.fldA 0), [(.t 1)], none⟩, ⟨(some 14), none, .ld1, [(.t 13)], none⟩, ⟨(some 15), none, .len, [(.t 14)], none⟩, ⟨(some 16), none, (.bin .lss), [(.t 12), (.t 15)], none⟩]) (.cond (.t 16) .skip (.exit 0))) c_instrument_Reentrant_5)
set_option maxRecDepth 100000 in
abbrev c_instrument_Reentrant_7 : VC :=
  (.seq (.ops 0 [⟨(some 38), none, .mv, [(.t 5)], none⟩, ⟨(some 2), none, .mv, [(.t 38)], none⟩, ⟨(some 3), none, .mv, [(.c (.lit (.int .i64 0)))], none⟩]) .ret)
set_option maxRecDepth 100000 in
abbrev c_instrument_Reentrant_8 : VC :=
  (.seq (.seq (.ops 0 [⟨(some 6), none, .mv, [(.c (.lit (.int .i64 1)))], none⟩]) (.block 0 (.loop c_instrument_Reentrant_6))) c_instrument_Reentrant_7)
set_option maxRecDepth 100000 in
abbrev c_instrument_Reentrant_9 : VC :=
  (.seq (.ops 0 [⟨(some 5), none, .mv, [(.c (.sl 0 [] .exact))], none⟩]) c_instrument_Reentrant_8)
set_option maxRecDepth 100000 in
abbrev c_instrument_Reentrant_10 : VC :=
  (.seq (.seq (.ops 0 [⟨(some 7), none, (.ldA 2), [(.t 1)], none⟩, ⟨(some 8), none, (.call 30), [(.t 7)], none⟩, ⟨(some 4), none, .mv, [(.t 8)], none⟩]) c_instrument_Reentrant_2) c_instrument_Reentrant_9)
set_option maxRecDepth 100000 in
def c_instrument_Reentrant : VC :=
  (.seq (.ops 3 [⟨(some 1), none, (.box 39), [(.t 0)], none⟩, ⟨(some 2), none, .mv, [(.c (.sl 0 [] .exact))], none⟩, ⟨(some 3), none, .mv, [(.c (.lit (.int .i64 0)))], none⟩]) c_instrument_Reentrant_10)
set_option maxRecDepth 100000 in
theorem k_instrument_Reentrant : Comp Tryd.prog nobx gtab 54 39 c_instrument_Reentrant [(.t 2), (.t 3)] := ⟨⟨Tryd.f54, _, Tryd.func54, rfl, rfl, by kernel_rfl, by kernel_rfl⟩⟩
set_option maxRecDepth 100000 in
abbrev c_theorboref01_Reentrant_1 : VC :=
  (.seq (.ops 0 [⟨(some 11), none, .mv, [(.t 4)], none⟩, ⟨(some 2), none, .mv, [(.c (.sl 0 [] .exact))], none⟩, ⟨(some 3), none, .mv, [(.t 11)], none⟩]) .ret)
set_option maxRecDepth 100000 in
abbrev c_theorboref01_Reentrant_2 : VC :=
  (.ops 5 [⟨(some 34), none, .mv, [(.t 5)], none⟩, ⟨(some 35), none, .mv, [(.t 6)], none⟩, ⟨(some 36), none, (.mksl 1 1 [(.lit (.int .i64 0))] [(0, 1)]), [(.t 35)], none⟩, ⟨(some 37), none, (.app 3 1 8), [(.t 34), (.t 36)], none⟩, ⟨(some 5), none, .mv, [(.t 37)], none⟩])
set_option maxRecDepth 100000 in
abbrev c_theorboref01_Reentrant_3 : VC :=
  (.ops 0 [⟨(some 17), none, .mv, [(.t 6)], none⟩, ⟨(some 18), none, (.bin .add), [(.t 17), (.c (.lit (.int .i64 1)))], none⟩, ⟨(some 6), none, .mv, [(.t 18)], none⟩])
set_option maxRecDepth 100000 in
abbrev c_theorboref01_Reentrant_4 : VC :=
  (.seq (.block 1 (.seq (.ops 0 [⟨(some 19), none, (.fldA 0), [(.t 1)], none⟩, ⟨(some 20), none, .ld1, [(.t 19)], (some [0])⟩, ⟨(some 21), none, .mv, [(.t 6)], none⟩, ⟨(some 22), none, (.bin .sub), [(.t 21), (.c (.lit (.int .i64 1)))], none⟩, ⟨(some 23), none, (.ixA 3), [(.t 20), (.t 22)], none⟩, ⟨(some 24), none, (.fldA 0), [(.t 23)], none⟩, ⟨(some 25), none, .ld1, [(.t 24)], (some [0, 1, 2, 3, 4, 5])⟩, ⟨(some 26), none, (.fldA 0), [(.t 1)], none⟩, ⟨(some 27), none, .ld1, [(.t 26)], (some [7])⟩, ⟨(some 28), none, .mv, [(.t 6)], none⟩, ⟨(some 29), none, (.bin .sub), [(.t 28), (.c (.lit (.int .i64 2)))], none⟩, ⟨(some 30), none, (.ixA 3), [(.t 27), (.t 29)], none⟩, ⟨(some 31), none, (.fldA 0), [(.t 30)], none⟩, ⟨(some 32), none, .ld1, [(.t 31)], (some [7, 8, 9, 10, 11, 12])⟩, ⟨(some 33), none, (.bin .gtr), [(.t 25), (.t 32)], none⟩]) (.cond (.t 33) c_theorboref01_Reentrant_2 .skip))) c_theorboref01_Reentrant_3)
set_option maxRecDepth 100000 in
abbrev c_theorboref01_Reentrant_5 : VC :=
  (.seq (.seq (.ops 0 [⟨(some 12), none, .mv, [(.t 6)], none⟩, ⟨(some 13), none, (.fldA 0), [(.t 1)], none⟩, ⟨(some 14), none, .ld1, [(.t 13)], none⟩, ⟨(some 15), none, .len, [(.t 14)], none⟩, ⟨(some 16), none, (.bin .leq), [(.t 12), (.t 15)], none⟩]) (.cond (.t 16) .skip (.exit 0))) c_theorboref01_Reentrant_4)
set_option maxRecDepth 100000 in
abbrev c_theorboref01_Reentrant_6 : VC :=
  (.seq (.ops 0 [⟨(some 38), none, .mv, [(.t 5)], none⟩, ⟨(some 2), none, .mv, [(.t 38)], none⟩, ⟨(some 3), none, .mv, [(.c (.lit (.int .i64 0)))], none⟩]) .ret)
set_option maxRecDepth 100000 in
abbrev c_theorboref01_Reentrant_7 : VC :=
  (.seq (.seq (.ops 0 [⟨(some 6), none, .mv, [(.c (.lit (.int .i64 2)))], none⟩]) (.block 0 (.loop c_theorboref01_Reentrant_5))) c_theorboref01_Reentrant_6)
set_option maxRecDepth 100000 in
abbrev c_theorboref01_Reentrant_8 : VC :=
  (.seq (.ops 0 [⟨(some 5), none, .mv, [(.c (.sl 0 [] .exact))], none⟩]) c_theorboref01_Reentrant_7)
set_option maxRecDepth 100000 in
abbrev c_theorboref01_Reentrant_9 : VC :=
  (.seq (.seq (.ops 0 [⟨(some 9), none, .mv, [(.t 4)], none⟩, ⟨(some 10), none, (.bin .neq), [(.t 9), (.c (.lit (.int .i64 0)))], none⟩]) (.cond (.t 10) c_theorboref01_Reentrant_1 .skip)) c_theorboref01_Reentrant_8)
set_option maxRecDepth 100000 in
abbrev c_theorboref01_Reentrant_10 : VC :=
  (.seq (.ops 0 [⟨(some 7), none, (.ldA 2), [(.t 1)], none⟩, ⟨(some 8), none, (.call 31), [(.t 7)], none⟩, ⟨(some 4), none, .mv, [(.t 8)], none⟩]) c_theorboref01_Reentrant_9)
set_option maxRecDepth 100000 in
def c_theorboref01_Reentrant : VC :=
  (.seq (.ops 3 [⟨(some 1), none, (.box 39), [(.t 0)], none⟩, ⟨(some 2), none, .mv, [(.c (.sl 0 [] .exact))], none⟩, ⟨(some 3), none, .mv, [(.c (.lit (.int .i64 0)))], none⟩]) c_theorboref01_Reentrant_10)
set_option maxRecDepth 100000 in
theorem k_theorboref01_Reentrant : Comp Tryd.prog nobx gtab 55 39 c_theorboref01_Reentrant [(.t 2), (.t 3)] := ⟨⟨Tryd.f55, _, Tryd.func55, rfl, rfl, by kernel_rfl, by kernel_rfl⟩⟩
set_option maxRecDepth 100000 in
abbrev c_theorboref01_Copy_1 : VC :=
  (.seq (.ops 10 [⟨(some 3), none, (.mksl 0 3 [] []), [], none⟩, ⟨(some 4), none, (.fldA 0), [(.t 1)], none⟩, ⟨(some 5), none, .ld1, [(.t 4)], (some [1])⟩, ⟨(some 6), none, (.app 59 3 24), [(.t 3), (.t 5)], (some [0, 1, 2])⟩, ⟨(some 7), none, (.mksl 0 1 [] []), [], none⟩, ⟨(some 8), none, (.fldA 1), [(.t 1)], none⟩, ⟨(some 9), none, .ld1, [(.t 8)], (some [5])⟩, ⟨(some 10), none, (.app 3 1 8), [(.t 7), (.t 9)], none⟩, ⟨(some 11), none, (.build [(.sl 0 [] .exact), (.sl 0 [] .exact)] [(0, 1), (1, 1)]), [(.t 6), (.t 10)], none⟩, ⟨none, none, (.st 2), [(.t 2), (.t 11)], none⟩]) .ret)
set_option maxRecDepth 100000 in
def c_theorboref01_Copy : VC :=
  (.seq (.ops 2 [⟨(some 1), none, (.box 39), [(.t 0)], none⟩, ⟨(some 2), none, (.alloc 39 [(.sl 0 [] .exact), (.sl 0 [] .exact)]), [], none⟩]) c_theorboref01_Copy_1)
set_option maxRecDepth 100000 in
theorem k_theorboref01_Copy : Comp Tryd.prog nobx gtab 28 12 c_theorboref01_Copy [(.c 2 2 true)] := ⟨⟨Tryd.f28, _, Tryd.func28, rfl, rfl, by kernel_rfl, by kernel_rfl⟩⟩
set_option maxRecDepth 100000 in
abbrev c_theorboref01_Check_1 : VC :=
  (.seq (.ops 0 [⟨(some 2), none, .mv, [(.c (.lit (.int .i64 2)))], none⟩]) .ret)
set_option maxRecDepth 100000 in
abbrev c_theorboref01_Check_2 : VC :=
  (.seq (.ops 0 [⟨(some 2), none, .mv, [(.c (.lit (.int .i64 11)))], none⟩]) .ret)
set_option maxRecDepth 100000 in
abbrev c_theorboref01_Check_3 : VC :=
  (.seq (.ops 0 [⟨(some 2), none, .mv, [(.c (.lit (.int .i64 11)))], none⟩]) .ret)
set_option maxRecDepth 100000 in
abbrev c_theorboref01_Check_4 : VC :=
  (.ops 0 [⟨(some 44), none, (.fldA 1), [(.t 1)], none⟩, ⟨(some 45), none, .ld1, [(.t 44)], none⟩, ⟨(some 46), none, .mv, [(.t 4)], none⟩, ⟨(some 47), none, (.ixA 1), [(.t 45), (.t 46)], none⟩, ⟨(some 48), none, .ld1, [(.t 47)], none⟩, ⟨(some 3), none, .mv, [(.t 48)], none⟩])
set_option maxRecDepth 100000 in
abbrev c_theorboref01_Check_5 : VC :=
  (.ops 0 [⟨(some 27), none, .mv, [(.t 4)], none⟩, ⟨(some 28), none, (.bin .add), [(.t 27), (.c (.lit (.int .i64 1)))], none⟩, ⟨(some 4), none, .mv, [(.t 28)], none⟩])
set_option maxRecDepth 100000 in
abbrev c_theorboref01_Check_6 : VC :=
  (.seq (.block 1 (.seq (.seq (.ops 0 [⟨(some 29), none, (.fldA 1), [(.t 1)], none⟩, ⟨(some 30), none, .ld1, [(.t 29)], none⟩, ⟨(some 31), none, .mv, [(.t 4)], none⟩, ⟨(some 32), none, (.ixA 1), [(.t 30), (.t 31)], none⟩, ⟨(some 33), none, .ld1, [(.t 32)], none⟩, ⟨(some 34), none, .mv, [(.t 3)], none⟩, ⟨(some 35), none, (.bin .leq), [(.t 33), (.t 34)], none⟩, ⟨(some 36), none, .mv, [(.t 35)], none⟩, ⟨(some 37), (some (36, false)), (.fldA 1), [(.t 1)], none⟩, ⟨(some 38), (some (36, false)), .ld1, [(.t 37)], none⟩, ⟨(some 39), (some (36, false)), .mv, [(.t 4)], none⟩, ⟨(some 40), (some (36, false)), (.ixA 1), [(.t 38), (.t 39)], none⟩, ⟨(some 41), (some (36, false)), .ld1, [(.t 40)], none⟩, ⟨(some 42), (some (36, false)), (.bin .gtr), [(.t 41), (.c (.lit (.int .i64 127)))], none⟩, ⟨(some 43), none, .pick, [(.t 36), (.c (.lit (.bool true))), (.t 42)], none⟩]) (.cond (.t 43) c_theorboref01_Check_3 .skip)) c_theorboref01_Check_4)) c_theorboref01_Check_5)
set_option maxRecDepth 100000 in
abbrev c_theorboref01_Check_7 : VC :=
  (.seq (.seq (.ops 0 [⟨(some 22), none, .mv, [(.t 4)], none⟩, ⟨(some 23), none, (.fldA 1), [(.t 1)], none⟩, ⟨(some 24), none, .ld1, [(.t 23)], none⟩, ⟨(some 25), none, .len, [(.t 24)], none⟩, ⟨(some 26), none, (.bin .lss), [(.t 22), (.t 25)], none⟩]) (.cond (.t 26) .skip (.exit 0))) c_theorboref01_Check_6)
set_option maxRecDepth 100000 in
abbrev c_theorboref01_Check_8 : VC :=
  (.seq (.ops 0 [⟨(some 2), none, .mv, [(.c (.lit (.int .i64 13)))], none⟩]) .ret)
set_option maxRecDepth 100000 in
abbrev c_theorboref01_Check_9 : VC :=
  (.seq (.ops 0 [⟨(some 2), none, .mv, [(.c (.lit (.int .i64 10)))], none⟩]) .ret)
set_option maxRecDepth 100000 in
abbrev c_theorboref01_Check_10 : VC :=
  (.ops 0 [⟨(some 85), none, .mv, [(.t 7)], none⟩, ⟨(some 86), none, (.fldA 1), [(.t 1)], none⟩, ⟨(some 87), none, .ld1, [(.t 86)], none⟩, ⟨(some 88), none, (.fldA 1), [(.t 6)], none⟩, ⟨(some 89), none, .ld1, [(.t 88)], none⟩, ⟨(some 90), none, (.bin .sub), [(.t 89), (.c (.lit (.int .i64 1)))], none⟩, ⟨(some 91), none, (.ixA 1), [(.t 87), (.t 90)], none⟩, ⟨(some 92), none, .ld1, [(.t 91)], none⟩, ⟨(some 93), none, (.bin .add), [(.t 85), (.t 92)], none⟩, ⟨(some 7), none, .mv, [(.t 93)], none⟩])
set_option maxRecDepth 100000 in
abbrev c_theorboref01_Check_11 : VC :=
  (.ops 0 [⟨(some 96), none, .mv, [(.t 7)], none⟩, ⟨(some 97), none, (.bin .add), [(.t 96), (.c (.lit (.int .i64 12)))], none⟩, ⟨(some 7), none, .mv, [(.t 97)], none⟩])
set_option maxRecDepth 100000 in
abbrev c_theorboref01_Check_12 : VC :=
  (.seq (.ops 0 [⟨(some 2), none, .mv, [(.c (.lit (.int .i64 10)))], none⟩]) .ret)
set_option maxRecDepth 100000 in
abbrev c_theorboref01_Check_13 : VC :=
  (.seq (.ops 0 [⟨(some 98), none, .mv, [(.t 7)], none⟩, ⟨(some 99), none, (.bin .gtr), [(.t 98), (.c (.lit (.int .i64 127)))], none⟩]) (.cond (.t 99) c_theorboref01_Check_12 .skip))
set_option maxRecDepth 100000 in
abbrev c_theorboref01_Check_14 : VC :=
  (.seq (.seq (.ops 0 [⟨(some 94), none, (.fldA 2), [(.t 6)], none⟩, ⟨(some 95), none, .ld1, [(.t 94)], none⟩]) (.cond (.t 95) c_theorboref01_Check_11 .skip)) c_theorboref01_Check_13)
set_option maxRecDepth 100000 in
abbrev c_theorboref01_Check_15 : VC :=
  (.seq (.seq (.ops 0 [⟨(some 82), none, (.fldA 1), [(.t 6)], none⟩, ⟨(some 83), none, .ld1, [(.t 82)], none⟩, ⟨(some 84), none, (.bin .gtr), [(.t 83), (.c (.lit (.int .i64 0)))], none⟩]) (.cond (.t 84) c_theorboref01_Check_10 .skip)) c_theorboref01_Check_14)
set_option maxRecDepth 100000 in
abbrev c_theorboref01_Check_16 : VC :=
  (.seq (.ops 0 [⟨(some 80), none, (.fldA 0), [(.t 6)], none⟩, ⟨(some 81), none, .ld1, [(.t 80)], none⟩, ⟨(some 7), none, .mv, [(.t 81)], none⟩]) c_theorboref01_Check_15)
set_option maxRecDepth 100000 in
abbrev c_theorboref01_Check_17 : VC :=
  (.seq (.seq (.ops 0 [⟨(some 72), none, (.fldA 0), [(.t 6)], none⟩, ⟨(some 73), none, .ld1, [(.t 72)], none⟩, ⟨(some 74), none, (.bin .lss), [(.t 73), (.c (.lit (.int .i64 0)))], none⟩, ⟨(some 75), none, .mv, [(.t 74)], none⟩, ⟨(some 76), (some (75, false)), (.fldA 0), [(.t 6)], none⟩, ⟨(some 77), (some (75, false)), .ld1, [(.t 76)], none⟩, ⟨(some 78), (some (75, false)), (.bin .gtr), [(.t 77), (.c (.lit (.int .i64 127)))], none⟩, ⟨(some 79), none, .pick, [(.t 75), (.c (.lit (.bool true))), (.t 78)], none⟩]) (.cond (.t 79) c_theorboref01_Check_9 .skip)) c_theorboref01_Check_16)
set_option maxRecDepth 100000 in
abbrev c_theorboref01_Check_18 : VC :=
  (.seq (.seq (.ops 0 [⟨(some 61), none, (.fldA 1), [(.t 6)], none⟩, ⟨(some 62), none, .ld1, [(.t 61)], none⟩, ⟨(some 63), none, (.bin .lss), [(.t 62), (.c (.lit (.int .i64 0)))], none⟩, ⟨(some 64), none, .mv, [(.t 63)], none⟩, ⟨(some 65), (some (64, false)), (.fldA 1), [(.t 6)], none⟩, ⟨(some 66), (some (64, false)), .ld1, [(.t 65)], none⟩, ⟨(some 67), (some (64, false)), (.fldA 1), [(.t 1)], none⟩, ⟨(some 68), (some (64, false)), .ld1, [(.t 67)], none⟩, ⟨(some 69), (some (64, false)), .len, [(.t 68)], none⟩, ⟨(some 70), (some (64, false)), (.bin .gtr), [(.t 66), (.t 69)], none⟩, ⟨(some 71), none, .pick, [(.t 64), (.c (.lit (.bool true))), (.t 70)], none⟩]) (.cond (.t 71) c_theorboref01_Check_8 .skip)) c_theorboref01_Check_17)
set_option maxRecDepth 100000 in
abbrev c_theorboref01_Check_19 : VC :=
  (.ops 0 [⟨(some 54), none, .mv, [(.t 5)], none⟩, ⟨(some 55), none, (.bin .add), [(.t 54), (.c (.lit (.int .i64 1)))], none⟩, ⟨(some 5), none, .mv, [(.t 55)], none⟩])
set_option maxRecDepth 100000 in
abbrev c_theorboref01_Check_20 : VC :=
  (.seq (.block 3 (.seq (.ops 7 [⟨(some 56), none, (.fldA 0), [(.t 1)], none⟩, ⟨(some 57), none, .ld1, [(.t 56)], none⟩, ⟨(some 58), none, .mv, [(.t 5)], none⟩, ⟨(some 59), none, (.ixA 3), [(.t 57), (.t 58)], none⟩, ⟨(some 60), none, (.ldA 3), [(.t 59)], none⟩, ⟨(some 6), none, (.alloc 59 [(.lit (.int .i64 0)), (.lit (.int .i64 0)), (.lit (.bool false))]), [], none⟩, ⟨none, none, (.st 3), [(.t 6), (.t 60)], none⟩]) c_theorboref01_Check_18)) c_theorboref01_Check_19)
set_option maxRecDepth 100000 in
abbrev c_theorboref01_Check_21 : VC :=
  (.seq (.seq (.ops 0 [⟨(some 49), none, .mv, [(.t 5)], none⟩, ⟨(some 50), none, (.fldA 0), [(.t 1)], none⟩, ⟨(some 51), none, .ld1, [(.t 50)], none⟩, ⟨(some 52), none, .len, [(.t 51)], none⟩, ⟨(some 53), none, (.bin .lss), [(.t 49), (.t 52)], none⟩]) (.cond (.t 53) .skip (.exit 2))) c_theorboref01_Check_20)
set_option maxRecDepth 100000 in
abbrev c_theorboref01_Check_22 : VC :=
  (.seq (.ops 0 [⟨(some 2), none, .mv, [(.c (.lit (.int .i64 0)))], none⟩]) .ret)
set_option maxRecDepth 100000 in
abbrev c_theorboref01_Check_23 : VC :=
  (.seq (.seq (.ops 0 [⟨(some 5), none, .mv, [(.c (.lit (.int .i64 0)))], none⟩]) (.block 2 (.loop c_theorboref01_Check_21))) c_theorboref01_Check_22)
set_option maxRecDepth 100000 in
abbrev c_theorboref01_Check_24 : VC :=
  (.seq (.seq (.ops 0 [⟨(some 4), none, .mv, [(.c (.lit (.int .i64 0)))], none⟩]) (.block 0 (.loop c_theorboref01_Check_7))) c_theorboref01_Check_23)
set_option maxRecDepth 100000 in
abbrev c_theorboref01_Check_25 : VC :=
  (.seq (.ops 0 [⟨(some 3), none, .mv, [(.c (.lit (.int .i64 0)))], none⟩]) c_theorboref01_Check_24)
set_option maxRecDepth 100000 in
abbrev c_theorboref01_Check_26 : VC :=
  (.seq (.seq (.ops 0 [⟨(some 18), none, (.fldA 0), [(.t 1)], none⟩, ⟨(some 19), none, .ld1, [(.t 18)], none⟩, ⟨(some 20), none, .len, [(.t 19)], none⟩, ⟨(some 21), none, (.bin .eql), [(.t 20), (.c (.lit (.int .i64 0)))], none⟩]) (.cond (.t 21) c_theorboref01_Check_2 .skip)) c_theorboref01_Check_25)
set_option maxRecDepth 100000 in
abbrev c_theorboref01_Check_27 : VC :=
  (.seq (.seq (.ops 0 [⟨(some 8), none, (.fldA 0), [(.t 1)], none⟩, ⟨(some 9), none, .ld1, [(.t 8)], none⟩, ⟨(some 10), none, .len, [(.t 9)], none⟩, ⟨(some 11), none, (.bin .gtr), [(.t 10), (.c (.lit (.int .i64 14)))], none⟩, ⟨(some 12), none, .mv, [(.t 11)], none⟩, ⟨(some 13), (some (12, false)), (.fldA 1), [(.t 1)], none⟩, ⟨(some 14), (some (12, false)), .ld1, [(.t 13)], none⟩, ⟨(some 15), (some (12, false)), .len, [(.t 14)], none⟩, ⟨(some 16), (some (12, false)), (.bin .gtr), [(.t 15), (.c (.lit (.int .i64 18)))], none⟩, ⟨(some 17), none, .pick, [(.t 12), (.c (.lit (.bool true))), (.t 16)], none⟩]) (.cond (.t 17) c_theorboref01_Check_1 .skip)) c_theorboref01_Check_26)
set_option maxRecDepth 100000 in
def c_theorboref01_Check : VC :=
  (.seq (.ops 2 [⟨(some 1), none, (.box 39), [(.t 0)], none⟩, ⟨(some 2), none, .mv, [(.c (.lit (.int .i64 0)))], none⟩]) c_theorboref01_Check_27)
set_option maxRecDepth 100000 in
theorem k_theorboref01_Check : Comp Tryd.prog nobx gtab 31 100 c_theorboref01_Check [(.t 2)] := ⟨⟨Tryd.f31, _, Tryd.func31, rfl, rfl, by kernel_rfl, by kernel_rfl⟩⟩
end Go.Proofs.YtbdhjpdjbogggaaDoor
