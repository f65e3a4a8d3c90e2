/- Functions of the program, as code on values by numbers: printed by a program from the program that was given, and held against it here. -/
import Derived.Test.YtbdhjpdjbogggaaDoorG0
namespace Go.Proofs.YtbdhjpdjbogggaaDoor
open Go.RowKit

set_option maxRecDepth 100000 in
abbrev c_theorboref01_Copy_b_1 : VC :=
  (.seq (.ops 10 [⟨(some 3), none, (.mksl 0 3 [] []), [], none⟩, ⟨(some 4), none, (.fldA 0), [(.t 1)], none⟩, ⟨(some 5), none, .ld1, [(.t 4)], (some [1])⟩, ⟨(some 6), none, (.appB 59 3 24), [(.t 3), (.t 5)], (some [0, 1, 2])⟩, ⟨(some 7), none, (.mksl 0 1 [] []), [], none⟩, ⟨(some 8), none, (.fldA 1), [(.t 1)], none⟩, ⟨(some 9), none, .ld1, [(.t 8)], (some [5])⟩, ⟨(some 10), none, (.appB 3 1 8), [(.t 7), (.t 9)], none⟩, ⟨(some 11), none, (.build [(.sl 0 [] .exact), (.sl 0 [] .exact)] [(0, 1), (1, 1)]), [(.t 6), (.t 10)], none⟩, ⟨none, none, (.st 2), [(.t 2), (.t 11)], none⟩]) .ret)
set_option maxRecDepth 100000 in
def c_theorboref01_Copy_b : VC :=
  (.seq (.ops 2 [⟨(some 1), none, (.box 39), [(.t 0)], none⟩, ⟨(some 2), none, (.alloc 39 [(.sl 0 [] .exact), (.sl 0 [] .exact)]), [], none⟩]) c_theorboref01_Copy_b_1)
set_option maxRecDepth 100000 in
theorem k_theorboref01_Copy_b : Comp Tryd.prog (fun n => [6,10].contains n) gtab 28 12 c_theorboref01_Copy_b [(.c 2 2 true)] := ⟨⟨Tryd.f28, _, Tryd.func28, rfl, rfl, by kernel_rfl, by kernel_rfl⟩⟩
set_option maxRecDepth 100000 in
abbrev c_slices_Clone_api_Course_api_Course_b_1 : VC :=
  (.seq (.ops 0 [⟨(some 2), none, .mv, [(.c (.sl 0 [] .exact))], none⟩]) .ret)
set_option maxRecDepth 100000 in
abbrev c_slices_Clone_api_Course_api_Course_b_2 : VC :=
  (.cond (.t 4) c_slices_Clone_api_Course_api_Course_b_1 .skip)
set_option maxRecDepth 100000 in
abbrev c_slices_Clone_api_Course_api_Course_b_3 : VC :=
  (.seq (.ops 4 [⟨(some 5), none, (.mksl 0 3 [] []), [], none⟩, ⟨(some 6), none, .mv, [(.t 0)], none⟩, ⟨(some 7), none, (.appB 59 3 24), [(.t 5), (.t 6)], none⟩, ⟨(some 2), none, .mv, [(.t 7)], none⟩]) .ret)
set_option maxRecDepth 100000 in
abbrev c_slices_Clone_api_Course_api_Course_b_4 : VC :=
  (.seq (.seq (.ops 0 [⟨(some 3), none, .mv, [(.t 0)], none⟩, ⟨(some 4), none, (.eqN false), [(.t 3)], none⟩]) c_slices_Clone_api_Course_api_Course_b_2) c_slices_Clone_api_Course_api_Course_b_3)
set_option maxRecDepth 100000 in
def c_slices_Clone_api_Course_api_Course_b : VC :=
  (.seq (.ops 0 [⟨(some 2), none, .mv, [(.c (.sl 0 [] .exact))], none⟩]) c_slices_Clone_api_Course_api_Course_b_4)
set_option maxRecDepth 100000 in
theorem k_slices_Clone_api_Course_api_Course_b : Comp Tryd.prog (fun n => [7].contains n) gtab 94 8 c_slices_Clone_api_Course_api_Course_b [(.t 2)] := ⟨⟨Tryd.f94, _, Tryd.func94, rfl, rfl, by kernel_rfl, by kernel_rfl⟩⟩
set_option maxRecDepth 100000 in
abbrev c_slices_Clone_int_int_b_1 : VC :=
  (.seq (.ops 0 [⟨(some 2), none, .mv, [(.c (.sl 0 [] .exact))], none⟩]) .ret)
set_option maxRecDepth 100000 in
abbrev c_slices_Clone_int_int_b_2 : VC :=
  (.seq (.ops 4 [⟨(some 5), none, (.mksl 0 1 [] []), [], none⟩, ⟨(some 6), none, .mv, [(.t 0)], none⟩, ⟨(some 7), none, (.appB 3 1 8), [(.t 5), (.t 6)], none⟩, ⟨(some 2), none, .mv, [(.t 7)], none⟩]) .ret)
set_option maxRecDepth 100000 in
abbrev c_slices_Clone_int_int_b_3 : VC :=
  (.seq (.seq (.ops 0 [⟨(some 3), none, .mv, [(.t 0)], none⟩, ⟨(some 4), none, (.eqN false), [(.t 3)], none⟩]) (.cond (.t 4) c_slices_Clone_int_int_b_1 .skip)) c_slices_Clone_int_int_b_2)
set_option maxRecDepth 100000 in
def c_slices_Clone_int_int_b : VC :=
  (.seq (.ops 0 [⟨(some 2), none, .mv, [(.c (.sl 0 [] .exact))], none⟩]) c_slices_Clone_int_int_b_3)
set_option maxRecDepth 100000 in
theorem k_slices_Clone_int_int_b : Comp Tryd.prog (fun n => [7].contains n) gtab 95 8 c_slices_Clone_int_int_b [(.t 2)] := ⟨⟨Tryd.f95, _, Tryd.func95, rfl, rfl, by kernel_rfl, by kernel_rfl⟩⟩
set_option maxRecDepth 100000 in
abbrev c_instrument_clone_b_1 : VC :=
  (.seq (.ops 8 [⟨(some 3), none, (.fldA 0), [(.t 1)], none⟩, ⟨(some 4), none, .ld1, [(.t 3)], (some [0])⟩, ⟨(some 5), none, (.callB 94), [(.t 4)], (some [0, 1])⟩, ⟨(some 6), none, (.fldA 1), [(.t 1)], none⟩, ⟨(some 7), none, .ld1, [(.t 6)], (some [3])⟩, ⟨(some 8), none, (.callB 95), [(.t 7)], none⟩, ⟨(some 9), none, (.build [(.sl 0 [] .exact), (.sl 0 [] .exact)] [(0, 1), (1, 1)]), [(.t 5), (.t 8)], none⟩, ⟨none, none, (.st 2), [(.t 2), (.t 9)], none⟩]) .ret)
set_option maxRecDepth 100000 in
def c_instrument_clone_b : VC :=
  (.seq (.ops 2 [⟨(some 1), none, (.box 39), [(.t 0)], none⟩, ⟨(some 2), none, (.alloc 39 [(.sl 0 [] .exact), (.sl 0 [] .exact)]), [], none⟩]) c_instrument_clone_b_1)
set_option maxRecDepth 100000 in
theorem k_instrument_clone_b : Comp Tryd.prog (fun n => [5,8].contains n) gtab 80 10 c_instrument_clone_b [(.c 2 2 true)] := ⟨⟨Tryd.f80, _, Tryd.func80, rfl, rfl, by kernel_rfl, by kernel_rfl⟩⟩
set_option maxRecDepth 100000 in
abbrev c_instrument_Capo_1 : VC :=
  (.seq (.ops 0 [⟨(some 17), none, (.build [(.sl 0 [] .exact), (.sl 0 [] .exact)] []), [], none⟩, ⟨(some 18), none, .mv, [(.t 6)], none⟩, ⟨none, none, (.st 2), [(.t 4), (.t 17)], none⟩, ⟨(some 5), none, .mv, [(.t 18)], none⟩]) .ret)
set_option maxRecDepth 100000 in
abbrev c_instrument_Capo_2 : VC :=
  (.seq (.ops 0 [⟨(some 15), none, .mv, [(.t 6)], none⟩, ⟨(some 16), none, (.bin .neq), [(.t 15), (.c (.lit (.int .i64 0)))], none⟩]) (.cond (.t 16) c_instrument_Capo_1 .skip))
set_option maxRecDepth 100000 in
abbrev c_instrument_Capo_3 : VC :=
  (.seq (.ops 0 [⟨(some 28), none, (.build [(.sl 0 [] .exact), (.sl 0 [] .exact)] []), [], none⟩, ⟨none, none, (.st 2), [(.t 4), (.t 28)], none⟩, ⟨(some 5), none, .mv, [(.c (.lit (.int .i64 13)))], none⟩]) .ret)
set_option maxRecDepth 100000 in
abbrev c_instrument_Capo_4 : VC :=
  (.seq (.ops 0 [⟨(some 33), none, (.ldA 2), [(.t 7)], none⟩, ⟨none, none, (.st 2), [(.t 4), (.t 33)], none⟩, ⟨(some 5), none, .mv, [(.c (.lit (.int .i64 0)))], none⟩]) .ret)
set_option maxRecDepth 100000 in
abbrev c_instrument_Capo_5 : VC :=
  (.seq (.ops 0 [⟨(some 61), none, (.build [(.sl 0 [] .exact), (.sl 0 [] .exact)] []), [], none⟩, ⟨none, none, (.st 2), [(.t 4), (.t 61)], none⟩, ⟨(some 5), none, .mv, [(.c (.lit (.int .i64 13)))], none⟩]) .ret)
set_option maxRecDepth 100000 in
abbrev c_instrument_Capo_6 : VC :=
  (.ops 0 [⟨(some 70), none, .mv, [(.t 10)], none⟩, ⟨(some 71), none, .nilck, [(.t 70)], none⟩, ⟨(some 72), none, (.fldA 0), [(.t 71)], none⟩, ⟨(some 73), none, .ld1, [(.t 72)], none⟩, ⟨(some 74), none, .mv, [(.t 8)], none⟩, ⟨(some 75), none, (.bin .add), [(.t 73), (.t 74)], none⟩, ⟨(some 76), none, .nilck, [(.t 70)], none⟩, ⟨(some 77), none, (.fldA 0), [(.t 76)], none⟩, ⟨none, none, (.st 1), [(.t 77), (.t 75)], none⟩])
set_option maxRecDepth 100000 in
abbrev c_instrument_Capo_7 : VC :=
  (.seq (.ops 0 [⟨(some 62), none, .mv, [(.t 10)], none⟩, ⟨(some 63), none, .nilck, [(.t 62)], none⟩, ⟨(some 64), none, (.fldA 1), [(.t 63)], none⟩, ⟨(some 65), none, .ld1, [(.t 64)], none⟩, ⟨(some 66), none, .mv, [(.t 1)], none⟩, ⟨(some 67), none, (.bin .sub), [(.t 65), (.t 66)], none⟩, ⟨(some 68), none, .nilck, [(.t 62)], none⟩, ⟨(some 69), none, (.fldA 1), [(.t 68)], none⟩, ⟨none, none, (.st 1), [(.t 69), (.t 67)], none⟩]) c_instrument_Capo_6)
set_option maxRecDepth 100000 in
abbrev c_instrument_Capo_8 : VC :=
  (.seq (.seq (.ops 0 [⟨(some 55), none, .mv, [(.t 10)], none⟩, ⟨(some 56), none, .nilck, [(.t 55)], none⟩, ⟨(some 57), none, (.fldA 1), [(.t 56)], none⟩, ⟨(some 58), none, .ld1, [(.t 57)], none⟩, ⟨(some 59), none, .mv, [(.t 1)], none⟩, ⟨(some 60), none, (.bin .lss), [(.t 58), (.t 59)], none⟩]) (.cond (.t 60) c_instrument_Capo_5 .skip)) c_instrument_Capo_7)
set_option maxRecDepth 100000 in
abbrev c_instrument_Capo_9 : VC :=
  (.seq (.seq (.ops 0 [⟨(some 50), none, .mv, [(.t 10)], none⟩, ⟨(some 51), none, .nilck, [(.t 50)], none⟩, ⟨(some 52), none, (.fldA 1), [(.t 51)], none⟩, ⟨(some 53), none, .ld1, [(.t 52)], none⟩, ⟨(some 54), none, (.bin .eql), [(.t 53), (.c (.lit (.int .i64 0)))], none⟩]) (.cond (.t 54) (.exit 1) .skip)) c_instrument_Capo_8)
set_option maxRecDepth 100000 in
abbrev c_instrument_Capo_10 : VC :=
  (.seq (.ops 0 [⟨(some 46), none, (.fldA 0), [(.t 7)], none⟩, ⟨(some 47), none, .ld1, [(.t 46)], none⟩, ⟨(some 48), none, .mv, [(.t 9)], none⟩, ⟨(some 49), none, (.ixA 3), [(.t 47), (.t 48)], none⟩, ⟨(some 10), none, .mv, [(.t 49)], none⟩]) c_instrument_Capo_9)
set_option maxRecDepth 100000 in
abbrev c_instrument_Capo_11 : VC :=
  (.ops 0 [⟨(some 78), none, (.bin .add), [(.t 43), (.c (.lit (.int .i64 1)))], none⟩, ⟨(some 43), none, .mv, [(.t 78)], none⟩])
set_option maxRecDepth 100000 in
abbrev c_instrument_Capo_12 : VC :=
  (.seq (.block 1 (.seq (.ops 0 [⟨(some 45), none, .mv, [(.t 43)], none⟩, ⟨(some 9), none, .mv, [(.t 45)], none⟩]) c_instrument_Capo_10)) c_instrument_Capo_11)
set_option maxRecDepth 100000 in
abbrev c_instrument_Capo_13 : VC :=
  (.seq (.ops 0 [⟨(some 44), none, (.bin .lss), [(.t 43), (.t 42)], none⟩]) (.seq (.cond (.t 44) .skip (.exit 0)) c_instrument_Capo_12))
set_option maxRecDepth 100000 in
abbrev c_instrument_Capo_14 : VC :=
  (.ops 9 [⟨(some 89), none, (.fldA 1), [(.t 7)], none⟩, ⟨(some 90), none, .ld1, [(.t 89)], none⟩, ⟨(some 91), none, .mv, [(.t 12)], none⟩, ⟨(some 92), none, .mv, [(.t 8)], none⟩, ⟨(some 93), none, (.bin .sub), [(.t 91), (.t 92)], none⟩, ⟨(some 94), none, (.mksl 1 1 [(.lit (.int .i64 0))] [(0, 1)]), [(.t 93)], none⟩, ⟨(some 95), none, (.app 3 1 8), [(.t 90), (.t 94)], none⟩, ⟨(some 96), none, (.fldA 1), [(.t 7)], none⟩, ⟨none, none, (.st 1), [(.t 96), (.t 95)], none⟩])
set_option maxRecDepth 100000 in
abbrev c_instrument_Capo_15 : VC :=
  (.ops 0 [⟨(some 97), none, (.bin .add), [(.t 85), (.c (.lit (.int .i64 1)))], none⟩, ⟨(some 85), none, .mv, [(.t 97)], none⟩])
set_option maxRecDepth 100000 in
abbrev c_instrument_Capo_16 : VC :=
  (.seq (.block 3 (.seq (.ops 0 [⟨(some 87), none, (.ixA 1), [(.t 83), (.t 85)], none⟩, ⟨(some 88), none, .ld1, [(.t 87)], none⟩, ⟨(some 12), none, .mv, [(.t 88)], none⟩]) c_instrument_Capo_14)) c_instrument_Capo_15)
set_option maxRecDepth 100000 in
abbrev c_instrument_Capo_17 : VC :=
  (.seq (.ops 0 [⟨(some 86), none, (.bin .lss), [(.t 85), (.t 84)], none⟩]) (.seq (.cond (.t 86) .skip (.exit 2)) c_instrument_Capo_16))
set_option maxRecDepth 100000 in
abbrev c_instrument_Capo_18 : VC :=
  (.seq (.ops 0 [⟨(some 98), none, (.ldA 2), [(.t 7)], none⟩, ⟨none, none, (.st 2), [(.t 4), (.t 98)], none⟩, ⟨(some 5), none, .mv, [(.c (.lit (.int .i64 0)))], none⟩]) .ret)
set_option maxRecDepth 100000 in
abbrev c_instrument_Capo_19 : VC :=
  (.seq (.seq (.ops 0 [⟨(some 80), none, (.fldA 1), [(.t 2)], none⟩, ⟨(some 81), none, .ld1, [(.t 80)], none⟩, ⟨(some 82), none, .mv, [(.t 1)], none⟩, ⟨(some 83), none, (.slc 1 true false), [(.t 81), (.t 82)], none⟩, ⟨(some 84), none, .len, [(.t 83)], none⟩, ⟨(some 85), none, .mv, [(.c (.lit (.int .i64 0)))], none⟩]) (.block 2 (.loop c_instrument_Capo_17))) c_instrument_Capo_18)
set_option maxRecDepth 100000 in
abbrev c_instrument_Capo_20 : VC :=
  (.seq (.ops 0 [⟨(some 79), none, (.fldA 1), [(.t 7)], none⟩, ⟨none, none, (.st 1), [(.t 79), (.c (.sl 0 [] .exact))], none⟩]) c_instrument_Capo_19)
set_option maxRecDepth 100000 in
abbrev c_instrument_Capo_21 : VC :=
  (.seq (.seq (.ops 0 [⟨(some 40), none, (.fldA 0), [(.t 7)], none⟩, ⟨(some 41), none, .ld1, [(.t 40)], none⟩, ⟨(some 42), none, .len, [(.t 41)], none⟩, ⟨(some 43), none, .mv, [(.c (.lit (.int .i64 0)))], none⟩]) (.block 0 (.loop c_instrument_Capo_13))) c_instrument_Capo_20)
set_option maxRecDepth 100000 in
abbrev c_instrument_Capo_22 : VC :=
  (.seq (.ops 0 [⟨(some 34), none, (.fldA 1), [(.t 2)], none⟩, ⟨(some 35), none, .ld1, [(.t 34)], none⟩, ⟨(some 36), none, .mv, [(.t 1)], none⟩, ⟨(some 37), none, (.bin .sub), [(.t 36), (.c (.lit (.int .i64 1)))], none⟩, ⟨(some 38), none, (.ixA 1), [(.t 35), (.t 37)], none⟩, ⟨(some 39), none, .ld1, [(.t 38)], none⟩, ⟨(some 8), none, .mv, [(.t 39)], none⟩]) c_instrument_Capo_21)
set_option maxRecDepth 100000 in
abbrev c_instrument_Capo_23 : VC :=
  (.seq (.seq (.ops 0 [⟨(some 31), none, .mv, [(.t 1)], none⟩, ⟨(some 32), none, (.bin .eql), [(.t 31), (.c (.lit (.int .i64 0)))], none⟩]) (.cond (.t 32) c_instrument_Capo_4 .skip)) c_instrument_Capo_22)
set_option maxRecDepth 100000 in
abbrev c_instrument_Capo_24 : VC :=
  (.seq (.ops 4 [⟨(some 29), none, (.ldA 2), [(.t 2)], none⟩, ⟨(some 30), none, (.call 80), [(.t 29)], none⟩, ⟨(some 7), none, (.alloc 39 [(.sl 0 [] .exact), (.sl 0 [] .exact)]), [], none⟩, ⟨none, none, (.st 2), [(.t 7), (.t 30)], none⟩]) c_instrument_Capo_23)
set_option maxRecDepth 100000 in
abbrev c_instrument_Capo_25 : VC :=
  (.seq (.seq (.ops 0 [⟨(some 19), none, .mv, [(.t 1)], none⟩, ⟨(some 20), none, (.bin .lss), [(.t 19), (.c (.lit (.int .i64 0)))], none⟩, ⟨(some 21), none, .mv, [(.t 20)], none⟩, ⟨(some 22), (some (21, false)), .mv, [(.t 1)], none⟩, ⟨(some 23), (some (21, false)), (.fldA 1), [(.t 2)], none⟩, ⟨(some 24), (some (21, false)), .ld1, [(.t 23)], none⟩, ⟨(some 25), (some (21, false)), .len, [(.t 24)], none⟩, ⟨(some 26), (some (21, false)), (.bin .gtr), [(.t 22), (.t 25)], none⟩, ⟨(some 27), none, .pick, [(.t 21), (.c (.lit (.bool true))), (.t 26)], none⟩]) (.cond (.t 27) c_instrument_Capo_3 .skip)) c_instrument_Capo_24)
set_option maxRecDepth 100000 in
abbrev c_instrument_Capo_26 : VC :=
  (.seq (.seq (.ops 0 [⟨(some 13), none, (.ldA 2), [(.t 2)], none⟩, ⟨(some 14), none, (.call 30), [(.t 13)], none⟩, ⟨(some 6), none, .mv, [(.t 14)], none⟩]) c_instrument_Capo_2) c_instrument_Capo_25)
set_option maxRecDepth 100000 in
def c_instrument_Capo : VC :=
  (.seq (.ops 3 [⟨(some 2), none, (.box 39), [(.t 0)], none⟩, ⟨(some 4), none, (.alloc 39 [(.sl 0 [] .exact), (.sl 0 [] .exact)]), [], none⟩, ⟨(some 5), none, .mv, [(.c (.lit (.int .i64 0)))], none⟩]) c_instrument_Capo_26)
set_option maxRecDepth 100000 in
theorem k_instrument_Capo : Comp Tryd.prog nobx gtab 43 99 c_instrument_Capo [(.c 4 2 true), (.t 5)] := ⟨⟨Tryd.f43, _, Tryd.func43, rfl, rfl, by kernel_rfl, by kernel_rfl⟩⟩
set_option maxRecDepth 100000 in
abbrev c_theorboref01_Capo_1 : VC :=
  (.seq (.ops 0 [⟨(some 15), none, (.build [(.sl 0 [] .exact), (.sl 0 [] .exact)] []), [], none⟩, ⟨(some 16), none, .mv, [(.t 6)], none⟩, ⟨none, none, (.st 2), [(.t 4), (.t 15)], none⟩, ⟨(some 5), none, .mv, [(.t 16)], none⟩]) .ret)
set_option maxRecDepth 100000 in
abbrev c_theorboref01_Capo_2 : VC :=
  (.seq (.ops 0 [⟨(some 26), none, (.build [(.sl 0 [] .exact), (.sl 0 [] .exact)] []), [], none⟩, ⟨none, none, (.st 2), [(.t 4), (.t 26)], none⟩, ⟨(some 5), none, .mv, [(.c (.lit (.int .i64 13)))], none⟩]) .ret)
set_option maxRecDepth 100000 in
abbrev c_theorboref01_Capo_3 : VC :=
  (.seq (.ops 0 [⟨(some 31), none, (.ldA 2), [(.t 7)], none⟩, ⟨none, none, (.st 2), [(.t 4), (.t 31)], none⟩, ⟨(some 5), none, .mv, [(.c (.lit (.int .i64 0)))], none⟩]) .ret)
set_option maxRecDepth 100000 in
abbrev c_theorboref01_Capo_4 : VC :=
  (.seq (.ops 0 [⟨(some 60), none, (.build [(.sl 0 [] .exact), (.sl 0 [] .exact)] []), [], none⟩, ⟨none, none, (.st 2), [(.t 4), (.t 60)], none⟩, ⟨(some 5), none, .mv, [(.c (.lit (.int .i64 13)))], none⟩]) .ret)
set_option maxRecDepth 100000 in
abbrev c_theorboref01_Capo_5 : VC :=
  (.ops 0 [⟨(some 74), none, (.fldA 0), [(.t 7)], none⟩, ⟨(some 75), none, .ld1, [(.t 74)], (some [0])⟩, ⟨(some 76), none, .mv, [(.t 9)], none⟩, ⟨(some 77), none, (.fldA 0), [(.t 7)], none⟩, ⟨(some 78), none, .ld1, [(.t 77)], (some [3])⟩, ⟨(some 79), none, .mv, [(.t 9)], none⟩, ⟨(some 80), none, (.ixA 3), [(.t 78), (.t 79)], none⟩, ⟨(some 81), none, (.fldA 1), [(.t 80)], none⟩, ⟨(some 82), none, .ld1, [(.t 81)], (some [3, 4, 5, 6, 7])⟩, ⟨(some 83), none, .mv, [(.t 1)], none⟩, ⟨(some 84), none, (.bin .sub), [(.t 82), (.t 83)], none⟩, ⟨(some 85), none, (.ixA 3), [(.t 75), (.t 76)], none⟩, ⟨(some 86), none, (.fldA 1), [(.t 85)], none⟩, ⟨none, none, (.st 1), [(.t 86), (.t 84)], none⟩])
set_option maxRecDepth 100000 in
abbrev c_theorboref01_Capo_6 : VC :=
  (.seq (.ops 0 [⟨(some 61), none, (.fldA 0), [(.t 7)], none⟩, ⟨(some 62), none, .ld1, [(.t 61)], (some [0])⟩, ⟨(some 63), none, .mv, [(.t 9)], none⟩, ⟨(some 64), none, (.fldA 0), [(.t 7)], none⟩, ⟨(some 65), none, .ld1, [(.t 64)], (some [3])⟩, ⟨(some 66), none, .mv, [(.t 9)], none⟩, ⟨(some 67), none, (.ixA 3), [(.t 65), (.t 66)], none⟩, ⟨(some 68), none, (.fldA 0), [(.t 67)], none⟩, ⟨(some 69), none, .ld1, [(.t 68)], (some [3, 4, 5, 6, 7])⟩, ⟨(some 70), none, .mv, [(.t 8)], none⟩, ⟨(some 71), none, (.bin .add), [(.t 69), (.t 70)], none⟩, ⟨(some 72), none, (.ixA 3), [(.t 62), (.t 63)], none⟩, ⟨(some 73), none, (.fldA 0), [(.t 72)], none⟩, ⟨none, none, (.st 1), [(.t 73), (.t 71)], none⟩]) c_theorboref01_Capo_5)
set_option maxRecDepth 100000 in
abbrev c_theorboref01_Capo_7 : VC :=
  (.seq (.seq (.ops 0 [⟨(some 52), none, (.fldA 0), [(.t 7)], none⟩, ⟨(some 53), none, .ld1, [(.t 52)], none⟩, ⟨(some 54), none, .mv, [(.t 9)], none⟩, ⟨(some 55), none, (.ixA 3), [(.t 53), (.t 54)], none⟩, ⟨(some 56), none, (.fldA 1), [(.t 55)], none⟩, ⟨(some 57), none, .ld1, [(.t 56)], none⟩, ⟨(some 58), none, .mv, [(.t 1)], none⟩, ⟨(some 59), none, (.bin .lss), [(.t 57), (.t 58)], none⟩]) (.cond (.t 59) c_theorboref01_Capo_4 .skip)) c_theorboref01_Capo_6)
set_option maxRecDepth 100000 in
abbrev c_theorboref01_Capo_8 : VC :=
  (.ops 0 [⟨(some 43), none, .mv, [(.t 9)], none⟩, ⟨(some 44), none, (.bin .add), [(.t 43), (.c (.lit (.int .i64 1)))], none⟩, ⟨(some 9), none, .mv, [(.t 44)], none⟩])
set_option maxRecDepth 100000 in
abbrev c_theorboref01_Capo_9 : VC :=
  (.seq (.block 1 (.seq (.seq (.ops 0 [⟨(some 45), none, (.fldA 0), [(.t 7)], none⟩, ⟨(some 46), none, .ld1, [(.t 45)], none⟩, ⟨(some 47), none, .mv, [(.t 9)], none⟩, ⟨(some 48), none, (.ixA 3), [(.t 46), (.t 47)], none⟩, ⟨(some 49), none, (.fldA 1), [(.t 48)], none⟩, ⟨(some 50), none, .ld1, [(.t 49)], none⟩, ⟨(some 51), none, (.bin .eql), [(.t 50), (.c (.lit (.int .i64 0)))], none⟩]) (.cond (.t 51) (.exit 1) .skip)) c_theorboref01_Capo_7)) c_theorboref01_Capo_8)
set_option maxRecDepth 100000 in
abbrev c_theorboref01_Capo_10 : VC :=
  (.seq (.seq (.ops 0 [⟨(some 38), none, .mv, [(.t 9)], none⟩, ⟨(some 39), none, (.fldA 0), [(.t 7)], none⟩, ⟨(some 40), none, .ld1, [(.t 39)], none⟩, ⟨(some 41), none, .len, [(.t 40)], none⟩, ⟨(some 42), none, (.bin .lss), [(.t 38), (.t 41)], none⟩]) (.cond (.t 42) .skip (.exit 0))) c_theorboref01_Capo_9)
set_option maxRecDepth 100000 in
abbrev c_theorboref01_Capo_11 : VC :=
  (.ops 0 [⟨(some 97), none, .mv, [(.t 10)], none⟩, ⟨(some 98), none, (.bin .add), [(.t 97), (.c (.lit (.int .i64 1)))], none⟩, ⟨(some 10), none, .mv, [(.t 98)], none⟩])
set_option maxRecDepth 100000 in
abbrev c_theorboref01_Capo_12 : VC :=
  (.seq (.block 3 (.ops 0 [⟨(some 99), none, (.fldA 1), [(.t 7)], none⟩, ⟨(some 100), none, .ld1, [(.t 99)], (some [0])⟩, ⟨(some 101), none, .mv, [(.t 10)], none⟩, ⟨(some 102), none, (.fldA 1), [(.t 7)], none⟩, ⟨(some 103), none, .ld1, [(.t 102)], (some [3])⟩, ⟨(some 104), none, .mv, [(.t 10)], none⟩, ⟨(some 105), none, (.ixA 1), [(.t 103), (.t 104)], none⟩, ⟨(some 106), none, .ld1, [(.t 105)], (some [3, 4, 5, 6])⟩, ⟨(some 107), none, .mv, [(.t 8)], none⟩, ⟨(some 108), none, (.bin .sub), [(.t 106), (.t 107)], none⟩, ⟨(some 109), none, (.ixA 1), [(.t 100), (.t 101)], none⟩, ⟨none, none, (.st 1), [(.t 109), (.t 108)], none⟩])) c_theorboref01_Capo_11)
set_option maxRecDepth 100000 in
abbrev c_theorboref01_Capo_13 : VC :=
  (.seq (.seq (.ops 0 [⟨(some 92), none, .mv, [(.t 10)], none⟩, ⟨(some 93), none, (.fldA 1), [(.t 7)], none⟩, ⟨(some 94), none, .ld1, [(.t 93)], none⟩, ⟨(some 95), none, .len, [(.t 94)], none⟩, ⟨(some 96), none, (.bin .lss), [(.t 92), (.t 95)], none⟩]) (.cond (.t 96) .skip (.exit 2))) c_theorboref01_Capo_12)
set_option maxRecDepth 100000 in
abbrev c_theorboref01_Capo_14 : VC :=
  (.seq (.ops 0 [⟨(some 110), none, (.ldA 2), [(.t 7)], none⟩, ⟨none, none, (.st 2), [(.t 4), (.t 110)], none⟩, ⟨(some 5), none, .mv, [(.c (.lit (.int .i64 0)))], none⟩]) .ret)
set_option maxRecDepth 100000 in
abbrev c_theorboref01_Capo_15 : VC :=
  (.seq (.seq (.ops 0 [⟨(some 10), none, .mv, [(.c (.lit (.int .i64 0)))], none⟩]) (.block 2 (.loop c_theorboref01_Capo_13))) c_theorboref01_Capo_14)
set_option maxRecDepth 100000 in
abbrev c_theorboref01_Capo_16 : VC :=
  (.seq (.ops 0 [⟨(some 87), none, (.fldA 1), [(.t 7)], none⟩, ⟨(some 88), none, .ld1, [(.t 87)], none⟩, ⟨(some 89), none, .mv, [(.t 1)], none⟩, ⟨(some 90), none, (.slc 1 true false), [(.t 88), (.t 89)], none⟩, ⟨(some 91), none, (.fldA 1), [(.t 7)], none⟩, ⟨none, none, (.st 1), [(.t 91), (.t 90)], none⟩]) c_theorboref01_Capo_15)
set_option maxRecDepth 100000 in
abbrev c_theorboref01_Capo_17 : VC :=
  (.seq (.seq (.ops 0 [⟨(some 9), none, .mv, [(.c (.lit (.int .i64 0)))], none⟩]) (.block 0 (.loop c_theorboref01_Capo_10))) c_theorboref01_Capo_16)
set_option maxRecDepth 100000 in
abbrev c_theorboref01_Capo_18 : VC :=
  (.seq (.ops 0 [⟨(some 32), none, (.fldA 1), [(.t 2)], none⟩, ⟨(some 33), none, .ld1, [(.t 32)], none⟩, ⟨(some 34), none, .mv, [(.t 1)], none⟩, ⟨(some 35), none, (.bin .sub), [(.t 34), (.c (.lit (.int .i64 1)))], none⟩, ⟨(some 36), none, (.ixA 1), [(.t 33), (.t 35)], none⟩, ⟨(some 37), none, .ld1, [(.t 36)], none⟩, ⟨(some 8), none, .mv, [(.t 37)], none⟩]) c_theorboref01_Capo_17)
set_option maxRecDepth 100000 in
abbrev c_theorboref01_Capo_19 : VC :=
  (.seq (.seq (.ops 0 [⟨(some 29), none, .mv, [(.t 1)], none⟩, ⟨(some 30), none, (.bin .eql), [(.t 29), (.c (.lit (.int .i64 0)))], none⟩]) (.cond (.t 30) c_theorboref01_Capo_3 .skip)) c_theorboref01_Capo_18)
set_option maxRecDepth 100000 in
abbrev c_theorboref01_Capo_20 : VC :=
  (.seq (.ops 4 [⟨(some 27), none, (.ldA 2), [(.t 2)], none⟩, ⟨(some 28), none, (.call 28), [(.t 27)], none⟩, ⟨(some 7), none, (.alloc 39 [(.sl 0 [] .exact), (.sl 0 [] .exact)]), [], none⟩, ⟨none, none, (.st 2), [(.t 7), (.t 28)], none⟩]) c_theorboref01_Capo_19)
set_option maxRecDepth 100000 in
abbrev c_theorboref01_Capo_21 : VC :=
  (.seq (.seq (.ops 0 [⟨(some 17), none, .mv, [(.t 1)], none⟩, ⟨(some 18), none, (.bin .lss), [(.t 17), (.c (.lit (.int .i64 0)))], none⟩, ⟨(some 19), none, .mv, [(.t 18)], none⟩, ⟨(some 20), (some (19, false)), .mv, [(.t 1)], none⟩, ⟨(some 21), (some (19, false)), (.fldA 1), [(.t 2)], none⟩, ⟨(some 22), (some (19, false)), .ld1, [(.t 21)], none⟩, ⟨(some 23), (some (19, false)), .len, [(.t 22)], none⟩, ⟨(some 24), (some (19, false)), (.bin .gtr), [(.t 20), (.t 23)], none⟩, ⟨(some 25), none, .pick, [(.t 19), (.c (.lit (.bool true))), (.t 24)], none⟩]) (.cond (.t 25) c_theorboref01_Capo_2 .skip)) c_theorboref01_Capo_20)
set_option maxRecDepth 100000 in
abbrev c_theorboref01_Capo_22 : VC :=
  (.seq (.seq (.ops 0 [⟨(some 13), none, .mv, [(.t 6)], none⟩, ⟨(some 14), none, (.bin .neq), [(.t 13), (.c (.lit (.int .i64 0)))], none⟩]) (.cond (.t 14) c_theorboref01_Capo_1 .skip)) c_theorboref01_Capo_21)
set_option maxRecDepth 100000 in
abbrev c_theorboref01_Capo_23 : VC :=
  (.seq (.ops 0 [⟨(some 11), none, (.ldA 2), [(.t 2)], none⟩, ⟨(some 12), none, (.call 31), [(.t 11)], none⟩, ⟨(some 6), none, .mv, [(.t 12)], none⟩]) c_theorboref01_Capo_22)
set_option maxRecDepth 100000 in
def c_theorboref01_Capo : VC :=
  (.seq (.ops 3 [⟨(some 2), none, (.box 39), [(.t 0)], none⟩, ⟨(some 4), none, (.alloc 39 [(.sl 0 [] .exact), (.sl 0 [] .exact)]), [], none⟩, ⟨(some 5), none, .mv, [(.c (.lit (.int .i64 0)))], none⟩]) c_theorboref01_Capo_23)
set_option maxRecDepth 100000 in
theorem k_theorboref01_Capo : Comp Tryd.prog nobx gtab 44 111 c_theorboref01_Capo [(.c 4 2 true), (.t 5)] := ⟨⟨Tryd.f44, _, Tryd.func44, rfl, rfl, by kernel_rfl, by kernel_rfl⟩⟩
set_option maxRecDepth 100000 in
abbrev c_theorbolaw01_InstrumentCapos_1 : VC :=
  (.seq (.ops 0 [⟨(some 11), none, (.call 23), [], none⟩, ⟨(some 4), none, .mv, [(.t 11)], none⟩]) .ret)
set_option maxRecDepth 100000 in
abbrev c_theorbolaw01_InstrumentCapos_2 : VC :=
  (.seq (.ops 0 [⟨(some 25), none, (.ldA 2), [(.t 5)], none⟩, ⟨(some 26), none, (.ldA 2), [(.t 7)], none⟩, ⟨(some 27), none, (.call 34), [(.t 25), (.t 26)], none⟩, ⟨(some 28), none, .mv, [(.t 27)], none⟩, ⟨(some 29), (some (28, true)), .mv, [(.t 6)], none⟩, ⟨(some 30), (some (28, true)), .mv, [(.t 8)], none⟩, ⟨(some 31), (some (28, true)), (.bin .eql), [(.t 29), (.t 30)], none⟩, ⟨(some 32), none, .pick, [(.t 28), (.t 31), (.c (.lit (.bool false)))], none⟩, ⟨(some 33), none, .mv, [(.t 32)], none⟩, ⟨(some 34), (some (33, true)), (.call 23), [], none⟩, ⟨(some 35), none, .pick, [(.t 33), (.t 34), (.c (.lit (.bool false)))], none⟩, ⟨(some 4), none, .mv, [(.t 35)], none⟩]) .ret)
set_option maxRecDepth 100000 in
abbrev c_theorbolaw01_InstrumentCapos_3 : VC :=
  (.seq (.ops 9 [⟨(some 20), none, (.ldA 2), [(.t 2)], none⟩, ⟨(some 21), none, .mv, [(.t 1)], none⟩, ⟨(some 22), none, (.call 44), [(.t 20), (.t 21)], none⟩, ⟨(some 19), none, .mv, [(.t 22)], none⟩, ⟨(some 23), none, (.ext 0), [(.t 19)], none⟩, ⟨(some 24), none, (.ext 1), [(.t 19)], none⟩, ⟨(some 7), none, (.alloc 39 [(.sl 0 [] .exact), (.sl 0 [] .exact)]), [], none⟩, ⟨none, none, (.st 2), [(.t 7), (.t 23)], none⟩, ⟨(some 8), none, .mv, [(.t 24)], none⟩]) c_theorbolaw01_InstrumentCapos_2)
set_option maxRecDepth 100000 in
abbrev c_theorbolaw01_InstrumentCapos_4 : VC :=
  (.seq (.ops 10 [⟨(some 13), none, (.ldA 2), [(.t 2)], none⟩, ⟨(some 14), none, (.call 28), [(.t 13)], none⟩, ⟨(some 15), none, .mv, [(.t 1)], none⟩, ⟨(some 16), none, (.call 43), [(.t 14), (.t 15)], none⟩, ⟨(some 12), none, .mv, [(.t 16)], none⟩, ⟨(some 17), none, (.ext 0), [(.t 12)], none⟩, ⟨(some 18), none, (.ext 1), [(.t 12)], none⟩, ⟨(some 5), none, (.alloc 39 [(.sl 0 [] .exact), (.sl 0 [] .exact)]), [], none⟩, ⟨none, none, (.st 2), [(.t 5), (.t 17)], none⟩, ⟨(some 6), none, .mv, [(.t 18)], none⟩]) c_theorbolaw01_InstrumentCapos_3)
set_option maxRecDepth 100000 in
abbrev c_theorbolaw01_InstrumentCapos_5 : VC :=
  (.seq (.seq (.ops 0 [⟨(some 9), none, (.ldA 2), [(.t 2)], none⟩, ⟨(some 10), none, (.call 26), [(.t 9)], none⟩]) (.cond (.t 10) c_theorbolaw01_InstrumentCapos_1 .skip)) c_theorbolaw01_InstrumentCapos_4)
set_option maxRecDepth 100000 in
def c_theorbolaw01_InstrumentCapos : VC :=
  (.seq (.ops 2 [⟨(some 2), none, (.box 39), [(.t 0)], none⟩, ⟨(some 4), none, .mv, [(.c (.lit (.bool false)))], none⟩]) c_theorbolaw01_InstrumentCapos_5)
set_option maxRecDepth 100000 in
theorem k_theorbolaw01_InstrumentCapos : Comp Tryd.prog nobx gtab 11 36 c_theorbolaw01_InstrumentCapos [(.t 4)] := ⟨⟨Tryd.f11, _, Tryd.func11, rfl, rfl, by kernel_rfl, by kernel_rfl⟩⟩
end Go.Proofs.YtbdhjpdjbogggaaDoor
