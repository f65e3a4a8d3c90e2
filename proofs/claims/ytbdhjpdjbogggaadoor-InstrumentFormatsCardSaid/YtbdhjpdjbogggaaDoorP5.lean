/- Functions of the program, as code on values by numbers: printed by a program from the program that was given, and held against it here. -/
import Derived.Test.YtbdhjpdjbogggaaDoorG0
namespace Go.Proofs.YtbdhjpdjbogggaaDoor
open Go.RowKit

set_option maxRecDepth 100000 in
abbrev c_instrument_Name_p1 : VC :=
  (.seq (.ops 0 [⟨(some 14), none, .mv, [(.t 5)], none⟩, ⟨(some 2), none, .mv, [(.c (.lit (.string ⟨#[]⟩)))], none⟩, ⟨(some 3), none, .mv, [(.t 14)], none⟩]) .ret)
set_option maxRecDepth 100000 in
abbrev c_instrument_Name_p2 : VC :=
  (.seq (.ops 0 [⟨(some 12), none, .mv, [(.t 5)], none⟩, ⟨(some 13), none, (.bin .neq), [(.t 12), (.c (.lit (.int .i64 0)))], none⟩]) (.cond (.t 13) c_instrument_Name_p1 .skip))
set_option maxRecDepth 100000 in
abbrev c_instrument_Name_p3 : VC :=
  (.ops 0 [⟨(some 6), none, .mv, [(.c (.lit (.string ⟨#[35]⟩)))], none⟩])
set_option maxRecDepth 100000 in
abbrev c_instrument_Name_p4 : VC :=
  (.ops 0 [⟨(some 6), none, .mv, [(.c (.lit (.string ⟨#[98]⟩)))], none⟩])
set_option maxRecDepth 100000 in
abbrev c_instrument_Name_p5 : VC :=
  (.seq (.ops 0 [⟨(some 20), none, (.bin .eql), [(.t 16), (.c (.lit (.int .i64 (-1))))], none⟩, ⟨(some 19), none, .mv, [(.t 20)], none⟩]) (.cond (.t 19) c_instrument_Name_p4 .skip))
set_option maxRecDepth 100000 in
abbrev c_instrument_Name_p6 : VC :=
  (.block 0 (.seq (.ops 0 [⟨(some 18), none, (.bin .eql), [(.t 16), (.c (.lit (.int .i64 1)))], none⟩, ⟨(some 17), none, .mv, [(.t 18)], none⟩]) (.cond (.t 17) c_instrument_Name_p3 c_instrument_Name_p5)))
set_option maxRecDepth 100000 in
abbrev c_instrument_Name_p7 : VC :=
  (.seq (.ops 0 [⟨(some 21), none, (.fldA 0), [(.t 1)], none⟩, ⟨(some 22), none, .ld1, [(.t 21)], (some [0])⟩, ⟨(some 23), none, (.fldA 0), [(.t 1)], none⟩, ⟨(some 24), none, .ld1, [(.t 23)], (some [2])⟩, ⟨(some 25), none, (.bin .add), [(.t 24), (.c (.lit (.int .i64 1)))], none⟩, ⟨(some 26), none, (.slS true true), [(.c (.lit (.string ⟨#[67, 68, 69, 70, 71, 65, 66]⟩))), (.t 22), (.t 25)], none⟩, ⟨(some 27), none, .mv, [(.t 6)], none⟩, ⟨(some 28), none, (.bin .add), [(.t 26), (.t 27)], none⟩, ⟨(some 29), none, (.fldA 2), [(.t 1)], none⟩, ⟨(some 30), none, .ld1, [(.t 29)], (some [8])⟩, ⟨(some 31), none, (.call 85), [(.t 30)], (some [8, 9])⟩, ⟨(some 32), none, (.bin .add), [(.t 28), (.t 31)], none⟩, ⟨(some 2), none, .mv, [(.t 32)], none⟩, ⟨(some 3), none, .mv, [(.c (.lit (.int .i64 0)))], none⟩]) .ret)
set_option maxRecDepth 100000 in
abbrev c_instrument_Name_p8 : VC :=
  (.seq (.seq (.ops 0 [⟨(some 15), none, (.fldA 1), [(.t 1)], none⟩, ⟨(some 16), none, .ld1, [(.t 15)], none⟩]) c_instrument_Name_p6) c_instrument_Name_p7)
set_option maxRecDepth 100000 in
abbrev c_instrument_Name_p9 : VC :=
  (.seq (.ops 0 [⟨(some 6), none, .mv, [(.c (.lit (.string ⟨#[]⟩)))], none⟩]) c_instrument_Name_p8)
set_option maxRecDepth 100000 in
abbrev c_instrument_Name_p10 : VC :=
  (.seq (.seq (.ops 0 [⟨(some 8), none, (.ldA 3), [(.t 1)], none⟩, ⟨(some 9), none, (.call 56), [(.t 8)], none⟩, ⟨(some 7), none, .mv, [(.t 9)], none⟩, ⟨(some 10), none, (.ext 0), [(.t 7)], none⟩, ⟨(some 11), none, (.ext 1), [(.t 7)], none⟩, ⟨(some 4), none, .mv, [(.t 10)], none⟩, ⟨(some 5), none, .mv, [(.t 11)], none⟩]) c_instrument_Name_p2) c_instrument_Name_p9)
set_option maxRecDepth 100000 in
def c_instrument_Name : VC :=
  (.seq (.ops 3 [⟨(some 1), none, (.box 23), [(.t 0)], none⟩, ⟨(some 2), none, .mv, [(.c (.lit (.string ⟨#[]⟩)))], none⟩, ⟨(some 3), none, .mv, [(.c (.lit (.int .i64 0)))], none⟩]) c_instrument_Name_p10)
set_option maxRecDepth 100000 in
theorem k_instrument_Name : Comp Tryd.prog nobx gtab 58 33 c_instrument_Name [(.t 2), (.t 3)] := ⟨⟨Tryd.f58, _, Tryd.func58, rfl, rfl, by kernel_rfl, by kernel_rfl⟩⟩
set_option maxRecDepth 100000 in
abbrev c_theorboref01_Name_p1 : VC :=
  (.seq (.ops 0 [⟨(some 2), none, .mv, [(.c (.lit (.string ⟨#[]⟩)))], none⟩, ⟨(some 3), none, .mv, [(.c (.lit (.int .i64 10)))], none⟩]) .ret)
set_option maxRecDepth 100000 in
abbrev c_theorboref01_Name_p2 : VC :=
  (.ops 0 [⟨(some 17), none, .mv, [(.t 4)], none⟩, ⟨(some 18), none, (.bin .add), [(.t 17), (.c (.lit (.string ⟨#[35]⟩)))], none⟩, ⟨(some 4), none, .mv, [(.t 18)], none⟩])
set_option maxRecDepth 100000 in
abbrev c_theorboref01_Name_p3 : VC :=
  (.ops 0 [⟨(some 22), none, .mv, [(.t 4)], none⟩, ⟨(some 23), none, (.bin .add), [(.t 22), (.c (.lit (.string ⟨#[98]⟩)))], none⟩, ⟨(some 4), none, .mv, [(.t 23)], none⟩])
set_option maxRecDepth 100000 in
abbrev c_theorboref01_Name_p4 : VC :=
  (.seq (.ops 0 [⟨(some 24), none, .mv, [(.t 4)], none⟩, ⟨(some 25), none, (.fldA 2), [(.t 1)], none⟩, ⟨(some 26), none, .ld1, [(.t 25)], none⟩, ⟨(some 27), none, (.call 86), [(.t 26)], none⟩, ⟨(some 28), none, (.bin .add), [(.t 24), (.t 27)], none⟩, ⟨(some 2), none, .mv, [(.t 28)], none⟩, ⟨(some 3), none, .mv, [(.c (.lit (.int .i64 0)))], none⟩]) .ret)
set_option maxRecDepth 100000 in
abbrev c_theorboref01_Name_p5 : VC :=
  (.seq (.seq (.ops 0 [⟨(some 19), none, (.fldA 1), [(.t 1)], none⟩, ⟨(some 20), none, .ld1, [(.t 19)], none⟩, ⟨(some 21), none, (.bin .eql), [(.t 20), (.c (.lit (.int .i64 (-1))))], none⟩]) (.cond (.t 21) c_theorboref01_Name_p3 .skip)) c_theorboref01_Name_p4)
set_option maxRecDepth 100000 in
abbrev c_theorboref01_Name_p6 : VC :=
  (.seq (.seq (.ops 0 [⟨(some 14), none, (.fldA 1), [(.t 1)], none⟩, ⟨(some 15), none, .ld1, [(.t 14)], none⟩, ⟨(some 16), none, (.bin .eql), [(.t 15), (.c (.lit (.int .i64 1)))], none⟩]) (.cond (.t 16) c_theorboref01_Name_p2 .skip)) c_theorboref01_Name_p5)
set_option maxRecDepth 100000 in
abbrev c_theorboref01_Name_p7 : VC :=
  (.seq (.ops 0 [⟨(some 8), none, (.fldA 0), [(.t 1)], none⟩, ⟨(some 9), none, .ld1, [(.t 8)], none⟩, ⟨(some 10), none, (.fldA 0), [(.t 1)], none⟩, ⟨(some 11), none, .ld1, [(.t 10)], none⟩, ⟨(some 12), none, (.bin .add), [(.t 11), (.c (.lit (.int .i64 1)))], none⟩, ⟨(some 13), none, (.slS true true), [(.c (.lit (.string ⟨#[67, 68, 69, 70, 71, 65, 66]⟩))), (.t 9), (.t 12)], none⟩, ⟨(some 4), none, .mv, [(.t 13)], none⟩]) c_theorboref01_Name_p6)
set_option maxRecDepth 100000 in
abbrev c_theorboref01_Name_p8 : VC :=
  (.seq (.seq (.ops 0 [⟨(some 5), none, (.ldA 3), [(.t 1)], none⟩, ⟨(some 6), none, (.call 66), [(.t 5)], none⟩, ⟨(some 7), none, (.un .not), [(.t 6)], none⟩]) (.cond (.t 7) c_theorboref01_Name_p1 .skip)) c_theorboref01_Name_p7)
set_option maxRecDepth 100000 in
def c_theorboref01_Name : VC :=
  (.seq (.ops 3 [⟨(some 1), none, (.box 27), [(.t 0)], none⟩, ⟨(some 2), none, .mv, [(.c (.lit (.string ⟨#[]⟩)))], none⟩, ⟨(some 3), none, .mv, [(.c (.lit (.int .i64 0)))], none⟩]) c_theorboref01_Name_p8)
set_option maxRecDepth 100000 in
theorem k_theorboref01_Name : Comp Tryd.prog nobx gtab 59 29 c_theorboref01_Name [(.t 2), (.t 3)] := ⟨⟨Tryd.f59, _, Tryd.func59, rfl, rfl, by kernel_rfl, by kernel_rfl⟩⟩
set_option maxRecDepth 100000 in
abbrev c_theorboref01_Decimal_p1 : VC :=
  (.seq (.ops 0 [⟨(some 6), none, .mv, [(.t 0)], none⟩, ⟨(some 7), none, (.un .neg), [(.t 6)], none⟩, ⟨(some 8), none, (.call 86), [(.t 7)], none⟩, ⟨(some 9), none, (.bin .add), [(.c (.lit (.string ⟨#[45]⟩))), (.t 8)], none⟩, ⟨(some 2), none, .mv, [(.t 9)], none⟩]) .ret)
set_option maxRecDepth 100000 in
abbrev c_theorboref01_Decimal_p2 : VC :=
  (.seq (.ops 0 [⟨(some 18), none, .mv, [(.t 3)], none⟩, ⟨(some 2), none, .mv, [(.t 18)], none⟩]) .ret)
set_option maxRecDepth 100000 in
abbrev c_theorboref01_Decimal_p3 : VC :=
  (.seq (.ops 0 [⟨(some 19), none, .mv, [(.t 0)], none⟩, ⟨(some 20), none, (.bin .quo), [(.t 19), (.c (.lit (.int .i64 10)))], none⟩, ⟨(some 21), none, (.call 86), [(.t 20)], none⟩, ⟨(some 22), none, .mv, [(.t 3)], none⟩, ⟨(some 23), none, (.bin .add), [(.t 21), (.t 22)], none⟩, ⟨(some 2), none, .mv, [(.t 23)], none⟩]) .ret)
set_option maxRecDepth 100000 in
abbrev c_theorboref01_Decimal_p4 : VC :=
  (.seq (.seq (.ops 0 [⟨(some 16), none, .mv, [(.t 0)], none⟩, ⟨(some 17), none, (.bin .lss), [(.t 16), (.c (.lit (.int .i64 10)))], none⟩]) (.cond (.t 17) c_theorboref01_Decimal_p2 .skip)) c_theorboref01_Decimal_p3)
set_option maxRecDepth 100000 in
abbrev c_theorboref01_Decimal_p5 : VC :=
  (.seq (.ops 0 [⟨(some 10), none, .mv, [(.t 0)], none⟩, ⟨(some 11), none, (.bin .rem), [(.t 10), (.c (.lit (.int .i64 10)))], none⟩, ⟨(some 12), none, .mv, [(.t 0)], none⟩, ⟨(some 13), none, (.bin .rem), [(.t 12), (.c (.lit (.int .i64 10)))], none⟩, ⟨(some 14), none, (.bin .add), [(.t 13), (.c (.lit (.int .i64 1)))], none⟩, ⟨(some 15), none, (.slS true true), [(.c (.lit (.string ⟨#[48, 49, 50, 51, 52, 53, 54, 55, 56, 57]⟩))), (.t 11), (.t 14)], none⟩, ⟨(some 3), none, .mv, [(.t 15)], none⟩]) c_theorboref01_Decimal_p4)
set_option maxRecDepth 100000 in
abbrev c_theorboref01_Decimal_p6 : VC :=
  (.seq (.seq (.ops 0 [⟨(some 4), none, .mv, [(.t 0)], none⟩, ⟨(some 5), none, (.bin .lss), [(.t 4), (.c (.lit (.int .i64 0)))], none⟩]) (.cond (.t 5) c_theorboref01_Decimal_p1 .skip)) c_theorboref01_Decimal_p5)
set_option maxRecDepth 100000 in
def c_theorboref01_Decimal : VC :=
  (.seq (.ops 0 [⟨(some 2), none, .mv, [(.c (.lit (.string ⟨#[]⟩)))], none⟩]) c_theorboref01_Decimal_p6)
set_option maxRecDepth 100000 in
theorem k_theorboref01_Decimal : Comp Tryd.prog nobx gtab 86 24 c_theorboref01_Decimal [(.t 2)] := ⟨⟨Tryd.f86, _, Tryd.func86, rfl, rfl, by kernel_rfl, by kernel_rfl⟩⟩
set_option maxRecDepth 100000 in
abbrev c_instrument_Format_p1 : VC :=
  (.seq (.ops 0 [⟨(some 17), none, .mv, [(.t 4)], none⟩, ⟨(some 2), none, .mv, [(.c (.lit (.string ⟨#[]⟩)))], none⟩, ⟨(some 3), none, .mv, [(.t 17)], none⟩]) .ret)
set_option maxRecDepth 100000 in
abbrev c_instrument_Format_p2 : VC :=
  (.seq (.ops 0 [⟨(some 15), none, .mv, [(.t 4)], none⟩, ⟨(some 16), none, (.bin .neq), [(.t 15), (.c (.lit (.int .i64 0)))], none⟩]) (.cond (.t 16) c_instrument_Format_p1 .skip))
set_option maxRecDepth 100000 in
abbrev c_instrument_Format_p3 : VC :=
  (.seq (.ops 0 [⟨(some 33), none, .mv, [(.t 9)], none⟩, ⟨(some 2), none, .mv, [(.c (.lit (.string ⟨#[]⟩)))], none⟩, ⟨(some 3), none, .mv, [(.t 33)], none⟩]) .ret)
set_option maxRecDepth 100000 in
abbrev c_instrument_Format_p4 : VC :=
  (.seq (.ops 0 [⟨(some 41), none, .mv, [(.t 9)], none⟩, ⟨(some 2), none, .mv, [(.c (.lit (.string ⟨#[]⟩)))], none⟩, ⟨(some 3), none, .mv, [(.t 41)], none⟩]) .ret)
set_option maxRecDepth 100000 in
abbrev c_instrument_Format_p5 : VC :=
  (.ops 0 [⟨(some 51), none, (.call 87), [(.t 5), (.c (.lit (.string ⟨#[43]⟩)))], none⟩])
set_option maxRecDepth 100000 in
abbrev c_instrument_Format_p6 : VC :=
  (.ops 0 [⟨(some 52), none, (.call 87), [(.t 5), (.c (.lit (.string ⟨#[32]⟩)))], none⟩])
set_option maxRecDepth 100000 in
abbrev c_instrument_Format_p7 : VC :=
  (.seq (.seq (.ops 0 [⟨(some 49), none, (.fldA 2), [(.t 7)], none⟩, ⟨(some 50), none, .ld1, [(.t 49)], none⟩]) (.cond (.t 50) c_instrument_Format_p5 .skip)) c_instrument_Format_p6)
set_option maxRecDepth 100000 in
abbrev c_instrument_Format_p8 : VC :=
  (.seq (.ops 0 [⟨(some 42), none, .mv, [(.t 10)], none⟩, ⟨(some 43), none, (.bin .add), [(.t 42), (.c (.lit (.string ⟨#[47]⟩)))], none⟩, ⟨(some 44), none, (.fldA 1), [(.t 7)], none⟩, ⟨(some 45), none, .ld1, [(.t 44)], none⟩, ⟨(some 46), none, (.call 85), [(.t 45)], none⟩, ⟨(some 47), none, (.bin .add), [(.t 43), (.t 46)], none⟩, ⟨(some 48), none, (.call 87), [(.t 5), (.t 47)], none⟩]) c_instrument_Format_p7)
set_option maxRecDepth 100000 in
abbrev c_instrument_Format_p9 : VC :=
  (.seq (.seq (.ops 0 [⟨(some 39), none, .mv, [(.t 9)], none⟩, ⟨(some 40), none, (.bin .neq), [(.t 39), (.c (.lit (.int .i64 0)))], none⟩]) (.cond (.t 40) c_instrument_Format_p4 .skip)) c_instrument_Format_p8)
set_option maxRecDepth 100000 in
abbrev c_instrument_Format_p10 : VC :=
  (.seq (.ops 0 [⟨(some 35), none, (.ldA 3), [(.t 8)], none⟩, ⟨(some 36), none, (.call 58), [(.t 35)], none⟩, ⟨(some 34), none, .mv, [(.t 36)], none⟩, ⟨(some 37), none, (.ext 0), [(.t 34)], none⟩, ⟨(some 38), none, (.ext 1), [(.t 34)], none⟩, ⟨(some 10), none, .mv, [(.t 37)], none⟩, ⟨(some 9), none, .mv, [(.t 38)], none⟩]) c_instrument_Format_p9)
set_option maxRecDepth 100000 in
abbrev c_instrument_Format_p11 : VC :=
  (.seq (.seq (.ops 0 [⟨(some 31), none, .mv, [(.t 9)], none⟩, ⟨(some 32), none, (.bin .neq), [(.t 31), (.c (.lit (.int .i64 0)))], none⟩]) (.cond (.t 32) c_instrument_Format_p3 .skip)) c_instrument_Format_p10)
set_option maxRecDepth 100000 in
abbrev c_instrument_Format_p12 : VC :=
  (.seq (.ops 9 [⟨(some 26), none, (.fldA 0), [(.t 7)], none⟩, ⟨(some 27), none, .ld1, [(.t 26)], none⟩, ⟨(some 28), none, (.call 20), [(.t 27), (.c (.lit (.int .i64 0)))], none⟩, ⟨(some 25), none, .mv, [(.t 28)], none⟩, ⟨(some 29), none, (.ext 0), [(.t 25)], none⟩, ⟨(some 30), none, (.ext 1), [(.t 25)], none⟩, ⟨(some 8), none, (.alloc 23 [(.lit (.int .i64 0)), (.lit (.int .i64 0)), (.lit (.int .i64 0))]), [], none⟩, ⟨none, none, (.st 3), [(.t 8), (.t 29)], none⟩, ⟨(some 9), none, .mv, [(.t 30)], none⟩]) c_instrument_Format_p11)
set_option maxRecDepth 100000 in
abbrev c_instrument_Format_p13 : VC :=
  (.ops 0 [⟨(some 53), none, (.bin .add), [(.t 21), (.c (.lit (.int .i64 1)))], none⟩, ⟨(some 21), none, .mv, [(.t 53)], none⟩])
set_option maxRecDepth 100000 in
abbrev c_instrument_Format_p14 : VC :=
  (.seq (.block 1 (.seq (.ops 4 [⟨(some 23), none, (.ixA 3), [(.t 19), (.t 21)], none⟩, ⟨(some 24), none, (.ldA 3), [(.t 23)], none⟩, ⟨(some 7), none, (.alloc 59 [(.lit (.int .i64 0)), (.lit (.int .i64 0)), (.lit (.bool false))]), [], none⟩, ⟨none, none, (.st 3), [(.t 7), (.t 24)], none⟩]) c_instrument_Format_p12)) c_instrument_Format_p13)
set_option maxRecDepth 100000 in
abbrev c_instrument_Format_p15 : VC :=
  (.seq (.cond (.t 22) .skip (.exit 0)) c_instrument_Format_p14)
set_option maxRecDepth 100000 in
abbrev c_instrument_Format_p16 : VC :=
  (.seq (.ops 0 [⟨(some 22), none, (.bin .lss), [(.t 21), (.t 20)], none⟩]) c_instrument_Format_p15)
set_option maxRecDepth 100000 in
abbrev c_instrument_Format_p17 : VC :=
  (.ops 0 [⟨(some 62), none, .mv, [(.t 12)], none⟩, ⟨(some 63), none, (.call 85), [(.t 62)], none⟩, ⟨(some 64), none, (.bin .add), [(.c (.lit (.string ⟨#[32]⟩))), (.t 63)], none⟩, ⟨(some 65), none, (.call 87), [(.t 5), (.t 64)], none⟩])
set_option maxRecDepth 100000 in
abbrev c_instrument_Format_p18 : VC :=
  (.ops 0 [⟨(some 66), none, (.bin .add), [(.t 58), (.c (.lit (.int .i64 1)))], none⟩, ⟨(some 58), none, .mv, [(.t 66)], none⟩])
set_option maxRecDepth 100000 in
abbrev c_instrument_Format_p19 : VC :=
  (.seq (.block 3 (.seq (.ops 0 [⟨(some 60), none, (.ixA 1), [(.t 56), (.t 58)], none⟩, ⟨(some 61), none, .ld1, [(.t 60)], none⟩, ⟨(some 12), none, .mv, [(.t 61)], none⟩]) c_instrument_Format_p17)) c_instrument_Format_p18)
set_option maxRecDepth 100000 in
abbrev c_instrument_Format_p20 : VC :=
  (.seq (.cond (.t 59) .skip (.exit 2)) c_instrument_Format_p19)
set_option maxRecDepth 100000 in
abbrev c_instrument_Format_p21 : VC :=
  (.seq (.ops 0 [⟨(some 59), none, (.bin .lss), [(.t 58), (.t 57)], none⟩]) c_instrument_Format_p20)
set_option maxRecDepth 100000 in
abbrev c_instrument_Format_p22 : VC :=
  (.seq (.ops 0 [⟨(some 67), none, (.call 88), [(.t 5)], none⟩, ⟨(some 2), none, .mv, [(.t 67)], none⟩, ⟨(some 3), none, .mv, [(.c (.lit (.int .i64 0)))], none⟩]) .ret)
set_option maxRecDepth 100000 in
abbrev c_instrument_Format_p23 : VC :=
  (.seq (.seq (.ops 0 [⟨(some 55), none, (.fldA 1), [(.t 1)], none⟩, ⟨(some 56), none, .ld1, [(.t 55)], none⟩, ⟨(some 57), none, .len, [(.t 56)], none⟩, ⟨(some 58), none, .mv, [(.c (.lit (.int .i64 0)))], none⟩]) (.block 2 (.loop c_instrument_Format_p21))) c_instrument_Format_p22)
set_option maxRecDepth 100000 in
abbrev c_instrument_Format_p24 : VC :=
  (.seq (.ops 0 [⟨(some 54), none, (.call 87), [(.t 5), (.c (.lit (.string ⟨#[58]⟩)))], none⟩]) c_instrument_Format_p23)
set_option maxRecDepth 100000 in
abbrev c_instrument_Format_p25 : VC :=
  (.seq (.seq (.ops 0 [⟨(some 18), none, (.fldA 0), [(.t 1)], none⟩, ⟨(some 19), none, .ld1, [(.t 18)], none⟩, ⟨(some 20), none, .len, [(.t 19)], none⟩, ⟨(some 21), none, .mv, [(.c (.lit (.int .i64 0)))], none⟩]) (.block 0 (.loop c_instrument_Format_p16))) c_instrument_Format_p24)
set_option maxRecDepth 100000 in
abbrev c_instrument_Format_p26 : VC :=
  (.seq (.ops 1 [⟨(some 5), none, (.alloc 103 [(.lit (.pointer none)), (.sl 0 [] .exact)]), [], none⟩]) c_instrument_Format_p25)
set_option maxRecDepth 100000 in
abbrev c_instrument_Format_p27 : VC :=
  (.seq (.seq (.ops 0 [⟨(some 13), none, (.ldA 2), [(.t 1)], none⟩, ⟨(some 14), none, (.call 30), [(.t 13)], none⟩, ⟨(some 4), none, .mv, [(.t 14)], none⟩]) c_instrument_Format_p2) c_instrument_Format_p26)
set_option maxRecDepth 100000 in
def c_instrument_Format : VC :=
  (.seq (.ops 3 [⟨(some 1), none, (.box 39), [(.t 0)], none⟩, ⟨(some 2), none, .mv, [(.c (.lit (.string ⟨#[]⟩)))], none⟩, ⟨(some 3), none, .mv, [(.c (.lit (.int .i64 0)))], none⟩]) c_instrument_Format_p27)
set_option maxRecDepth 100000 in
theorem k_instrument_Format : Comp Tryd.prog nobx gtab 60 68 c_instrument_Format [(.t 2), (.t 3)] := ⟨⟨Tryd.f60, _, Tryd.func60, rfl, rfl, by kernel_rfl, by kernel_rfl⟩⟩
set_option maxRecDepth 100000 in
abbrev c_theorboref01_Format_p1 : VC :=
  (.seq (.ops 0 [⟨(some 16), none, .mv, [(.t 4)], none⟩, ⟨(some 2), none, .mv, [(.c (.lit (.string ⟨#[]⟩)))], none⟩, ⟨(some 3), none, .mv, [(.t 16)], none⟩]) .ret)
set_option maxRecDepth 100000 in
abbrev c_theorboref01_Format_p2 : VC :=
  (.ops 0 [⟨(some 57), none, .mv, [(.t 5)], none⟩, ⟨(some 58), none, (.bin .add), [(.t 57), (.c (.lit (.string ⟨#[43]⟩)))], none⟩, ⟨(some 5), none, .mv, [(.t 58)], none⟩])
set_option maxRecDepth 100000 in
abbrev c_theorboref01_Format_p3 : VC :=
  (.ops 0 [⟨(some 59), none, .mv, [(.t 5)], none⟩, ⟨(some 60), none, (.bin .add), [(.t 59), (.c (.lit (.string ⟨#[32]⟩)))], none⟩, ⟨(some 5), none, .mv, [(.t 60)], none⟩])
set_option maxRecDepth 100000 in
abbrev c_theorboref01_Format_p4 : VC :=
  (.seq (.seq (.ops 0 [⟨(some 51), none, (.fldA 0), [(.t 1)], none⟩, ⟨(some 52), none, .ld1, [(.t 51)], none⟩, ⟨(some 53), none, .mv, [(.t 6)], none⟩, ⟨(some 54), none, (.ixA 3), [(.t 52), (.t 53)], none⟩, ⟨(some 55), none, (.fldA 2), [(.t 54)], none⟩, ⟨(some 56), none, .ld1, [(.t 55)], none⟩]) (.cond (.t 56) c_theorboref01_Format_p2 .skip)) c_theorboref01_Format_p3)
set_option maxRecDepth 100000 in
abbrev c_theorboref01_Format_p5 : VC :=
  (.seq (.ops 0 [⟨(some 39), none, .mv, [(.t 5)], none⟩, ⟨(some 40), none, .mv, [(.t 9)], none⟩, ⟨(some 41), none, (.bin .add), [(.t 39), (.t 40)], none⟩, ⟨(some 42), none, (.bin .add), [(.t 41), (.c (.lit (.string ⟨#[47]⟩)))], none⟩, ⟨(some 43), none, (.fldA 0), [(.t 1)], none⟩, ⟨(some 44), none, .ld1, [(.t 43)], none⟩, ⟨(some 45), none, .mv, [(.t 6)], none⟩, ⟨(some 46), none, (.ixA 3), [(.t 44), (.t 45)], none⟩, ⟨(some 47), none, (.fldA 1), [(.t 46)], none⟩, ⟨(some 48), none, .ld1, [(.t 47)], none⟩, ⟨(some 49), none, (.call 86), [(.t 48)], none⟩, ⟨(some 50), none, (.bin .add), [(.t 42), (.t 49)], none⟩, ⟨(some 5), none, .mv, [(.t 50)], none⟩]) c_theorboref01_Format_p4)
set_option maxRecDepth 100000 in
abbrev c_theorboref01_Format_p6 : VC :=
  (.seq (.ops 0 [⟨(some 35), none, (.ldA 3), [(.t 7)], none⟩, ⟨(some 36), none, (.call 59), [(.t 35)], none⟩, ⟨(some 34), none, .mv, [(.t 36)], none⟩, ⟨(some 37), none, (.ext 0), [(.t 34)], none⟩, ⟨(some 38), none, (.ext 1), [(.t 34)], none⟩, ⟨(some 9), none, .mv, [(.t 37)], none⟩, ⟨(some 10), none, .mv, [(.t 38)], none⟩]) c_theorboref01_Format_p5)
set_option maxRecDepth 100000 in
abbrev c_theorboref01_Format_p7 : VC :=
  (.ops 0 [⟨(some 22), none, .mv, [(.t 6)], none⟩, ⟨(some 23), none, (.bin .add), [(.t 22), (.c (.lit (.int .i64 1)))], none⟩, ⟨(some 6), none, .mv, [(.t 23)], none⟩])
set_option maxRecDepth 100000 in
abbrev c_theorboref01_Format_p8 : VC :=
  (.seq (.block 1 (.seq (.ops 13 [⟨(some 25), none, (.fldA 0), [(.t 1)], none⟩, ⟨(some 26), none, .ld1, [(.t 25)], none⟩, ⟨(some 27), none, .mv, [(.t 6)], none⟩, ⟨(some 28), none, (.ixA 3), [(.t 26), (.t 27)], none⟩, ⟨(some 29), none, (.fldA 0), [(.t 28)], none⟩, ⟨(some 30), none, .ld1, [(.t 29)], none⟩, ⟨(some 31), none, (.call 21), [(.t 30), (.c (.lit (.int .i64 0)))], none⟩, ⟨(some 24), none, .mv, [(.t 31)], none⟩, ⟨(some 32), none, (.ext 0), [(.t 24)], none⟩, ⟨(some 33), none, (.ext 1), [(.t 24)], none⟩, ⟨(some 7), none, (.alloc 27 [(.lit (.int .i64 0)), (.lit (.int .i64 0)), (.lit (.int .i64 0))]), [], none⟩, ⟨none, none, (.st 3), [(.t 7), (.t 32)], none⟩, ⟨(some 8), none, .mv, [(.t 33)], none⟩]) c_theorboref01_Format_p6)) c_theorboref01_Format_p7)
set_option maxRecDepth 100000 in
abbrev c_theorboref01_Format_p9 : VC :=
  (.seq (.seq (.ops 0 [⟨(some 17), none, .mv, [(.t 6)], none⟩, ⟨(some 18), none, (.fldA 0), [(.t 1)], none⟩, ⟨(some 19), none, .ld1, [(.t 18)], none⟩, ⟨(some 20), none, .len, [(.t 19)], none⟩, ⟨(some 21), none, (.bin .lss), [(.t 17), (.t 20)], none⟩]) (.cond (.t 21) .skip (.exit 0))) c_theorboref01_Format_p8)
set_option maxRecDepth 100000 in
abbrev c_theorboref01_Format_p10 : VC :=
  (.ops 0 [⟨(some 68), none, .mv, [(.t 11)], none⟩, ⟨(some 69), none, (.bin .add), [(.t 68), (.c (.lit (.int .i64 1)))], none⟩, ⟨(some 11), none, .mv, [(.t 69)], none⟩])
set_option maxRecDepth 100000 in
abbrev c_theorboref01_Format_p11 : VC :=
  (.seq (.block 3 (.ops 0 [⟨(some 70), none, .mv, [(.t 5)], none⟩, ⟨(some 71), none, (.bin .add), [(.t 70), (.c (.lit (.string ⟨#[32]⟩)))], none⟩, ⟨(some 72), none, (.fldA 1), [(.t 1)], none⟩, ⟨(some 73), none, .ld1, [(.t 72)], none⟩, ⟨(some 74), none, .mv, [(.t 11)], none⟩, ⟨(some 75), none, (.ixA 1), [(.t 73), (.t 74)], none⟩, ⟨(some 76), none, .ld1, [(.t 75)], none⟩, ⟨(some 77), none, (.call 86), [(.t 76)], none⟩, ⟨(some 78), none, (.bin .add), [(.t 71), (.t 77)], none⟩, ⟨(some 5), none, .mv, [(.t 78)], none⟩])) c_theorboref01_Format_p10)
set_option maxRecDepth 100000 in
abbrev c_theorboref01_Format_p12 : VC :=
  (.seq (.seq (.ops 0 [⟨(some 63), none, .mv, [(.t 11)], none⟩, ⟨(some 64), none, (.fldA 1), [(.t 1)], none⟩, ⟨(some 65), none, .ld1, [(.t 64)], none⟩, ⟨(some 66), none, .len, [(.t 65)], none⟩, ⟨(some 67), none, (.bin .lss), [(.t 63), (.t 66)], none⟩]) (.cond (.t 67) .skip (.exit 2))) c_theorboref01_Format_p11)
set_option maxRecDepth 100000 in
abbrev c_theorboref01_Format_p13 : VC :=
  (.seq (.ops 0 [⟨(some 79), none, .mv, [(.t 5)], none⟩, ⟨(some 2), none, .mv, [(.t 79)], none⟩, ⟨(some 3), none, .mv, [(.c (.lit (.int .i64 0)))], none⟩]) .ret)
set_option maxRecDepth 100000 in
abbrev c_theorboref01_Format_p14 : VC :=
  (.seq (.seq (.ops 0 [⟨(some 11), none, .mv, [(.c (.lit (.int .i64 0)))], none⟩]) (.block 2 (.loop c_theorboref01_Format_p12))) c_theorboref01_Format_p13)
set_option maxRecDepth 100000 in
abbrev c_theorboref01_Format_p15 : VC :=
  (.seq (.ops 0 [⟨(some 61), none, .mv, [(.t 5)], none⟩, ⟨(some 62), none, (.bin .add), [(.t 61), (.c (.lit (.string ⟨#[58]⟩)))], none⟩, ⟨(some 5), none, .mv, [(.t 62)], none⟩]) c_theorboref01_Format_p14)
set_option maxRecDepth 100000 in
abbrev c_theorboref01_Format_p16 : VC :=
  (.seq (.seq (.ops 0 [⟨(some 6), none, .mv, [(.c (.lit (.int .i64 0)))], none⟩]) (.block 0 (.loop c_theorboref01_Format_p9))) c_theorboref01_Format_p15)
set_option maxRecDepth 100000 in
abbrev c_theorboref01_Format_p17 : VC :=
  (.seq (.ops 0 [⟨(some 5), none, .mv, [(.c (.lit (.string ⟨#[]⟩)))], none⟩]) c_theorboref01_Format_p16)
set_option maxRecDepth 100000 in
abbrev c_theorboref01_Format_p18 : VC :=
  (.seq (.seq (.ops 0 [⟨(some 14), none, .mv, [(.t 4)], none⟩, ⟨(some 15), none, (.bin .neq), [(.t 14), (.c (.lit (.int .i64 0)))], none⟩]) (.cond (.t 15) c_theorboref01_Format_p1 .skip)) c_theorboref01_Format_p17)
set_option maxRecDepth 100000 in
abbrev c_theorboref01_Format_p19 : VC :=
  (.seq (.ops 0 [⟨(some 12), none, (.ldA 2), [(.t 1)], none⟩, ⟨(some 13), none, (.call 31), [(.t 12)], none⟩, ⟨(some 4), none, .mv, [(.t 13)], none⟩]) c_theorboref01_Format_p18)
set_option maxRecDepth 100000 in
def c_theorboref01_Format : VC :=
  (.seq (.ops 3 [⟨(some 1), none, (.box 39), [(.t 0)], none⟩, ⟨(some 2), none, .mv, [(.c (.lit (.string ⟨#[]⟩)))], none⟩, ⟨(some 3), none, .mv, [(.c (.lit (.int .i64 0)))], none⟩]) c_theorboref01_Format_p19)
set_option maxRecDepth 100000 in
theorem k_theorboref01_Format : Comp Tryd.prog nobx gtab 61 80 c_theorboref01_Format [(.t 2), (.t 3)] := ⟨⟨Tryd.f61, _, Tryd.func61, rfl, rfl, by kernel_rfl, by kernel_rfl⟩⟩
set_option maxRecDepth 100000 in
abbrev c_strconv_Itoa_p1 : VC :=
  (.seq (.ops 0 [⟨(some 3), none, .mv, [(.t 0)], none⟩, ⟨(some 4), none, (.call 97), [(.t 3)], none⟩, ⟨(some 2), none, .mv, [(.t 4)], none⟩]) .ret)
set_option maxRecDepth 100000 in
def c_strconv_Itoa : VC :=
  (.seq (.ops 0 [⟨(some 2), none, .mv, [(.c (.lit (.string ⟨#[]⟩)))], none⟩]) c_strconv_Itoa_p1)
set_option maxRecDepth 100000 in
theorem k_strconv_Itoa : Comp Tryd.prog nobx gtab 85 5 c_strconv_Itoa [(.t 2)] := ⟨⟨Tryd.f85, _, Tryd.func85, rfl, rfl, by kernel_rfl, by kernel_rfl⟩⟩
set_option maxRecDepth 100000 in
abbrev c_theorbolaw01_InstrumentSounds_p1 : VC :=
  (.seq (.ops 0 [⟨(some 33), none, .mv, [(.t 3)], none⟩, ⟨(some 34), none, .mv, [(.t 5)], none⟩, ⟨(some 35), none, (.bin .eql), [(.t 33), (.t 34)], none⟩, ⟨(some 36), none, .mv, [(.t 35)], none⟩, ⟨(some 37), (some (36, true)), .mv, [(.t 4)], none⟩, ⟨(some 38), (some (36, true)), .mv, [(.t 6)], none⟩, ⟨(some 39), (some (36, true)), (.bin .eql), [(.t 37), (.t 38)], none⟩, ⟨(some 40), none, .pick, [(.t 36), (.t 39), (.c (.lit (.bool false)))], none⟩, ⟨(some 41), none, .mv, [(.t 40)], none⟩, ⟨(some 42), (some (41, true)), .mv, [(.t 7)], none⟩, ⟨(some 43), (some (41, true)), .mv, [(.t 9)], none⟩, ⟨(some 44), (some (41, true)), (.bin .eql), [(.t 42), (.t 43)], none⟩, ⟨(some 45), none, .pick, [(.t 41), (.t 44), (.c (.lit (.bool false)))], none⟩, ⟨(some 46), none, .mv, [(.t 45)], none⟩, ⟨(some 47), (some (46, true)), .mv, [(.t 8)], none⟩, ⟨(some 48), (some (46, true)), .mv, [(.t 10)], none⟩, ⟨(some 49), (some (46, true)), (.bin .eql), [(.t 47), (.t 48)], none⟩, ⟨(some 50), none, .pick, [(.t 46), (.t 49), (.c (.lit (.bool false)))], none⟩, ⟨(some 51), none, .mv, [(.t 50)], none⟩, ⟨(some 52), (some (51, true)), (.call 23), [], none⟩, ⟨(some 53), none, .pick, [(.t 51), (.t 52), (.c (.lit (.bool false)))], none⟩, ⟨(some 2), none, .mv, [(.t 53)], none⟩]) .ret)
set_option maxRecDepth 100000 in
abbrev c_theorbolaw01_InstrumentSounds_p2 : VC :=
  (.seq (.ops 0 [⟨(some 28), none, (.ldA 3), [(.t 1)], none⟩, ⟨(some 29), none, (.call 22), [(.t 28)], none⟩, ⟨(some 30), none, (.call 59), [(.t 29)], none⟩, ⟨(some 27), none, .mv, [(.t 30)], none⟩, ⟨(some 31), none, (.ext 0), [(.t 27)], none⟩, ⟨(some 32), none, (.ext 1), [(.t 27)], none⟩, ⟨(some 9), none, .mv, [(.t 31)], none⟩, ⟨(some 10), none, .mv, [(.t 32)], none⟩]) c_theorbolaw01_InstrumentSounds_p1)
set_option maxRecDepth 100000 in
abbrev c_theorbolaw01_InstrumentSounds_p3 : VC :=
  (.seq (.ops 0 [⟨(some 23), none, (.ldA 3), [(.t 1)], none⟩, ⟨(some 24), none, (.call 58), [(.t 23)], none⟩, ⟨(some 22), none, .mv, [(.t 24)], none⟩, ⟨(some 25), none, (.ext 0), [(.t 22)], none⟩, ⟨(some 26), none, (.ext 1), [(.t 22)], none⟩, ⟨(some 7), none, .mv, [(.t 25)], none⟩, ⟨(some 8), none, .mv, [(.t 26)], none⟩]) c_theorbolaw01_InstrumentSounds_p2)
set_option maxRecDepth 100000 in
abbrev c_theorbolaw01_InstrumentSounds_p4 : VC :=
  (.seq (.ops 0 [⟨(some 17), none, (.ldA 3), [(.t 1)], none⟩, ⟨(some 18), none, (.call 22), [(.t 17)], none⟩, ⟨(some 19), none, (.call 57), [(.t 18)], none⟩, ⟨(some 16), none, .mv, [(.t 19)], none⟩, ⟨(some 20), none, (.ext 0), [(.t 16)], none⟩, ⟨(some 21), none, (.ext 1), [(.t 16)], none⟩, ⟨(some 5), none, .mv, [(.t 20)], none⟩, ⟨(some 6), none, .mv, [(.t 21)], none⟩]) c_theorbolaw01_InstrumentSounds_p3)
set_option maxRecDepth 100000 in
abbrev c_theorbolaw01_InstrumentSounds_p5 : VC :=
  (.seq (.ops 0 [⟨(some 12), none, (.ldA 3), [(.t 1)], none⟩, ⟨(some 13), none, (.call 56), [(.t 12)], none⟩, ⟨(some 11), none, .mv, [(.t 13)], none⟩, ⟨(some 14), none, (.ext 0), [(.t 11)], none⟩, ⟨(some 15), none, (.ext 1), [(.t 11)], none⟩, ⟨(some 3), none, .mv, [(.t 14)], none⟩, ⟨(some 4), none, .mv, [(.t 15)], none⟩]) c_theorbolaw01_InstrumentSounds_p4)
set_option maxRecDepth 100000 in
def c_theorbolaw01_InstrumentSounds : VC :=
  (.seq (.ops 2 [⟨(some 1), none, (.box 23), [(.t 0)], none⟩, ⟨(some 2), none, .mv, [(.c (.lit (.bool false)))], none⟩]) c_theorbolaw01_InstrumentSounds_p5)
set_option maxRecDepth 100000 in
theorem k_theorbolaw01_InstrumentSounds : Comp Tryd.prog nobx gtab 17 54 c_theorbolaw01_InstrumentSounds [(.t 2)] := ⟨⟨Tryd.f17, _, Tryd.func17, rfl, rfl, by kernel_rfl, by kernel_rfl⟩⟩
set_option maxRecDepth 100000 in
abbrev c_theorbolaw01_InstrumentSpelledBack_p1 : VC :=
  (.seq (.ops 0 [⟨(some 22), none, .mv, [(.t 0)], none⟩, ⟨(some 23), none, (.bin .lss), [(.t 22), (.c (.lit (.int .i64 0)))], none⟩, ⟨(some 24), none, .mv, [(.t 23)], none⟩, ⟨(some 25), (some (24, false)), .mv, [(.t 0)], none⟩, ⟨(some 26), (some (24, false)), (.bin .gtr), [(.t 25), (.c (.lit (.int .i64 127)))], none⟩, ⟨(some 27), none, .pick, [(.t 24), (.c (.lit (.bool true))), (.t 26)], none⟩, ⟨(some 28), none, .mv, [(.t 27)], none⟩, ⟨(some 29), (some (28, false)), .mv, [(.t 1)], none⟩, ⟨(some 30), (some (28, false)), (.bin .lss), [(.t 29), (.c (.lit (.int .i64 (-4))))], none⟩, ⟨(some 31), none, .pick, [(.t 28), (.c (.lit (.bool true))), (.t 30)], none⟩, ⟨(some 32), none, .mv, [(.t 31)], none⟩, ⟨(some 33), (some (32, false)), .mv, [(.t 1)], none⟩, ⟨(some 34), (some (32, false)), (.bin .gtr), [(.t 33), (.c (.lit (.int .i64 4)))], none⟩, ⟨(some 35), none, .pick, [(.t 32), (.c (.lit (.bool true))), (.t 34)], none⟩, ⟨(some 36), none, .mv, [(.t 35)], none⟩, ⟨(some 37), (some (36, false)), .mv, [(.t 0)], none⟩, ⟨(some 38), (some (36, false)), (.bin .eql), [(.t 37), (.c (.lit (.int .i64 0)))], none⟩, ⟨(some 39), (some (36, false)), .mv, [(.t 38)], none⟩, ⟨(some 40), (some (39, true)), .mv, [(.t 1)], none⟩, ⟨(some 41), (some (39, true)), (.bin .eql), [(.t 40), (.c (.lit (.int .i64 4)))], none⟩, ⟨(some 42), (some (36, false)), .pick, [(.t 39), (.t 41), (.c (.lit (.bool false)))], none⟩, ⟨(some 43), none, .pick, [(.t 36), (.c (.lit (.bool true))), (.t 42)], none⟩, ⟨(some 44), none, .mv, [(.t 43)], none⟩, ⟨(some 45), (some (44, true)), (.call 23), [], none⟩, ⟨(some 46), none, .pick, [(.t 44), (.t 45), (.c (.lit (.bool false)))], none⟩, ⟨(some 4), none, .mv, [(.t 46)], none⟩]) .ret)
set_option maxRecDepth 100000 in
abbrev c_theorbolaw01_InstrumentSpelledBack_p2 : VC :=
  (.cond (.t 21) c_theorbolaw01_InstrumentSpelledBack_p1 .skip)
set_option maxRecDepth 100000 in
abbrev c_theorbolaw01_InstrumentSpelledBack_p3 : VC :=
  (.seq (.ops 0 [⟨(some 4), none, .mv, [(.c (.lit (.bool false)))], none⟩]) .ret)
set_option maxRecDepth 100000 in
abbrev c_theorbolaw01_InstrumentSpelledBack_p4 : VC :=
  (.cond (.t 91) c_theorbolaw01_InstrumentSpelledBack_p3 .skip)
set_option maxRecDepth 100000 in
abbrev c_theorbolaw01_InstrumentSpelledBack_p5 : VC :=
  (.seq (.ops 0 [⟨(some 101), none, .mv, [(.t 13)], none⟩, ⟨(some 102), none, .mv, [(.t 1)], none⟩, ⟨(some 103), none, (.bin .sub), [(.t 102), (.c (.lit (.int .i64 3)))], none⟩, ⟨(some 104), none, (.bin .geq), [(.t 101), (.t 103)], none⟩, ⟨(some 105), none, .mv, [(.t 104)], none⟩, ⟨(some 106), (some (105, true)), .mv, [(.t 13)], none⟩, ⟨(some 107), (some (105, true)), .mv, [(.t 1)], none⟩, ⟨(some 108), (some (105, true)), (.bin .add), [(.t 107), (.c (.lit (.int .i64 8)))], none⟩, ⟨(some 109), (some (105, true)), (.bin .leq), [(.t 106), (.t 108)], none⟩, ⟨(some 110), none, .pick, [(.t 105), (.t 109), (.c (.lit (.bool false)))], none⟩, ⟨(some 111), none, .mv, [(.t 110)], none⟩, ⟨(some 112), (some (111, true)), (.call 23), [], none⟩, ⟨(some 113), none, .pick, [(.t 111), (.t 112), (.c (.lit (.bool false)))], none⟩, ⟨(some 4), none, .mv, [(.t 113)], none⟩]) .ret)
set_option maxRecDepth 100000 in
abbrev c_theorbolaw01_InstrumentSpelledBack_p6 : VC :=
  (.seq (.ops 0 [⟨(some 92), none, (.mksl 7 1 [(.lit (.int .i64 0)), (.lit (.int .i64 0)), (.lit (.int .i64 0)), (.lit (.int .i64 0)), (.lit (.int .i64 0)), (.lit (.int .i64 0)), (.lit (.int .i64 0))] [(0, 1), (1, 1), (2, 1), (3, 1), (4, 1), (5, 1), (6, 1)]), [(.c (.lit (.int .i64 0))), (.c (.lit (.int .i64 2))), (.c (.lit (.int .i64 4))), (.c (.lit (.int .i64 (-1)))), (.c (.lit (.int .i64 1))), (.c (.lit (.int .i64 3))), (.c (.lit (.int .i64 5)))], none⟩, ⟨(some 93), none, (.fldA 0), [(.t 5)], none⟩, ⟨(some 94), none, .ld1, [(.t 93)], (some [1])⟩, ⟨(some 95), none, (.ixA 1), [(.t 92), (.t 94)], none⟩, ⟨(some 96), none, .ld1, [(.t 95)], (some [0, 1, 2, 3])⟩, ⟨(some 97), none, (.fldA 1), [(.t 5)], none⟩, ⟨(some 98), none, .ld1, [(.t 97)], (some [5])⟩, ⟨(some 99), none, (.bin .mul), [(.c (.lit (.int .i64 7))), (.t 98)], none⟩, ⟨(some 100), none, (.bin .add), [(.t 96), (.t 99)], none⟩, ⟨(some 13), none, .mv, [(.t 100)], none⟩]) c_theorbolaw01_InstrumentSpelledBack_p5)
set_option maxRecDepth 100000 in
abbrev c_theorbolaw01_InstrumentSpelledBack_p7 : VC :=
  (.seq (.seq (.ops 0 [⟨(some 62), none, .mv, [(.t 7)], none⟩, ⟨(some 63), none, .mv, [(.t 0)], none⟩, ⟨(some 64), none, (.bin .neq), [(.t 62), (.t 63)], none⟩, ⟨(some 65), none, .mv, [(.t 64)], none⟩, ⟨(some 66), (some (65, false)), .mv, [(.t 8)], none⟩, ⟨(some 67), (some (65, false)), (.bin .neq), [(.t 66), (.c (.lit (.int .i64 0)))], none⟩, ⟨(some 68), none, .pick, [(.t 65), (.c (.lit (.bool true))), (.t 67)], none⟩, ⟨(some 69), none, .mv, [(.t 68)], none⟩, ⟨(some 70), (some (69, false)), .mv, [(.t 10)], none⟩, ⟨(some 71), (some (69, false)), (.bin .neq), [(.t 70), (.c (.lit (.int .i64 0)))], none⟩, ⟨(some 72), none, .pick, [(.t 69), (.c (.lit (.bool true))), (.t 71)], none⟩, ⟨(some 73), none, .mv, [(.t 72)], none⟩, ⟨(some 74), (some (73, false)), .mv, [(.t 12)], none⟩, ⟨(some 75), (some (73, false)), (.bin .neq), [(.t 74), (.c (.lit (.int .i64 0)))], none⟩, ⟨(some 76), none, .pick, [(.t 73), (.c (.lit (.bool true))), (.t 75)], none⟩, ⟨(some 77), none, .mv, [(.t 76)], none⟩, ⟨(some 78), (some (77, false)), (.ldA 3), [(.t 11)], none⟩, ⟨(some 79), (some (77, false)), (.ldA 3), [(.t 5)], none⟩, ⟨(some 80), (some (77, false)), (.eqP [(0, 0), (1, 0), (2, 0)] true), [(.t 78), (.t 79)], none⟩, ⟨(some 81), none, .pick, [(.t 77), (.c (.lit (.bool true))), (.t 80)], none⟩, ⟨(some 82), none, .mv, [(.t 81)], none⟩, ⟨(some 83), (some (82, false)), (.fldA 0), [(.t 5)], none⟩, ⟨(some 84), (some (82, false)), .ld1, [(.t 83)], none⟩, ⟨(some 85), (some (82, false)), (.bin .lss), [(.t 84), (.c (.lit (.int .i64 0)))], none⟩, ⟨(some 86), none, .pick, [(.t 82), (.c (.lit (.bool true))), (.t 85)], none⟩, ⟨(some 87), none, .mv, [(.t 86)], none⟩, ⟨(some 88), (some (87, false)), (.fldA 0), [(.t 5)], none⟩, ⟨(some 89), (some (87, false)), .ld1, [(.t 88)], none⟩, ⟨(some 90), (some (87, false)), (.bin .gtr), [(.t 89), (.c (.lit (.int .i64 6)))], none⟩, ⟨(some 91), none, .pick, [(.t 87), (.c (.lit (.bool true))), (.t 90)], none⟩]) c_theorbolaw01_InstrumentSpelledBack_p4) c_theorbolaw01_InstrumentSpelledBack_p6)
set_option maxRecDepth 100000 in
abbrev c_theorbolaw01_InstrumentSpelledBack_p8 : VC :=
  (.seq (.ops 8 [⟨(some 58), none, .mv, [(.t 9)], none⟩, ⟨(some 59), none, (.call 24), [(.t 58)], none⟩, ⟨(some 57), none, .mv, [(.t 59)], none⟩, ⟨(some 60), none, (.ext 0), [(.t 57)], none⟩, ⟨(some 61), none, (.ext 1), [(.t 57)], none⟩, ⟨(some 11), none, (.alloc 23 [(.lit (.int .i64 0)), (.lit (.int .i64 0)), (.lit (.int .i64 0))]), [], none⟩, ⟨none, none, (.st 3), [(.t 11), (.t 60)], none⟩, ⟨(some 12), none, .mv, [(.t 61)], none⟩]) c_theorbolaw01_InstrumentSpelledBack_p7)
set_option maxRecDepth 100000 in
abbrev c_theorbolaw01_InstrumentSpelledBack_p9 : VC :=
  (.seq (.ops 0 [⟨(some 53), none, (.ldA 3), [(.t 5)], none⟩, ⟨(some 54), none, (.call 58), [(.t 53)], none⟩, ⟨(some 52), none, .mv, [(.t 54)], none⟩, ⟨(some 55), none, (.ext 0), [(.t 52)], none⟩, ⟨(some 56), none, (.ext 1), [(.t 52)], none⟩, ⟨(some 9), none, .mv, [(.t 55)], none⟩, ⟨(some 10), none, .mv, [(.t 56)], none⟩]) c_theorbolaw01_InstrumentSpelledBack_p8)
set_option maxRecDepth 100000 in
abbrev c_theorbolaw01_InstrumentSpelledBack_p10 : VC :=
  (.seq (.ops 0 [⟨(some 48), none, (.ldA 3), [(.t 5)], none⟩, ⟨(some 49), none, (.call 56), [(.t 48)], none⟩, ⟨(some 47), none, .mv, [(.t 49)], none⟩, ⟨(some 50), none, (.ext 0), [(.t 47)], none⟩, ⟨(some 51), none, (.ext 1), [(.t 47)], none⟩, ⟨(some 7), none, .mv, [(.t 50)], none⟩, ⟨(some 8), none, .mv, [(.t 51)], none⟩]) c_theorbolaw01_InstrumentSpelledBack_p9)
set_option maxRecDepth 100000 in
abbrev c_theorbolaw01_InstrumentSpelledBack_p11 : VC :=
  (.seq (.seq (.ops 0 [⟨(some 20), none, .mv, [(.t 6)], none⟩, ⟨(some 21), none, (.bin .neq), [(.t 20), (.c (.lit (.int .i64 0)))], none⟩]) c_theorbolaw01_InstrumentSpelledBack_p2) c_theorbolaw01_InstrumentSpelledBack_p10)
set_option maxRecDepth 100000 in
abbrev c_theorbolaw01_InstrumentSpelledBack_p12 : VC :=
  (.seq (.ops 9 [⟨(some 15), none, .mv, [(.t 0)], none⟩, ⟨(some 16), none, .mv, [(.t 1)], none⟩, ⟨(some 17), none, (.call 20), [(.t 15), (.t 16)], none⟩, ⟨(some 14), none, .mv, [(.t 17)], none⟩, ⟨(some 18), none, (.ext 0), [(.t 14)], none⟩, ⟨(some 19), none, (.ext 1), [(.t 14)], none⟩, ⟨(some 5), none, (.alloc 23 [(.lit (.int .i64 0)), (.lit (.int .i64 0)), (.lit (.int .i64 0))]), [], none⟩, ⟨none, none, (.st 3), [(.t 5), (.t 18)], none⟩, ⟨(some 6), none, .mv, [(.t 19)], none⟩]) c_theorbolaw01_InstrumentSpelledBack_p11)
set_option maxRecDepth 100000 in
def c_theorbolaw01_InstrumentSpelledBack : VC :=
  (.seq (.ops 0 [⟨(some 4), none, .mv, [(.c (.lit (.bool false)))], none⟩]) c_theorbolaw01_InstrumentSpelledBack_p12)
set_option maxRecDepth 100000 in
theorem k_theorbolaw01_InstrumentSpelledBack : Comp Tryd.prog nobx gtab 18 114 c_theorbolaw01_InstrumentSpelledBack [(.t 4)] := ⟨⟨Tryd.f18, _, Tryd.func18, rfl, rfl, by kernel_rfl, by kernel_rfl⟩⟩
set_option maxRecDepth 100000 in
abbrev c_theorbolaw01_InstrumentFormats_p1 : VC :=
  (.seq (.ops 0 [⟨(some 11), none, (.call 23), [], none⟩, ⟨(some 2), none, .mv, [(.t 11)], none⟩]) .ret)
set_option maxRecDepth 100000 in
abbrev c_theorbolaw01_InstrumentFormats_p2 : VC :=
  (.seq (.ops 0 [⟨(some 2), none, .mv, [(.c (.lit (.bool false)))], none⟩]) .ret)
set_option maxRecDepth 100000 in
abbrev c_theorbolaw01_InstrumentFormats_p3 : VC :=
  (.seq (.ops 0 [⟨(some 33), none, (.call 23), [], none⟩, ⟨(some 2), none, .mv, [(.t 33)], none⟩]) .ret)
set_option maxRecDepth 100000 in
abbrev c_theorbolaw01_InstrumentFormats_p4 : VC :=
  (.seq (.ops 0 [⟨(some 39), none, .mv, [(.t 8)], none⟩, ⟨(some 40), none, (.bin .eql), [(.t 39), (.c (.lit (.int .i64 0)))], none⟩, ⟨(some 41), none, .mv, [(.t 40)], none⟩, ⟨(some 42), (some (41, true)), (.ldA 2), [(.t 7)], none⟩, ⟨(some 43), (some (41, true)), (.ldA 2), [(.t 1)], none⟩, ⟨(some 44), (some (41, true)), (.call 34), [(.t 42), (.t 43)], none⟩, ⟨(some 45), none, .pick, [(.t 41), (.t 44), (.c (.lit (.bool false)))], none⟩, ⟨(some 46), none, .mv, [(.t 45)], none⟩, ⟨(some 47), (some (46, true)), (.call 23), [], none⟩, ⟨(some 48), none, .pick, [(.t 46), (.t 47), (.c (.lit (.bool false)))], none⟩, ⟨(some 2), none, .mv, [(.t 48)], none⟩]) .ret)
set_option maxRecDepth 100000 in
abbrev c_theorbolaw01_InstrumentFormats_p5 : VC :=
  (.seq (.ops 8 [⟨(some 35), none, .mv, [(.t 3)], none⟩, ⟨(some 36), none, (.call 32), [(.t 35)], none⟩, ⟨(some 34), none, .mv, [(.t 36)], none⟩, ⟨(some 37), none, (.ext 0), [(.t 34)], none⟩, ⟨(some 38), none, (.ext 1), [(.t 34)], none⟩, ⟨(some 7), none, (.alloc 39 [(.sl 0 [] .exact), (.sl 0 [] .exact)]), [], none⟩, ⟨none, none, (.st 2), [(.t 7), (.t 37)], none⟩, ⟨(some 8), none, .mv, [(.t 38)], none⟩]) c_theorbolaw01_InstrumentFormats_p4)
set_option maxRecDepth 100000 in
abbrev c_theorbolaw01_InstrumentFormats_p6 : VC :=
  (.seq (.seq (.ops 0 [⟨(some 31), none, .mv, [(.t 4)], none⟩, ⟨(some 32), none, (.bin .neq), [(.t 31), (.c (.lit (.int .i64 0)))], none⟩]) (.cond (.t 32) c_theorbolaw01_InstrumentFormats_p3 .skip)) c_theorbolaw01_InstrumentFormats_p5)
set_option maxRecDepth 100000 in
abbrev c_theorbolaw01_InstrumentFormats_p7 : VC :=
  (.seq (.seq (.ops 0 [⟨(some 23), none, .mv, [(.t 3)], none⟩, ⟨(some 24), none, .mv, [(.t 5)], none⟩, ⟨(some 25), none, (.bin .neq), [(.t 23), (.t 24)], none⟩, ⟨(some 26), none, .mv, [(.t 25)], none⟩, ⟨(some 27), (some (26, false)), .mv, [(.t 4)], none⟩, ⟨(some 28), (some (26, false)), .mv, [(.t 6)], none⟩, ⟨(some 29), (some (26, false)), (.bin .neq), [(.t 27), (.t 28)], none⟩, ⟨(some 30), none, .pick, [(.t 26), (.c (.lit (.bool true))), (.t 29)], none⟩]) (.cond (.t 30) c_theorbolaw01_InstrumentFormats_p2 .skip)) c_theorbolaw01_InstrumentFormats_p6)
set_option maxRecDepth 100000 in
abbrev c_theorbolaw01_InstrumentFormats_p8 : VC :=
  (.seq (.ops 0 [⟨(some 19), none, (.ldA 2), [(.t 1)], none⟩, ⟨(some 20), none, (.call 61), [(.t 19)], none⟩, ⟨(some 18), none, .mv, [(.t 20)], none⟩, ⟨(some 21), none, (.ext 0), [(.t 18)], none⟩, ⟨(some 22), none, (.ext 1), [(.t 18)], none⟩, ⟨(some 5), none, .mv, [(.t 21)], none⟩, ⟨(some 6), none, .mv, [(.t 22)], none⟩]) c_theorbolaw01_InstrumentFormats_p7)
set_option maxRecDepth 100000 in
abbrev c_theorbolaw01_InstrumentFormats_p9 : VC :=
  (.seq (.ops 0 [⟨(some 13), none, (.ldA 2), [(.t 1)], none⟩, ⟨(some 14), none, (.call 28), [(.t 13)], none⟩, ⟨(some 15), none, (.call 60), [(.t 14)], none⟩, ⟨(some 12), none, .mv, [(.t 15)], none⟩, ⟨(some 16), none, (.ext 0), [(.t 12)], none⟩, ⟨(some 17), none, (.ext 1), [(.t 12)], none⟩, ⟨(some 3), none, .mv, [(.t 16)], none⟩, ⟨(some 4), none, .mv, [(.t 17)], none⟩]) c_theorbolaw01_InstrumentFormats_p8)
set_option maxRecDepth 100000 in
abbrev c_theorbolaw01_InstrumentFormats_p10 : VC :=
  (.seq (.seq (.ops 0 [⟨(some 9), none, (.ldA 2), [(.t 1)], none⟩, ⟨(some 10), none, (.call 26), [(.t 9)], none⟩]) (.cond (.t 10) c_theorbolaw01_InstrumentFormats_p1 .skip)) c_theorbolaw01_InstrumentFormats_p9)
set_option maxRecDepth 100000 in
def c_theorbolaw01_InstrumentFormats : VC :=
  (.seq (.ops 2 [⟨(some 1), none, (.box 39), [(.t 0)], none⟩, ⟨(some 2), none, .mv, [(.c (.lit (.bool false)))], none⟩]) c_theorbolaw01_InstrumentFormats_p10)
set_option maxRecDepth 100000 in
theorem k_theorbolaw01_InstrumentFormats : Comp Tryd.prog nobx gtab 19 49 c_theorbolaw01_InstrumentFormats [(.t 2)] := ⟨⟨Tryd.f19, _, Tryd.func19, rfl, rfl, by kernel_rfl, by kernel_rfl⟩⟩
set_option maxRecDepth 100000 in
abbrev c_theorbolaw01_own_p1 : VC :=
  (.seq (.ops 0 [⟨(some 3), none, (.fldA 0), [(.t 1)], none⟩, ⟨(some 4), none, .ld1, [(.t 3)], none⟩, ⟨(some 5), none, (.fldA 1), [(.t 1)], none⟩, ⟨(some 6), none, .ld1, [(.t 5)], none⟩, ⟨(some 7), none, (.fldA 2), [(.t 1)], none⟩, ⟨(some 8), none, .ld1, [(.t 7)], none⟩, ⟨(some 9), none, (.build [(.lit (.int .i64 0)), (.lit (.int .i64 0)), (.lit (.int .i64 0))] [(0, 1), (1, 1), (2, 1)]), [(.t 4), (.t 6), (.t 8)], none⟩, ⟨none, none, (.st 3), [(.t 2), (.t 9)], none⟩]) .ret)
set_option maxRecDepth 100000 in
def c_theorbolaw01_own : VC :=
  (.seq (.ops 2 [⟨(some 1), none, (.box 23), [(.t 0)], none⟩, ⟨(some 2), none, (.alloc 27 [(.lit (.int .i64 0)), (.lit (.int .i64 0)), (.lit (.int .i64 0))]), [], none⟩]) c_theorbolaw01_own_p1)
set_option maxRecDepth 100000 in
theorem k_theorbolaw01_own : Comp Tryd.prog nobx gtab 22 10 c_theorbolaw01_own [(.c 2 3 true)] := ⟨⟨Tryd.f22, _, Tryd.func22, rfl, rfl, by kernel_rfl, by kernel_rfl⟩⟩
end Go.Proofs.YtbdhjpdjbogggaaDoor
