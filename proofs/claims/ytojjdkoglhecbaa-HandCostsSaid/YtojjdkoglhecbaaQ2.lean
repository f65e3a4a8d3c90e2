/- Functions of the program, as code on values by numbers: printed by a program from the program that was given, and held against it here. -/
import Derived.Test.YtojjdkoglhecbaaG0
namespace Go.Proofs.Ytojjdkoglhecbaa
open Go.RowKit

set_option maxRecDepth 100000 in
abbrev c_hand_down_a_p1 : VC :=
  (.seq (.ops 0 [⟨(some 5), none, (.fldA 0), [(.t 2)], none⟩, ⟨(some 6), none, .ld1, [(.t 5)], none⟩, ⟨(some 7), none, (.mkfn 130), [(.t 3)], none⟩, ⟨(some 8), none, (.call 129), [(.t 6), (.t 7)], none⟩, ⟨(some 4), none, .mv, [(.t 8)], none⟩]) .ret)
set_option maxRecDepth 100000 in
def c_hand_down_a : VC :=
  (.seq (.ops 3 [⟨(some 2), none, (.box 47), [(.t 0)], none⟩, ⟨(some 3), none, (.box 3), [(.t 1)], none⟩, ⟨(some 4), none, .mv, [(.c (.lit (.int .i64 0)))], none⟩]) c_hand_down_a_p1)
set_option maxRecDepth 100000 in
theorem k_hand_down_a : Comp Try.prog allbx gtab 100 9 c_hand_down_a [(.t 4)] := ⟨⟨Try.f100, _, Try.func100, rfl, rfl, by kernel_rfl, by kernel_rfl⟩⟩
set_option maxRecDepth 100000 in
abbrev c_hand_check_a_p1 : VC :=
  (.seq (.ops 0 [⟨(some 10), none, .mv, [(.t 5)], none⟩, ⟨(some 4), none, .mv, [(.t 10)], none⟩]) .ret)
set_option maxRecDepth 100000 in
abbrev c_hand_check_a_p2 : VC :=
  (.seq (.ops 0 [⟨(some 8), none, .mv, [(.t 5)], none⟩, ⟨(some 9), none, (.bin .neq), [(.t 8), (.c (.lit (.int .i64 0)))], none⟩]) (.cond (.t 9) c_hand_check_a_p1 .skip))
set_option maxRecDepth 100000 in
abbrev c_hand_check_a_p3 : VC :=
  (.seq (.ops 0 [⟨(some 11), none, .mv, [(.t 1)], none⟩, ⟨(some 12), none, (.call 26), [(.t 11)], none⟩, ⟨(some 4), none, .mv, [(.t 12)], none⟩]) .ret)
set_option maxRecDepth 100000 in
abbrev c_hand_check_a_p4 : VC :=
  (.seq (.seq (.ops 0 [⟨(some 6), none, (.ldA 10), [(.t 2)], none⟩, ⟨(some 7), none, (.call 24), [(.t 6)], none⟩, ⟨(some 5), none, .mv, [(.t 7)], none⟩]) c_hand_check_a_p2) c_hand_check_a_p3)
set_option maxRecDepth 100000 in
def c_hand_check_a : VC :=
  (.seq (.ops 2 [⟨(some 2), none, (.box 25), [(.t 0)], none⟩, ⟨(some 4), none, .mv, [(.c (.lit (.int .i64 0)))], none⟩]) c_hand_check_a_p4)
set_option maxRecDepth 100000 in
theorem k_hand_check_a : Comp Try.prog allbx gtab 102 13 c_hand_check_a [(.t 4)] := ⟨⟨Try.f102, _, Try.func102, rfl, rfl, by kernel_rfl, by kernel_rfl⟩⟩
set_option maxRecDepth 100000 in
abbrev c_hand_net_settle_p1 : VC :=
  (.ops 0 [⟨(some 46), none, .ld1, [(.t 4)], none⟩, ⟨none, none, (.st 1), [(.t 5), (.t 46)], none⟩])
set_option maxRecDepth 100000 in
abbrev c_hand_net_settle_p2 : VC :=
  (.ops 17 [⟨(some 52), none, .ld1, [(.t 1)], (some [])⟩, ⟨(some 53), none, .nilck, [(.t 52)], none⟩, ⟨(some 54), none, (.fldA 13), [(.t 53)], none⟩, ⟨(some 55), none, .ld1, [(.t 54)], (some [0, 1, 2])⟩, ⟨(some 56), none, .ld1, [(.t 2)], (some [])⟩, ⟨(some 57), none, .ld1, [(.t 1)], (some [])⟩, ⟨(some 58), none, .nilck, [(.t 57)], none⟩, ⟨(some 59), none, (.fldA 13), [(.t 58)], none⟩, ⟨(some 60), none, .ld1, [(.t 59)], (some [5, 6, 7])⟩, ⟨(some 61), none, .ld1, [(.t 2)], (some [])⟩, ⟨(some 62), none, (.ixA 1), [(.t 60), (.t 61)], none⟩, ⟨(some 63), none, .ld1, [(.t 62)], (some [5, 6, 7, 8, 9, 10])⟩, ⟨(some 64), none, .ld1, [(.t 5)], (some [])⟩, ⟨(some 65), none, (.mksl 1 1 [(.lit (.int .i64 0))] [(0, 1)]), [(.t 64)], none⟩, ⟨(some 66), none, (.app 3 1 8), [(.t 63), (.t 65)], (some [5, 6, 7, 8, 9, 10, 11, 12, 13])⟩, ⟨(some 67), none, (.ixA 1), [(.t 55), (.t 56)], none⟩, ⟨none, none, (.st 1), [(.t 67), (.t 66)], none⟩])
set_option maxRecDepth 100000 in
abbrev c_hand_net_settle_p3 : VC :=
  (.seq (.ops 0 [⟨(some 47), none, .ld1, [(.t 1)], none⟩, ⟨(some 48), none, .ld1, [(.t 2)], none⟩, ⟨(some 49), none, .mv, [(.t 3)], none⟩, ⟨(some 50), none, (.mkfn 131), [(.t 4), (.t 1), (.t 2), (.t 5)], none⟩, ⟨(some 51), none, (.call 88), [(.t 47), (.t 48), (.t 49), (.t 50)], none⟩]) c_hand_net_settle_p2)
set_option maxRecDepth 100000 in
abbrev c_hand_net_settle_p4 : VC :=
  (.seq (.seq (.ops 0 [⟨(some 38), none, .ld1, [(.t 2)], (some [])⟩, ⟨(some 39), none, .ld1, [(.t 1)], (some [])⟩, ⟨(some 40), none, .nilck, [(.t 39)], none⟩, ⟨(some 41), none, (.fldA 10), [(.t 40)], none⟩, ⟨(some 42), none, .ld1, [(.t 41)], (some [1, 2, 3])⟩, ⟨(some 43), none, .len, [(.t 42)], none⟩, ⟨(some 44), none, (.bin .sub), [(.t 43), (.c (.lit (.int .i64 1)))], none⟩, ⟨(some 45), none, (.bin .eql), [(.t 38), (.t 44)], none⟩]) (.cond (.t 45) c_hand_net_settle_p1 .skip)) c_hand_net_settle_p3)
set_option maxRecDepth 100000 in
abbrev c_hand_net_settle_p5 : VC :=
  (.seq (.ops 2 [⟨(some 5), none, (.alloc 3 [(.lit (.int .i64 0))]), [], none⟩, ⟨none, none, (.st 1), [(.t 5), (.c (.lit (.int .i64 (-1))))], none⟩]) c_hand_net_settle_p4)
set_option maxRecDepth 100000 in
abbrev c_hand_net_settle_p6 : VC :=
  (.ops 0 [⟨(some 68), none, (.bin .add), [(.t 33), (.c (.lit (.int .i64 1)))], none⟩, ⟨(some 33), none, .mv, [(.t 68)], none⟩])
set_option maxRecDepth 100000 in
abbrev c_hand_net_settle_p7 : VC :=
  (.seq (.block 3 (.seq (.ops 6 [⟨(some 35), none, .mv, [(.t 33)], none⟩, ⟨(some 36), none, (.ixA 1), [(.t 31), (.t 33)], none⟩, ⟨(some 37), none, .ld1, [(.t 36)], none⟩, ⟨(some 4), none, (.alloc 3 [(.lit (.int .i64 0))]), [], none⟩, ⟨(some 3), none, .mv, [(.t 35)], none⟩, ⟨none, none, (.st 1), [(.t 4), (.t 37)], none⟩]) c_hand_net_settle_p5)) c_hand_net_settle_p6)
set_option maxRecDepth 100000 in
abbrev c_hand_net_settle_p8 : VC :=
  (.seq (.ops 0 [⟨(some 34), none, (.bin .lss), [(.t 33), (.t 32)], none⟩]) (.seq (.cond (.t 34) .skip (.exit 2)) c_hand_net_settle_p7))
set_option maxRecDepth 100000 in
abbrev c_hand_net_settle_p9 : VC :=
  (.ops 2 [⟨(some 2), none, (.alloc 3 [(.lit (.int .i64 0))]), [], none⟩, ⟨none, none, (.st 1), [(.t 2), (.t 69)], none⟩])
set_option maxRecDepth 100000 in
abbrev c_hand_net_settle_p10 : VC :=
  (.ops 0 [⟨(some 23), none, .ld1, [(.t 2)], none⟩, ⟨(some 24), none, (.bin .sub), [(.t 23), (.c (.lit (.int .i64 1)))], none⟩, ⟨none, none, (.st 1), [(.t 2), (.t 24)], none⟩])
set_option maxRecDepth 100000 in
abbrev c_hand_net_settle_p11 : VC :=
  (.seq (.seq (.ops 0 [⟨(some 69), none, .ld1, [(.t 2)], none⟩]) c_hand_net_settle_p9) c_hand_net_settle_p10)
set_option maxRecDepth 100000 in
abbrev c_hand_net_settle_p12 : VC :=
  (.seq (.block 1 (.seq (.ops 0 [⟨(some 25), none, .ld1, [(.t 1)], (some [])⟩, ⟨(some 26), none, .nilck, [(.t 25)], none⟩, ⟨(some 27), none, (.fldA 12), [(.t 26)], none⟩, ⟨(some 28), none, .ld1, [(.t 27)], (some [0, 1, 2])⟩, ⟨(some 29), none, .ld1, [(.t 2)], (some [])⟩, ⟨(some 30), none, (.ixA 1), [(.t 28), (.t 29)], none⟩, ⟨(some 31), none, .ld1, [(.t 30)], none⟩, ⟨(some 32), none, .len, [(.t 31)], none⟩, ⟨(some 33), none, .mv, [(.c (.lit (.int .i64 0)))], none⟩]) (.block 2 (.loop c_hand_net_settle_p8)))) c_hand_net_settle_p11)
set_option maxRecDepth 100000 in
abbrev c_hand_net_settle_p13 : VC :=
  (.seq (.seq (.ops 0 [⟨(some 21), none, .ld1, [(.t 2)], none⟩, ⟨(some 22), none, (.bin .geq), [(.t 21), (.c (.lit (.int .i64 0)))], none⟩]) (.cond (.t 22) .skip (.exit 0))) c_hand_net_settle_p12)
set_option maxRecDepth 100000 in
abbrev c_hand_net_settle_p14 : VC :=
  (.seq (.ops 8 [⟨(some 15), none, .ld1, [(.t 1)], none⟩, ⟨(some 16), none, .nilck, [(.t 15)], none⟩, ⟨(some 17), none, (.fldA 10), [(.t 16)], none⟩, ⟨(some 18), none, .ld1, [(.t 17)], none⟩, ⟨(some 19), none, .len, [(.t 18)], none⟩, ⟨(some 20), none, (.bin .sub), [(.t 19), (.c (.lit (.int .i64 1)))], none⟩, ⟨(some 2), none, (.alloc 3 [(.lit (.int .i64 0))]), [], none⟩, ⟨none, none, (.st 1), [(.t 2), (.t 20)], none⟩]) (.block 0 (.loop c_hand_net_settle_p13)))
set_option maxRecDepth 100000 in
abbrev c_hand_net_settle_p15 : VC :=
  (.seq (.ops 10 [⟨(some 6), none, .ld1, [(.t 1)], (some [])⟩, ⟨(some 7), none, .ld1, [(.t 1)], (some [])⟩, ⟨(some 8), none, .nilck, [(.t 7)], none⟩, ⟨(some 9), none, (.fldA 10), [(.t 8)], none⟩, ⟨(some 10), none, .ld1, [(.t 9)], (some [1, 2, 3])⟩, ⟨(some 11), none, .len, [(.t 10)], none⟩, ⟨(some 12), none, (.mk 22 1 24 [(.sl 0 [] .exact)]), [(.t 11), (.t 11)], (some [1, 2, 3, 4, 5])⟩, ⟨(some 13), none, .nilck, [(.t 6)], none⟩, ⟨(some 14), none, (.fldA 13), [(.t 13)], none⟩, ⟨none, none, (.st 1), [(.t 14), (.t 12)], none⟩]) c_hand_net_settle_p14)
set_option maxRecDepth 100000 in
def c_hand_net_settle : VC :=
  (.seq (.ops 1 [⟨(some 1), none, (.box 104), [(.t 0)], none⟩]) c_hand_net_settle_p15)
set_option maxRecDepth 100000 in
theorem k_hand_net_settle : Comp Try.prog nobx gtab 103 70 c_hand_net_settle [] := ⟨⟨Try.f103, _, Try.func103, rfl, rfl, by kernel_rfl, by kernel_rfl⟩⟩
set_option maxRecDepth 100000 in
abbrev c_hand_grips_1_a_p1 : VC :=
  (.ops 8 [⟨(some 22), none, .ld1, [(.t 4)], (some [])⟩, ⟨(some 23), none, .mv, [(.t 0)], none⟩, ⟨(some 24), none, .ld1, [(.t 1)], (some [])⟩, ⟨(some 25), none, (.callB 106), [(.t 24)], (some [2])⟩, ⟨(some 26), none, (.build [(.lit (.int .i64 0)), (.sl 0 [] .exact)] [(0, 1), (1, 1)]), [(.t 23), (.t 25)], none⟩, ⟨(some 27), none, (.mkslB 53 1 2 [(.lit (.int .i64 0)), (.sl 0 [] .exact)] [(0, 2)]), [(.t 26)], (some [1, 2, 3, 4])⟩, ⟨(some 28), none, (.appM 53 2 32), [(.t 22), (.t 27)], none⟩, ⟨none, none, (.st 1), [(.t 4), (.t 28)], none⟩])
set_option maxRecDepth 100000 in
abbrev c_hand_grips_1_a_p2 : VC :=
  (.seq (.seq (.ops 0 [⟨(some 18), none, (.ldA 10), [(.t 3)], none⟩, ⟨(some 19), none, (.ldA 3), [(.t 2)], none⟩, ⟨(some 20), none, .ld1, [(.t 1)], none⟩, ⟨(some 21), none, (.call 105), [(.t 18), (.t 19), (.t 20)], none⟩]) (.cond (.t 21) c_hand_grips_1_a_p1 .skip)) .ret)
set_option maxRecDepth 100000 in
abbrev c_hand_grips_1_a_p3 : VC :=
  (.seq (.ops 0 [⟨(some 59), none, (.fldA 0), [(.t 2)], none⟩, ⟨(some 60), none, .ld1, [(.t 59)], (some [0])⟩, ⟨(some 61), none, .mv, [(.t 9)], none⟩, ⟨(some 62), none, (.ixA 2), [(.t 60), (.t 61)], none⟩, ⟨(some 63), none, (.ldA 2), [(.t 62)], (some [0, 1, 2, 3])⟩, ⟨(some 64), none, (.fldA 0), [(.t 2)], none⟩, ⟨(some 65), none, .ld1, [(.t 64)], (some [5])⟩, ⟨(some 66), none, .mv, [(.t 7)], none⟩, ⟨(some 67), none, (.ixA 2), [(.t 65), (.t 66)], none⟩, ⟨(some 68), none, (.ldA 2), [(.t 67)], (some [5, 6, 7, 8])⟩, ⟨(some 69), none, .mv, [(.t 10)], none⟩, ⟨(some 70), none, .mv, [(.t 8)], none⟩, ⟨(some 71), none, (.call 108), [(.t 63), (.t 68), (.t 69), (.t 70)], none⟩, ⟨(some 72), none, (.un .not), [(.t 71)], none⟩]) (.cond (.t 72) (.exit 1) .skip))
set_option maxRecDepth 100000 in
abbrev c_hand_grips_1_a_p4 : VC :=
  (.ops 0 [⟨(some 73), none, (.bin .add), [(.t 54), (.c (.lit (.int .i64 1)))], none⟩, ⟨(some 54), none, .mv, [(.t 73)], none⟩])
set_option maxRecDepth 100000 in
abbrev c_hand_grips_1_a_p5 : VC :=
  (.seq (.block 3 (.seq (.ops 0 [⟨(some 56), none, .mv, [(.t 54)], none⟩, ⟨(some 57), none, (.ixA 1), [(.t 52), (.t 54)], none⟩, ⟨(some 58), none, .ld1, [(.t 57)], none⟩, ⟨(some 9), none, .mv, [(.t 56)], none⟩, ⟨(some 10), none, .mv, [(.t 58)], none⟩]) c_hand_grips_1_a_p3)) c_hand_grips_1_a_p4)
set_option maxRecDepth 100000 in
abbrev c_hand_grips_1_a_p6 : VC :=
  (.seq (.ops 0 [⟨(some 55), none, (.bin .lss), [(.t 54), (.t 53)], none⟩]) (.seq (.cond (.t 55) .skip (.exit 2)) c_hand_grips_1_a_p5))
set_option maxRecDepth 100000 in
abbrev c_hand_grips_1_a_p7 : VC :=
  (.ops 0 [⟨(some 81), none, .ld1, [(.t 1)], none⟩, ⟨(some 82), none, .mv, [(.t 7)], none⟩, ⟨(some 83), none, (.slc 1 false true), [(.t 81), (.t 82)], none⟩, ⟨none, none, (.st 1), [(.t 1), (.t 83)], none⟩])
set_option maxRecDepth 100000 in
abbrev c_hand_grips_1_a_p8 : VC :=
  (.seq (.ops 0 [⟨(some 78), none, .ld1, [(.t 5)], none⟩, ⟨(some 79), none, .mv, [(.t 0)], none⟩, ⟨(some 80), none, .callv, [(.t 78), (.t 79)], none⟩]) c_hand_grips_1_a_p7)
set_option maxRecDepth 100000 in
abbrev c_hand_grips_1_a_p9 : VC :=
  (.seq (.ops 5 [⟨(some 74), none, .ld1, [(.t 1)], none⟩, ⟨(some 75), none, .mv, [(.t 8)], none⟩, ⟨(some 76), none, (.mkslB 3 1 1 [(.lit (.int .i64 0))] [(0, 1)]), [(.t 75)], none⟩, ⟨(some 77), none, (.appM 3 1 8), [(.t 74), (.t 76)], none⟩, ⟨none, none, (.st 1), [(.t 1), (.t 77)], none⟩]) c_hand_grips_1_a_p8)
set_option maxRecDepth 100000 in
abbrev c_hand_grips_1_a_p10 : VC :=
  (.seq (.seq (.ops 0 [⟨(some 52), none, .ld1, [(.t 1)], none⟩, ⟨(some 53), none, .len, [(.t 52)], none⟩, ⟨(some 54), none, .mv, [(.c (.lit (.int .i64 0)))], none⟩]) (.block 2 (.loop c_hand_grips_1_a_p6))) c_hand_grips_1_a_p9)
set_option maxRecDepth 100000 in
abbrev c_hand_grips_1_a_p11 : VC :=
  (.ops 0 [⟨(some 39), none, .mv, [(.t 8)], none⟩, ⟨(some 40), none, (.bin .add), [(.t 39), (.c (.lit (.int .i64 1)))], none⟩, ⟨(some 8), none, .mv, [(.t 40)], none⟩])
set_option maxRecDepth 100000 in
abbrev c_hand_grips_1_a_p12 : VC :=
  (.seq (.block 1 (.seq (.seq (.ops 0 [⟨(some 41), none, (.ldA 10), [(.t 3)], (some [])⟩, ⟨(some 42), none, .mv, [(.t 0)], none⟩, ⟨(some 43), none, .mv, [(.t 8)], none⟩, ⟨(some 44), none, (.fldA 0), [(.t 2)], none⟩, ⟨(some 45), none, .ld1, [(.t 44)], (some [3])⟩, ⟨(some 46), none, .mv, [(.t 7)], none⟩, ⟨(some 47), none, (.ixA 2), [(.t 45), (.t 46)], none⟩, ⟨(some 48), none, (.fldA 1), [(.t 47)], none⟩, ⟨(some 49), none, .ld1, [(.t 48)], (some [3, 4, 5, 6, 7])⟩, ⟨(some 50), none, (.call 107), [(.t 41), (.t 42), (.t 43), (.t 49)], none⟩, ⟨(some 51), none, (.un .not), [(.t 50)], none⟩]) (.cond (.t 51) (.exit 1) .skip)) c_hand_grips_1_a_p10)) c_hand_grips_1_a_p11)
set_option maxRecDepth 100000 in
abbrev c_hand_grips_1_a_p13 : VC :=
  (.seq (.seq (.ops 0 [⟨(some 29), none, .mv, [(.t 8)], none⟩, ⟨(some 30), none, (.fldA 0), [(.t 3)], none⟩, ⟨(some 31), none, .ld1, [(.t 30)], none⟩, ⟨(some 32), none, .len, [(.t 31)], none⟩, ⟨(some 33), none, (.bin .leq), [(.t 29), (.t 32)], none⟩, ⟨(some 34), none, .mv, [(.t 33)], none⟩, ⟨(some 35), (some (34, true)), .ld1, [(.t 4)], none⟩, ⟨(some 36), (some (34, true)), .len, [(.t 35)], none⟩, ⟨(some 37), (some (34, true)), (.bin .leq), [(.t 36), (.c (.lit (.int .i64 200)))], none⟩, ⟨(some 38), none, .pick, [(.t 34), (.t 37), (.c (.lit (.bool false)))], none⟩]) (.cond (.t 38) .skip (.exit 0))) c_hand_grips_1_a_p12)
set_option maxRecDepth 100000 in
abbrev c_hand_grips_1_a_p14 : VC :=
  (.seq (.ops 0 [⟨(some 8), none, .mv, [(.c (.lit (.int .i64 1)))], none⟩]) (.block 0 (.loop c_hand_grips_1_a_p13)))
set_option maxRecDepth 100000 in
abbrev c_hand_grips_1_a_p15 : VC :=
  (.seq (.seq (.ops 0 [⟨(some 13), none, .mv, [(.t 7)], none⟩, ⟨(some 14), none, (.fldA 0), [(.t 2)], none⟩, ⟨(some 15), none, .ld1, [(.t 14)], none⟩, ⟨(some 16), none, .len, [(.t 15)], none⟩, ⟨(some 17), none, (.bin .eql), [(.t 13), (.t 16)], none⟩]) (.cond (.t 17) c_hand_grips_1_a_p2 .skip)) (.seq .skip c_hand_grips_1_a_p14))
set_option maxRecDepth 100000 in
def c_hand_grips_1_a : VC :=
  (.scope (.seq (.ops 0 [⟨(some 11), none, .ld1, [(.t 1)], none⟩, ⟨(some 12), none, .len, [(.t 11)], none⟩, ⟨(some 7), none, .mv, [(.t 12)], none⟩]) c_hand_grips_1_a_p15))
set_option maxRecDepth 100000 in
theorem k_hand_grips_1_a : Comp Try.prog (fun n => !([1000025].contains n)) gtab 104 84 c_hand_grips_1_a [] := ⟨⟨Try.f104, _, Try.func104, rfl, rfl, by kernel_rfl, by kernel_rfl⟩⟩
set_option maxRecDepth 100000 in
abbrev c_hand_spans_a_p1 : VC :=
  (.ops 0 [⟨(some 38), none, .mv, [(.t 10)], none⟩, ⟨(some 9), none, .mv, [(.t 38)], none⟩])
set_option maxRecDepth 100000 in
abbrev c_hand_spans_a_p2 : VC :=
  (.seq (.ops 0 [⟨(some 35), none, .mv, [(.t 11)], none⟩, ⟨(some 36), none, .mv, [(.t 7)], none⟩, ⟨(some 37), none, (.bin .eql), [(.t 35), (.t 36)], none⟩]) (.cond (.t 37) c_hand_spans_a_p1 .skip))
set_option maxRecDepth 100000 in
abbrev c_hand_spans_a_p3 : VC :=
  (.ops 0 [⟨(some 39), none, (.bin .add), [(.t 30), (.c (.lit (.int .i64 1)))], none⟩, ⟨(some 30), none, .mv, [(.t 39)], none⟩])
set_option maxRecDepth 100000 in
abbrev c_hand_spans_a_p4 : VC :=
  (.seq (.block 3 (.seq (.ops 0 [⟨(some 32), none, .mv, [(.t 30)], none⟩, ⟨(some 33), none, (.ixA 1), [(.t 28), (.t 30)], none⟩, ⟨(some 34), none, .ld1, [(.t 33)], none⟩, ⟨(some 10), none, .mv, [(.t 32)], none⟩, ⟨(some 11), none, .mv, [(.t 34)], none⟩]) c_hand_spans_a_p2)) c_hand_spans_a_p3)
set_option maxRecDepth 100000 in
abbrev c_hand_spans_a_p5 : VC :=
  (.seq (.ops 0 [⟨(some 31), none, (.bin .lss), [(.t 30), (.t 29)], none⟩]) (.seq (.cond (.t 31) .skip (.exit 2)) c_hand_spans_a_p4))
set_option maxRecDepth 100000 in
abbrev c_hand_spans_a_p6 : VC :=
  (.seq (.ops 0 [⟨(some 6), none, .mv, [(.c (.lit (.bool false)))], none⟩]) .ret)
set_option maxRecDepth 100000 in
abbrev c_hand_spans_a_p7 : VC :=
  (.seq (.ops 0 [⟨(some 6), none, .mv, [(.c (.lit (.bool false)))], none⟩]) .ret)
set_option maxRecDepth 100000 in
abbrev c_hand_spans_a_p8 : VC :=
  (.seq (.ops 0 [⟨(some 6), none, .mv, [(.c (.lit (.bool false)))], none⟩]) .ret)
set_option maxRecDepth 100000 in
abbrev c_hand_spans_a_p9 : VC :=
  (.seq (.ops 0 [⟨(some 87), none, (.fldA 0), [(.t 4)], none⟩, ⟨(some 88), none, .ld1, [(.t 87)], none⟩, ⟨(some 89), none, .mv, [(.t 8)], none⟩, ⟨(some 90), none, .mv, [(.t 9)], none⟩, ⟨(some 91), none, (.slc 2 true true), [(.t 88), (.t 89), (.t 90)], none⟩, ⟨(some 92), none, (.mkfn 133), [(.t 14)], none⟩, ⟨(some 93), none, (.call 120), [(.t 91), (.t 92)], none⟩]) (.cond (.t 93) c_hand_spans_a_p8 .skip))
set_option maxRecDepth 100000 in
abbrev c_hand_spans_a_p10 : VC :=
  (.seq (.seq (.ops 0 [⟨(some 83), none, (.fldA 2), [(.t 4)], none⟩, ⟨(some 84), none, .ld1, [(.t 83)], none⟩, ⟨(some 85), none, (.mkfn 132), [(.t 12), (.t 13)], none⟩, ⟨(some 86), none, (.call 85), [(.t 84), (.t 85)], none⟩]) (.cond (.t 86) c_hand_spans_a_p7 .skip)) c_hand_spans_a_p9)
set_option maxRecDepth 100000 in
abbrev c_hand_spans_a_p11 : VC :=
  (.seq (.ops 24 [⟨(some 65), none, (.fldA 0), [(.t 4)], none⟩, ⟨(some 66), none, .ld1, [(.t 65)], (some [0])⟩, ⟨(some 67), none, .mv, [(.t 8)], none⟩, ⟨(some 68), none, (.ixA 2), [(.t 66), (.t 67)], none⟩, ⟨(some 69), none, (.fldA 0), [(.t 68)], none⟩, ⟨(some 70), none, .ld1, [(.t 69)], (some [0, 1, 2, 3, 4])⟩, ⟨(some 71), none, (.fldA 0), [(.t 4)], none⟩, ⟨(some 72), none, .ld1, [(.t 71)], (some [6])⟩, ⟨(some 73), none, .mv, [(.t 9)], none⟩, ⟨(some 74), none, (.ixA 2), [(.t 72), (.t 73)], none⟩, ⟨(some 75), none, (.fldA 0), [(.t 74)], none⟩, ⟨(some 76), none, .ld1, [(.t 75)], (some [6, 7, 8, 9, 10])⟩, ⟨(some 77), none, (.fldA 0), [(.t 4)], none⟩, ⟨(some 78), none, .ld1, [(.t 77)], (some [12])⟩, ⟨(some 79), none, .mv, [(.t 8)], none⟩, ⟨(some 80), none, (.ixA 2), [(.t 78), (.t 79)], none⟩, ⟨(some 81), none, (.fldA 1), [(.t 80)], none⟩, ⟨(some 82), none, .ld1, [(.t 81)], (some [12, 13, 14, 15, 16])⟩, ⟨(some 12), none, (.alloc 3 [(.lit (.int .i64 0))]), [], (some [])⟩, ⟨(some 13), none, (.alloc 3 [(.lit (.int .i64 0))]), [], (some [])⟩, ⟨(some 14), none, (.alloc 3 [(.lit (.int .i64 0))]), [], (some [])⟩, ⟨none, none, (.st 1), [(.t 12), (.t 70)], (some [18])⟩, ⟨none, none, (.st 1), [(.t 13), (.t 76)], (some [19])⟩, ⟨none, none, (.st 1), [(.t 14), (.t 82)], none⟩]) c_hand_spans_a_p10)
set_option maxRecDepth 100000 in
abbrev c_hand_spans_a_p12 : VC :=
  (.seq (.seq (.ops 0 [⟨(some 43), none, (.fldA 2), [(.t 3)], none⟩, ⟨(some 44), none, .ld1, [(.t 43)], none⟩, ⟨(some 45), none, .mv, [(.t 7)], none⟩, ⟨(some 46), none, (.bin .sub), [(.t 45), (.c (.lit (.int .i64 1)))], none⟩, ⟨(some 47), none, (.ixA 1), [(.t 44), (.t 46)], none⟩, ⟨(some 48), none, .ld1, [(.t 47)], none⟩, ⟨(some 49), none, (.un .not), [(.t 48)], none⟩, ⟨(some 50), none, .mv, [(.t 49)], none⟩, ⟨(some 51), (some (50, false)), (.fldA 0), [(.t 4)], none⟩, ⟨(some 52), (some (50, false)), .ld1, [(.t 51)], (some [0, 1, 2, 3, 4, 5, 6, 7, 8])⟩, ⟨(some 53), (some (50, false)), .mv, [(.t 8)], none⟩, ⟨(some 54), (some (50, false)), (.ixA 2), [(.t 52), (.t 53)], none⟩, ⟨(some 55), (some (50, false)), (.fldA 1), [(.t 54)], none⟩, ⟨(some 56), (some (50, false)), .ld1, [(.t 55)], (some [0, 1, 2, 3, 4, 5, 6, 7, 8, 9, 10, 11, 12])⟩, ⟨(some 57), (some (50, false)), (.fldA 0), [(.t 4)], none⟩, ⟨(some 58), (some (50, false)), .ld1, [(.t 57)], (some [0, 1, 2, 3, 4, 5, 6, 7, 14])⟩, ⟨(some 59), (some (50, false)), .mv, [(.t 9)], none⟩, ⟨(some 60), (some (50, false)), (.ixA 2), [(.t 58), (.t 59)], none⟩, ⟨(some 61), (some (50, false)), (.fldA 1), [(.t 60)], none⟩, ⟨(some 62), (some (50, false)), .ld1, [(.t 61)], (some [0, 1, 2, 3, 4, 5, 6, 7, 14, 15, 16, 17, 18])⟩, ⟨(some 63), (some (50, false)), (.bin .neq), [(.t 56), (.t 62)], none⟩, ⟨(some 64), none, .pick, [(.t 50), (.c (.lit (.bool true))), (.t 63)], none⟩]) (.cond (.t 64) c_hand_spans_a_p6 .skip)) c_hand_spans_a_p11)
set_option maxRecDepth 100000 in
abbrev c_hand_spans_a_p13 : VC :=
  (.seq (.seq (.ops 0 [⟨(some 40), none, .mv, [(.t 8)], none⟩, ⟨(some 41), none, .mv, [(.t 9)], none⟩, ⟨(some 42), none, (.bin .eql), [(.t 40), (.t 41)], none⟩]) (.cond (.t 42) (.exit 1) .skip)) c_hand_spans_a_p12)
set_option maxRecDepth 100000 in
abbrev c_hand_spans_a_p14 : VC :=
  (.seq (.seq (.ops 0 [⟨(some 28), none, .mv, [(.t 2)], none⟩, ⟨(some 29), none, .len, [(.t 28)], none⟩, ⟨(some 30), none, .mv, [(.c (.lit (.int .i64 0)))], none⟩]) (.block 2 (.loop c_hand_spans_a_p5))) c_hand_spans_a_p13)
set_option maxRecDepth 100000 in
abbrev c_hand_spans_a_p15 : VC :=
  (.seq (.ops 0 [⟨(some 27), none, .mv, [(.t 8)], none⟩, ⟨(some 9), none, .mv, [(.t 27)], none⟩]) c_hand_spans_a_p14)
set_option maxRecDepth 100000 in
abbrev c_hand_spans_a_p16 : VC :=
  (.seq (.seq (.ops 0 [⟨(some 25), none, .mv, [(.t 8)], none⟩, ⟨(some 26), none, (.bin .lss), [(.t 25), (.c (.lit (.int .i64 0)))], none⟩]) (.cond (.t 26) (.exit 1) .skip)) c_hand_spans_a_p15)
set_option maxRecDepth 100000 in
abbrev c_hand_spans_a_p17 : VC :=
  (.ops 0 [⟨(some 20), none, .mv, [(.t 7)], none⟩, ⟨(some 21), none, (.bin .add), [(.t 20), (.c (.lit (.int .i64 1)))], none⟩, ⟨(some 7), none, .mv, [(.t 21)], none⟩])
set_option maxRecDepth 100000 in
abbrev c_hand_spans_a_p18 : VC :=
  (.seq (.block 1 (.seq (.ops 0 [⟨(some 22), none, .mv, [(.t 2)], none⟩, ⟨(some 23), none, .mv, [(.t 7)], none⟩, ⟨(some 24), none, (.call 92), [(.t 22), (.t 23)], none⟩, ⟨(some 8), none, .mv, [(.t 24)], none⟩]) c_hand_spans_a_p16)) c_hand_spans_a_p17)
set_option maxRecDepth 100000 in
abbrev c_hand_spans_a_p19 : VC :=
  (.seq (.seq (.ops 0 [⟨(some 15), none, .mv, [(.t 7)], none⟩, ⟨(some 16), none, (.fldA 0), [(.t 3)], none⟩, ⟨(some 17), none, .ld1, [(.t 16)], none⟩, ⟨(some 18), none, .len, [(.t 17)], none⟩, ⟨(some 19), none, (.bin .leq), [(.t 15), (.t 18)], none⟩]) (.cond (.t 19) .skip (.exit 0))) c_hand_spans_a_p18)
set_option maxRecDepth 100000 in
abbrev c_hand_spans_a_p20 : VC :=
  (.seq (.ops 0 [⟨(some 6), none, .mv, [(.c (.lit (.bool true)))], none⟩]) .ret)
set_option maxRecDepth 100000 in
abbrev c_hand_spans_a_p21 : VC :=
  (.seq (.seq (.ops 0 [⟨(some 7), none, .mv, [(.c (.lit (.int .i64 1)))], none⟩]) (.block 0 (.loop c_hand_spans_a_p19))) c_hand_spans_a_p20)
set_option maxRecDepth 100000 in
def c_hand_spans_a : VC :=
  (.seq (.ops 3 [⟨(some 3), none, (.box 25), [(.t 0)], none⟩, ⟨(some 4), none, (.box 47), [(.t 1)], none⟩, ⟨(some 6), none, .mv, [(.c (.lit (.bool false)))], none⟩]) c_hand_spans_a_p21)
set_option maxRecDepth 100000 in
theorem k_hand_spans_a : Comp Try.prog allbx gtab 105 94 c_hand_spans_a [(.t 6)] := ⟨⟨Try.f105, _, Try.func105, rfl, rfl, by kernel_rfl, by kernel_rfl⟩⟩
set_option maxRecDepth 100000 in
abbrev c_slices_Clone_int_int_a_p1 : VC :=
  (.seq (.ops 0 [⟨(some 2), none, .mv, [(.c (.sl 0 [] .exact))], none⟩]) .ret)
set_option maxRecDepth 100000 in
abbrev c_slices_Clone_int_int_a_p2 : VC :=
  (.seq (.ops 4 [⟨(some 5), none, (.mkslB 3 0 1 [] []), [], none⟩, ⟨(some 6), none, .mv, [(.t 0)], none⟩, ⟨(some 7), none, (.appM 3 1 8), [(.t 5), (.t 6)], none⟩, ⟨(some 2), none, .mv, [(.t 7)], none⟩]) .ret)
set_option maxRecDepth 100000 in
abbrev c_slices_Clone_int_int_a_p3 : VC :=
  (.seq (.seq (.ops 0 [⟨(some 3), none, .mv, [(.t 0)], none⟩, ⟨(some 4), none, (.eqN false), [(.t 3)], none⟩]) (.cond (.t 4) c_slices_Clone_int_int_a_p1 .skip)) c_slices_Clone_int_int_a_p2)
set_option maxRecDepth 100000 in
def c_slices_Clone_int_int_a : VC :=
  (.seq (.ops 0 [⟨(some 2), none, .mv, [(.c (.sl 0 [] .exact))], none⟩]) c_slices_Clone_int_int_a_p3)
set_option maxRecDepth 100000 in
theorem k_slices_Clone_int_int_a : Comp Try.prog allbx gtab 106 8 c_slices_Clone_int_int_a [(.t 2)] := ⟨⟨Try.f106, _, Try.func106, rfl, rfl, by kernel_rfl, by kernel_rfl⟩⟩
set_option maxRecDepth 100000 in
abbrev c_hand_places_a_p1 : VC :=
  (.ops 9 [⟨(some 20), none, .mv, [(.t 6)], none⟩, ⟨(some 21), none, (.fldA 0), [(.t 3)], none⟩, ⟨(some 22), none, .ld1, [(.t 21)], none⟩, ⟨(some 23), none, .mv, [(.t 7)], none⟩, ⟨(some 24), none, (.ixA 2), [(.t 22), (.t 23)], none⟩, ⟨(some 25), none, (.ldA 2), [(.t 24)], none⟩, ⟨(some 26), none, (.mkslB 92 1 2 [(.lit (.int .i64 0)), (.lit (.int .i64 0))] [(0, 2)]), [(.t 25)], none⟩, ⟨(some 27), none, (.appM 92 2 16), [(.t 20), (.t 26)], none⟩, ⟨(some 6), none, .mv, [(.t 27)], none⟩])
set_option maxRecDepth 100000 in
abbrev c_hand_places_a_p2 : VC :=
  (.seq (.ops 0 [⟨(some 17), none, .mv, [(.t 8)], none⟩, ⟨(some 18), none, .mv, [(.t 2)], none⟩, ⟨(some 19), none, (.bin .eql), [(.t 17), (.t 18)], none⟩]) (.cond (.t 19) c_hand_places_a_p1 .skip))
set_option maxRecDepth 100000 in
abbrev c_hand_places_a_p3 : VC :=
  (.ops 0 [⟨(some 28), none, (.bin .add), [(.t 12), (.c (.lit (.int .i64 1)))], none⟩, ⟨(some 12), none, .mv, [(.t 28)], none⟩])
set_option maxRecDepth 100000 in
abbrev c_hand_places_a_p4 : VC :=
  (.seq (.block 1 (.seq (.ops 0 [⟨(some 14), none, .mv, [(.t 12)], none⟩, ⟨(some 15), none, (.ixA 1), [(.t 10), (.t 12)], none⟩, ⟨(some 16), none, .ld1, [(.t 15)], none⟩, ⟨(some 7), none, .mv, [(.t 14)], none⟩, ⟨(some 8), none, .mv, [(.t 16)], none⟩]) c_hand_places_a_p2)) c_hand_places_a_p3)
set_option maxRecDepth 100000 in
abbrev c_hand_places_a_p5 : VC :=
  (.seq (.ops 0 [⟨(some 13), none, (.bin .lss), [(.t 12), (.t 11)], none⟩]) (.seq (.cond (.t 13) .skip (.exit 0)) c_hand_places_a_p4))
set_option maxRecDepth 100000 in
abbrev c_hand_places_a_p6 : VC :=
  (.seq (.ops 0 [⟨(some 29), none, .mv, [(.t 6)], none⟩, ⟨(some 6), none, .mv, [(.t 29)], none⟩]) .ret)
set_option maxRecDepth 100000 in
abbrev c_hand_places_a_p7 : VC :=
  (.seq (.seq (.ops 0 [⟨(some 9), none, (.fldA 1), [(.t 4)], none⟩, ⟨(some 10), none, .ld1, [(.t 9)], none⟩, ⟨(some 11), none, .len, [(.t 10)], none⟩, ⟨(some 12), none, .mv, [(.c (.lit (.int .i64 0)))], none⟩]) (.block 0 (.loop c_hand_places_a_p5))) c_hand_places_a_p6)
set_option maxRecDepth 100000 in
def c_hand_places_a : VC :=
  (.seq (.ops 3 [⟨(some 3), none, (.box 47), [(.t 0)], none⟩, ⟨(some 4), none, (.box 53), [(.t 1)], none⟩, ⟨(some 6), none, .mv, [(.c (.sl 0 [] .exact))], none⟩]) c_hand_places_a_p7)
set_option maxRecDepth 100000 in
theorem k_hand_places_a : Comp Try.prog allbx gtab 117 30 c_hand_places_a [(.t 6)] := ⟨⟨Try.f117, _, Try.func117, rfl, rfl, by kernel_rfl, by kernel_rfl⟩⟩
set_option maxRecDepth 100000 in
abbrev c_hand_distance_a_p1 : VC :=
  (.seq (.ops 0 [⟨(some 5), none, .mv, [(.t 0)], none⟩, ⟨(some 6), none, .mv, [(.t 1)], none⟩, ⟨(some 7), none, (.bin .sub), [(.t 5), (.t 6)], none⟩, ⟨(some 8), none, .mv, [(.t 1)], none⟩, ⟨(some 9), none, .mv, [(.t 0)], none⟩, ⟨(some 10), none, (.bin .sub), [(.t 8), (.t 9)], none⟩, ⟨(some 11), none, .mx, [(.t 7), (.t 10)], none⟩, ⟨(some 4), none, .mv, [(.t 11)], none⟩]) .ret)
set_option maxRecDepth 100000 in
def c_hand_distance_a : VC :=
  (.seq (.ops 0 [⟨(some 4), none, .mv, [(.c (.lit (.int .i64 0)))], none⟩]) c_hand_distance_a_p1)
set_option maxRecDepth 100000 in
theorem k_hand_distance_a : Comp Try.prog allbx gtab 118 12 c_hand_distance_a [(.t 4)] := ⟨⟨Try.f118, _, Try.func118, rfl, rfl, by kernel_rfl, by kernel_rfl⟩⟩
set_option maxRecDepth 100000 in
abbrev c_slices_ContainsFunc_api_Place_api_Place_a_p1 : VC :=
  (.seq (.ops 0 [⟨(some 5), none, .mv, [(.t 0)], none⟩, ⟨(some 6), none, .mv, [(.t 1)], none⟩, ⟨(some 7), none, (.call 129), [(.t 5), (.t 6)], none⟩, ⟨(some 8), none, (.bin .geq), [(.t 7), (.c (.lit (.int .i64 0)))], none⟩, ⟨(some 4), none, .mv, [(.t 8)], none⟩]) .ret)
set_option maxRecDepth 100000 in
def c_slices_ContainsFunc_api_Place_api_Place_a : VC :=
  (.seq (.ops 0 [⟨(some 4), none, .mv, [(.c (.lit (.bool false)))], none⟩]) c_slices_ContainsFunc_api_Place_api_Place_a_p1)
set_option maxRecDepth 100000 in
theorem k_slices_ContainsFunc_api_Place_api_Place_a : Comp Try.prog allbx gtab 120 9 c_slices_ContainsFunc_api_Place_api_Place_a [(.t 4)] := ⟨⟨Try.f120, _, Try.func120, rfl, rfl, by kernel_rfl, by kernel_rfl⟩⟩
set_option maxRecDepth 100000 in
abbrev c_hand_step_1_a_p1 : VC :=
  (.seq (.ops 0 [⟨(some 4), none, .ld1, [(.t 1)], none⟩, ⟨(some 5), none, (.ldA 2), [(.t 2)], none⟩, ⟨(some 6), none, (.call 122), [(.t 4), (.t 5)], none⟩, ⟨(some 3), none, .mv, [(.t 6)], none⟩]) .ret)
set_option maxRecDepth 100000 in
def c_hand_step_1_a : VC :=
  (.seq (.ops 2 [⟨(some 2), none, (.box 92), [(.t 0)], none⟩, ⟨(some 3), none, .mv, [(.c (.lit (.bool false)))], none⟩]) c_hand_step_1_a_p1)
set_option maxRecDepth 100000 in
theorem k_hand_step_1_a : Comp Try.prog allbx gtab 121 7 c_hand_step_1_a [(.t 3)] := ⟨⟨Try.f121, _, Try.func121, rfl, rfl, by kernel_rfl, by kernel_rfl⟩⟩
set_option maxRecDepth 100000 in
abbrev c_slices_Contains_api_Place_api_Place_a_p1 : VC :=
  (.seq (.ops 0 [⟨(some 5), none, .mv, [(.t 0)], none⟩, ⟨(some 6), none, (.ldA 2), [(.t 3)], none⟩, ⟨(some 7), none, (.call 136), [(.t 5), (.t 6)], none⟩, ⟨(some 8), none, (.bin .geq), [(.t 7), (.c (.lit (.int .i64 0)))], none⟩, ⟨(some 4), none, .mv, [(.t 8)], none⟩]) .ret)
set_option maxRecDepth 100000 in
def c_slices_Contains_api_Place_api_Place_a : VC :=
  (.seq (.ops 2 [⟨(some 3), none, (.box 92), [(.t 1)], none⟩, ⟨(some 4), none, .mv, [(.c (.lit (.bool false)))], none⟩]) c_slices_Contains_api_Place_api_Place_a_p1)
set_option maxRecDepth 100000 in
theorem k_slices_Contains_api_Place_api_Place_a : Comp Try.prog allbx gtab 122 9 c_slices_Contains_api_Place_api_Place_a [(.t 4)] := ⟨⟨Try.f122, _, Try.func122, rfl, rfl, by kernel_rfl, by kernel_rfl⟩⟩
set_option maxRecDepth 100000 in
abbrev c_slices_Index_int_int_a_p1 : VC :=
  (.seq (.ops 0 [⟨(some 17), none, .mv, [(.t 5)], none⟩, ⟨(some 4), none, .mv, [(.t 17)], none⟩]) .ret)
set_option maxRecDepth 100000 in
abbrev c_slices_Index_int_int_a_p2 : VC :=
  (.seq (.ops 0 [⟨(some 11), none, .mv, [(.t 1)], none⟩, ⟨(some 12), none, .mv, [(.t 0)], none⟩, ⟨(some 13), none, .mv, [(.t 5)], none⟩, ⟨(some 14), none, (.ixA 1), [(.t 12), (.t 13)], none⟩, ⟨(some 15), none, .ld1, [(.t 14)], none⟩, ⟨(some 16), none, (.bin .eql), [(.t 11), (.t 15)], none⟩]) (.cond (.t 16) c_slices_Index_int_int_a_p1 .skip))
set_option maxRecDepth 100000 in
abbrev c_slices_Index_int_int_a_p3 : VC :=
  (.ops 0 [⟨(some 18), none, (.bin .add), [(.t 8), (.c (.lit (.int .i64 1)))], none⟩, ⟨(some 8), none, .mv, [(.t 18)], none⟩])
set_option maxRecDepth 100000 in
abbrev c_slices_Index_int_int_a_p4 : VC :=
  (.seq (.block 1 (.seq (.ops 0 [⟨(some 10), none, .mv, [(.t 8)], none⟩, ⟨(some 5), none, .mv, [(.t 10)], none⟩]) c_slices_Index_int_int_a_p2)) c_slices_Index_int_int_a_p3)
set_option maxRecDepth 100000 in
abbrev c_slices_Index_int_int_a_p5 : VC :=
  (.seq (.cond (.t 9) .skip (.exit 0)) c_slices_Index_int_int_a_p4)
set_option maxRecDepth 100000 in
abbrev c_slices_Index_int_int_a_p6 : VC :=
  (.seq (.ops 0 [⟨(some 9), none, (.bin .lss), [(.t 8), (.t 7)], none⟩]) c_slices_Index_int_int_a_p5)
set_option maxRecDepth 100000 in
abbrev c_slices_Index_int_int_a_p7 : VC :=
  (.seq (.ops 0 [⟨(some 4), none, .mv, [(.c (.lit (.int .i64 (-1))))], none⟩]) .ret)
set_option maxRecDepth 100000 in
abbrev c_slices_Index_int_int_a_p8 : VC :=
  (.seq (.seq (.ops 0 [⟨(some 6), none, .mv, [(.t 0)], none⟩, ⟨(some 7), none, .len, [(.t 6)], none⟩, ⟨(some 8), none, .mv, [(.c (.lit (.int .i64 0)))], none⟩]) (.block 0 (.loop c_slices_Index_int_int_a_p6))) c_slices_Index_int_int_a_p7)
set_option maxRecDepth 100000 in
def c_slices_Index_int_int_a : VC :=
  (.seq (.ops 0 [⟨(some 4), none, .mv, [(.c (.lit (.int .i64 0)))], none⟩]) c_slices_Index_int_int_a_p8)
set_option maxRecDepth 100000 in
theorem k_slices_Index_int_int_a : Comp Try.prog allbx gtab 92 19 c_slices_Index_int_int_a [(.t 4)] := ⟨⟨Try.f92, _, Try.func92, rfl, rfl, by kernel_rfl, by kernel_rfl⟩⟩
set_option maxRecDepth 100000 in
abbrev c_slices_ContainsFunc_int_int_a_p1 : VC :=
  (.seq (.ops 0 [⟨(some 5), none, .mv, [(.t 0)], none⟩, ⟨(some 6), none, .mv, [(.t 1)], none⟩, ⟨(some 7), none, (.call 125), [(.t 5), (.t 6)], none⟩, ⟨(some 8), none, (.bin .geq), [(.t 7), (.c (.lit (.int .i64 0)))], none⟩, ⟨(some 4), none, .mv, [(.t 8)], none⟩]) .ret)
set_option maxRecDepth 100000 in
def c_slices_ContainsFunc_int_int_a : VC :=
  (.seq (.ops 0 [⟨(some 4), none, .mv, [(.c (.lit (.bool false)))], none⟩]) c_slices_ContainsFunc_int_int_a_p1)
set_option maxRecDepth 100000 in
theorem k_slices_ContainsFunc_int_int_a : Comp Try.prog allbx gtab 85 9 c_slices_ContainsFunc_int_int_a [(.t 4)] := ⟨⟨Try.f85, _, Try.func85, rfl, rfl, by kernel_rfl, by kernel_rfl⟩⟩
set_option maxRecDepth 100000 in
abbrev c_hand_net_step_a_p1 : VC :=
  (.seq (.ops 0 [⟨(some 10), none, .mv, [(.t 0)], none⟩, ⟨(some 11), none, .nilck, [(.t 10)], none⟩, ⟨(some 12), none, (.fldA 0), [(.t 11)], none⟩, ⟨(some 13), none, (.ldA 10), [(.t 12)], (some [0, 1, 2])⟩, ⟨(some 14), none, .mv, [(.t 0)], none⟩, ⟨(some 15), none, .nilck, [(.t 14)], none⟩, ⟨(some 16), none, (.fldA 10), [(.t 15)], none⟩, ⟨(some 17), none, .ld1, [(.t 16)], (some [4, 5, 6])⟩, ⟨(some 18), none, .mv, [(.t 1)], none⟩, ⟨(some 19), none, (.ixA 3), [(.t 17), (.t 18)], none⟩, ⟨(some 20), none, (.ldA 3), [(.t 19)], (some [4, 5, 6, 7, 8, 9])⟩, ⟨(some 21), none, .mv, [(.t 0)], none⟩, ⟨(some 22), none, .nilck, [(.t 21)], none⟩, ⟨(some 23), none, (.fldA 11), [(.t 22)], none⟩, ⟨(some 24), none, .ld1, [(.t 23)], (some [11, 12, 13])⟩, ⟨(some 25), none, .mv, [(.t 1)], none⟩, ⟨(some 26), none, (.ixA 1), [(.t 24), (.t 25)], none⟩, ⟨(some 27), none, .ld1, [(.t 26)], (some [11, 12, 13, 14, 15, 16])⟩, ⟨(some 28), none, .mv, [(.t 2)], none⟩, ⟨(some 29), none, (.ixA 2), [(.t 27), (.t 28)], none⟩, ⟨(some 30), none, (.ldA 2), [(.t 29)], (some [11, 12, 13, 14, 15, 16, 17, 18, 19])⟩, ⟨(some 31), none, .mv, [(.t 0)], none⟩, ⟨(some 32), none, .nilck, [(.t 31)], none⟩, ⟨(some 33), none, (.fldA 10), [(.t 32)], none⟩, ⟨(some 34), none, .ld1, [(.t 33)], (some [21, 22, 23])⟩, ⟨(some 35), none, .mv, [(.t 1)], none⟩, ⟨(some 36), none, (.bin .add), [(.t 35), (.c (.lit (.int .i64 1)))], none⟩, ⟨(some 37), none, (.ixA 3), [(.t 34), (.t 36)], none⟩, ⟨(some 38), none, (.ldA 3), [(.t 37)], (some [21, 22, 23, 24, 25, 26, 27])⟩, ⟨(some 39), none, .mv, [(.t 0)], none⟩, ⟨(some 40), none, .nilck, [(.t 39)], none⟩, ⟨(some 41), none, (.fldA 11), [(.t 40)], none⟩, ⟨(some 42), none, .ld1, [(.t 41)], (some [29, 30, 31])⟩, ⟨(some 43), none, .mv, [(.t 1)], none⟩, ⟨(some 44), none, (.bin .add), [(.t 43), (.c (.lit (.int .i64 1)))], none⟩, ⟨(some 45), none, (.ixA 1), [(.t 42), (.t 44)], none⟩, ⟨(some 46), none, .ld1, [(.t 45)], (some [29, 30, 31, 32, 33, 34, 35])⟩, ⟨(some 47), none, .mv, [(.t 3)], none⟩, ⟨(some 48), none, (.ixA 2), [(.t 46), (.t 47)], none⟩, ⟨(some 49), none, (.ldA 2), [(.t 48)], (some [29, 30, 31, 32, 33, 34, 35, 36, 37, 38])⟩, ⟨(some 50), none, (.call 83), [(.t 13), (.t 20), (.t 30), (.t 38), (.t 49)], none⟩, ⟨(some 51), none, (.ext 0), [(.t 50)], none⟩, ⟨(some 52), none, (.ext 1), [(.t 50)], none⟩, ⟨(some 8), none, .mv, [(.t 51)], none⟩, ⟨(some 9), none, .mv, [(.t 52)], none⟩]) .ret)
set_option maxRecDepth 100000 in
def c_hand_net_step_a : VC :=
  (.seq (.ops 0 [⟨(some 8), none, .mv, [(.c (.lit (.int .i64 0)))], none⟩, ⟨(some 9), none, .mv, [(.c (.lit (.bool false)))], none⟩]) c_hand_net_step_a_p1)
set_option maxRecDepth 100000 in
theorem k_hand_net_step_a : Comp Try.prog allbx gtab 94 53 c_hand_net_step_a [(.t 8), (.t 9)] := ⟨⟨Try.f94, _, Try.func94, rfl, rfl, by kernel_rfl, by kernel_rfl⟩⟩
set_option maxRecDepth 100000 in
abbrev c_slices_IndexFunc_int_int_a_p1 : VC :=
  (.seq (.ops 0 [⟨(some 17), none, .mv, [(.t 5)], none⟩, ⟨(some 4), none, .mv, [(.t 17)], none⟩]) .ret)
set_option maxRecDepth 100000 in
abbrev c_slices_IndexFunc_int_int_a_p2 : VC :=
  (.seq (.ops 0 [⟨(some 11), none, .mv, [(.t 1)], none⟩, ⟨(some 12), none, .mv, [(.t 0)], none⟩, ⟨(some 13), none, .mv, [(.t 5)], none⟩, ⟨(some 14), none, (.ixA 1), [(.t 12), (.t 13)], none⟩, ⟨(some 15), none, .ld1, [(.t 14)], none⟩, ⟨(some 16), none, .callv, [(.t 11), (.t 15)], none⟩]) (.cond (.t 16) c_slices_IndexFunc_int_int_a_p1 .skip))
set_option maxRecDepth 100000 in
abbrev c_slices_IndexFunc_int_int_a_p3 : VC :=
  (.ops 0 [⟨(some 18), none, (.bin .add), [(.t 8), (.c (.lit (.int .i64 1)))], none⟩, ⟨(some 8), none, .mv, [(.t 18)], none⟩])
set_option maxRecDepth 100000 in
abbrev c_slices_IndexFunc_int_int_a_p4 : VC :=
  (.seq (.block 1 (.seq (.ops 0 [⟨(some 10), none, .mv, [(.t 8)], none⟩, ⟨(some 5), none, .mv, [(.t 10)], none⟩]) c_slices_IndexFunc_int_int_a_p2)) c_slices_IndexFunc_int_int_a_p3)
set_option maxRecDepth 100000 in
abbrev c_slices_IndexFunc_int_int_a_p5 : VC :=
  (.seq (.cond (.t 9) .skip (.exit 0)) c_slices_IndexFunc_int_int_a_p4)
set_option maxRecDepth 100000 in
abbrev c_slices_IndexFunc_int_int_a_p6 : VC :=
  (.seq (.ops 0 [⟨(some 9), none, (.bin .lss), [(.t 8), (.t 7)], none⟩]) c_slices_IndexFunc_int_int_a_p5)
set_option maxRecDepth 100000 in
abbrev c_slices_IndexFunc_int_int_a_p7 : VC :=
  (.seq (.ops 0 [⟨(some 4), none, .mv, [(.c (.lit (.int .i64 (-1))))], none⟩]) .ret)
set_option maxRecDepth 100000 in
abbrev c_slices_IndexFunc_int_int_a_p8 : VC :=
  (.seq (.seq (.ops 0 [⟨(some 6), none, .mv, [(.t 0)], none⟩, ⟨(some 7), none, .len, [(.t 6)], none⟩, ⟨(some 8), none, .mv, [(.c (.lit (.int .i64 0)))], none⟩]) (.block 0 (.loop c_slices_IndexFunc_int_int_a_p6))) c_slices_IndexFunc_int_int_a_p7)
set_option maxRecDepth 100000 in
def c_slices_IndexFunc_int_int_a : VC :=
  (.seq (.ops 0 [⟨(some 4), none, .mv, [(.c (.lit (.int .i64 0)))], none⟩]) c_slices_IndexFunc_int_int_a_p8)
set_option maxRecDepth 100000 in
theorem k_slices_IndexFunc_int_int_a : Comp Try.prog allbx gtab 125 19 c_slices_IndexFunc_int_int_a [(.t 4)] := ⟨⟨Try.f125, _, Try.func125, rfl, rfl, by kernel_rfl, by kernel_rfl⟩⟩
end Go.Proofs.Ytojjdkoglhecbaa
