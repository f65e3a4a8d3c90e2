/- Functions of the program, as code on values by numbers: printed by a program from the program that was given, and held against it here. -/
import Derived.Test.YtojjdkoglhecbaaG0
namespace Go.Proofs.Ytojjdkoglhecbaa
open Go.RowKit

set_option maxRecDepth 100000 in
abbrev c_theorbolaw06_works_p1 : VC :=
  (.seq (.ops 0 [⟨(some 19), none, .mv, [(.t 4)], none⟩, ⟨(some 20), none, (.bin .eql), [(.t 19), (.c (.lit (.int .i64 0)))], none⟩, ⟨(some 21), none, .mv, [(.t 20)], none⟩, ⟨(some 22), (some (21, true)), (.fldA 1), [(.t 3)], none⟩, ⟨(some 23), (some (21, true)), .ld1, [(.t 22)], none⟩, ⟨(some 24), (some (21, true)), (.bin .eql), [(.t 23), (.c (.lit (.int .i64 0)))], none⟩, ⟨(some 25), none, .pick, [(.t 21), (.t 24), (.c (.lit (.bool false)))], none⟩, ⟨(some 26), none, .mv, [(.t 25)], none⟩, ⟨(some 27), (some (26, true)), (.fldA 0), [(.t 3)], none⟩, ⟨(some 28), (some (26, true)), .ld1, [(.t 27)], none⟩, ⟨(some 29), (some (26, true)), (.mksl 1 1 [(.lit (.int .i64 0))] [(0, 1)]), [(.c (.lit (.int .i64 1)))], none⟩, ⟨(some 30), (some (26, true)), (.build [(.lit (.int .i64 0)), (.sl 0 [] .exact)] [(0, 1), (1, 1)]), [(.c (.lit (.int .i64 1))), (.t 29)], none⟩, ⟨(some 31), (some (26, true)), (.mksl 1 1 [(.lit (.int .i64 0))] [(0, 1)]), [(.c (.lit (.int .i64 3)))], none⟩, ⟨(some 32), (some (26, true)), (.build [(.lit (.int .i64 0)), (.sl 0 [] .exact)] [(0, 1), (1, 1)]), [(.c (.lit (.int .i64 1))), (.t 31)], none⟩, ⟨(some 33), (some (26, true)), (.mksl 2 2 [(.lit (.int .i64 0)), (.sl 0 [] .exact), (.lit (.int .i64 0)), (.sl 0 [] .exact)] [(0, 2), (2, 2)]), [(.t 30), (.t 32)], none⟩, ⟨(some 34), (some (26, true)), (.call 34), [(.t 28), (.t 33)], none⟩, ⟨(some 35), none, .pick, [(.t 26), (.t 34), (.c (.lit (.bool false)))], none⟩, ⟨(some 0), none, .mv, [(.t 35)], none⟩]) .ret)
set_option maxRecDepth 100000 in
abbrev c_theorbolaw06_works_p2 : VC :=
  (.seq (.ops 11 [⟨(some 12), none, (.call 21), [], (some [])⟩, ⟨(some 13), none, (.ldA 3), [(.t 1)], (some [])⟩, ⟨(some 14), none, (.ldA 3), [(.t 2)], (some [])⟩, ⟨(some 15), none, (.mksl 2 3 [(.sl 0 [] .exact), (.sl 0 [] .exact), (.sl 0 [] .exact), (.sl 0 [] .exact), (.sl 0 [] .exact), (.sl 0 [] .exact)] [(0, 3), (3, 3)]), [(.t 13), (.t 14)], none⟩, ⟨(some 16), none, (.call 31), [(.t 12), (.t 15)], (some [0, 1, 2, 3])⟩, ⟨(some 11), none, .mv, [(.t 16)], none⟩, ⟨(some 17), none, (.ext 0), [(.t 11)], none⟩, ⟨(some 18), none, (.ext 1), [(.t 11)], none⟩, ⟨(some 3), none, (.alloc 40 [(.sl 0 [] .exact), (.lit (.int .i64 0))]), [], (some [])⟩, ⟨none, none, (.st 2), [(.t 3), (.t 17)], none⟩, ⟨(some 4), none, .mv, [(.t 18)], none⟩]) c_theorbolaw06_works_p1)
set_option maxRecDepth 100000 in
abbrev c_theorbolaw06_works_p3 : VC :=
  (.seq (.ops 5 [⟨(some 8), none, (.build [(.lit (.int .i64 0)), (.lit (.int .i64 0))] [(0, 1), (1, 1)]), [(.c (.lit (.int .i64 1))), (.c (.lit (.int .i64 3)))], none⟩, ⟨(some 9), none, (.mksl 1 2 [(.lit (.int .i64 0)), (.lit (.int .i64 0))] [(0, 2)]), [(.t 8)], none⟩, ⟨(some 10), none, (.build [(.sl 0 [] .exact), (.sl 0 [] .exact), (.sl 0 [] .exact)] [(0, 1)]), [(.t 9)], none⟩, ⟨(some 2), none, (.alloc 47 [(.sl 0 [] .exact), (.sl 0 [] .exact), (.sl 0 [] .exact)]), [], none⟩, ⟨none, none, (.st 3), [(.t 2), (.t 10)], none⟩]) c_theorbolaw06_works_p2)
set_option maxRecDepth 100000 in
abbrev c_theorbolaw06_works_p4 : VC :=
  (.seq (.ops 5 [⟨(some 5), none, (.build [(.lit (.int .i64 0)), (.lit (.int .i64 0))] [(0, 1), (1, 1)]), [(.c (.lit (.int .i64 1))), (.c (.lit (.int .i64 1)))], none⟩, ⟨(some 6), none, (.mksl 1 2 [(.lit (.int .i64 0)), (.lit (.int .i64 0))] [(0, 2)]), [(.t 5)], none⟩, ⟨(some 7), none, (.build [(.sl 0 [] .exact), (.sl 0 [] .exact), (.sl 0 [] .exact)] [(0, 1)]), [(.t 6)], none⟩, ⟨(some 1), none, (.alloc 47 [(.sl 0 [] .exact), (.sl 0 [] .exact), (.sl 0 [] .exact)]), [], none⟩, ⟨none, none, (.st 3), [(.t 1), (.t 7)], none⟩]) c_theorbolaw06_works_p3)
set_option maxRecDepth 100000 in
def c_theorbolaw06_works : VC :=
  (.seq (.ops 0 [⟨(some 0), none, .mv, [(.c (.lit (.bool false)))], none⟩]) c_theorbolaw06_works_p4)
set_option maxRecDepth 100000 in
theorem k_theorbolaw06_works : Comp Try.prog nobx gtab 28 36 c_theorbolaw06_works [(.t 0)] := ⟨⟨Try.f28, _, Try.func28, rfl, rfl, by kernel_rfl, by kernel_rfl⟩⟩
set_option maxRecDepth 100000 in
abbrev c_hand_Standard_a_p1 : VC :=
  (.seq (.ops 5 [⟨(some 1), none, (.mkslB 3 4 1 [(.lit (.int .i64 0)), (.lit (.int .i64 0)), (.lit (.int .i64 0)), (.lit (.int .i64 0))] [(0, 1), (1, 1), (2, 1), (3, 1)]), [(.c (.lit (.int .i64 0))), (.c (.lit (.int .i64 1))), (.c (.lit (.int .i64 2))), (.c (.lit (.int .i64 3)))], none⟩, ⟨(some 2), none, (.mkslB 3 4 1 [(.lit (.int .i64 0)), (.lit (.int .i64 0)), (.lit (.int .i64 0)), (.lit (.int .i64 0))] [(0, 1), (1, 1), (2, 1), (3, 1)]), [(.c (.lit (.int .i64 0))), (.c (.lit (.int .i64 2))), (.c (.lit (.int .i64 3))), (.c (.lit (.int .i64 4)))], none⟩, ⟨(some 3), none, (.mkslB 4 4 1 [(.lit (.bool false)), (.lit (.bool false)), (.lit (.bool false)), (.lit (.bool false))] [(0, 1), (1, 1), (2, 1), (3, 1)]), [(.c (.lit (.bool true))), (.c (.lit (.bool false))), (.c (.lit (.bool false))), (.c (.lit (.bool false)))], none⟩, ⟨(some 4), none, (.build [(.sl 0 [] .exact), (.sl 0 [] .exact), (.sl 0 [] .exact), (.lit (.int .i64 0)), (.lit (.int .i64 0)), (.lit (.int .i64 0)), (.lit (.int .i64 0)), (.lit (.int .i64 0)), (.lit (.int .i64 0)), (.lit (.int .i64 0))] [(0, 1), (1, 1), (2, 1), (3, 1), (4, 1), (5, 1), (6, 1), (7, 1), (8, 1), (9, 1)]), [(.t 1), (.t 2), (.t 3), (.c (.lit (.int .i64 12))), (.c (.lit (.int .i64 7))), (.c (.lit (.int .i64 2))), (.c (.lit (.int .i64 3))), (.c (.lit (.int .i64 4))), (.c (.lit (.int .i64 2))), (.c (.lit (.int .i64 1)))], none⟩, ⟨none, none, (.st 10), [(.t 0), (.t 4)], none⟩]) .ret)
set_option maxRecDepth 100000 in
def c_hand_Standard_a : VC :=
  (.seq (.ops 1 [⟨(some 0), none, (.alloc 25 [(.sl 0 [] .exact), (.sl 0 [] .exact), (.sl 0 [] .exact), (.lit (.int .i64 0)), (.lit (.int .i64 0)), (.lit (.int .i64 0)), (.lit (.int .i64 0)), (.lit (.int .i64 0)), (.lit (.int .i64 0)), (.lit (.int .i64 0))]), [], none⟩]) c_hand_Standard_a_p1)
set_option maxRecDepth 100000 in
theorem k_hand_Standard_a : Comp Try.prog allbx gtab 21 5 c_hand_Standard_a [(.c 0 10 true)] := ⟨⟨Try.f21, _, Try.func21, rfl, rfl, by kernel_rfl, by kernel_rfl⟩⟩
set_option maxRecDepth 100000 in
abbrev c_hand_Best_a_p1 : VC :=
  (.seq (.ops 0 [⟨(some 16), none, (.build [(.sl 0 [] .exact), (.lit (.int .i64 0))] []), [], none⟩, ⟨(some 17), none, .mv, [(.t 7)], none⟩, ⟨none, none, (.st 2), [(.t 4), (.t 16)], none⟩, ⟨(some 5), none, .mv, [(.t 17)], none⟩]) .ret)
set_option maxRecDepth 100000 in
abbrev c_hand_Best_a_p2 : VC :=
  (.seq (.ops 0 [⟨(some 18), none, .mv, [(.t 6)], none⟩, ⟨(some 19), none, (.call 70), [(.t 18)], none⟩, ⟨(some 20), none, (.ext 0), [(.t 19)], none⟩, ⟨(some 21), none, (.ext 1), [(.t 19)], none⟩, ⟨none, none, (.st 2), [(.t 4), (.t 20)], none⟩, ⟨(some 5), none, .mv, [(.t 21)], none⟩]) .ret)
set_option maxRecDepth 100000 in
abbrev c_hand_Best_a_p3 : VC :=
  (.seq (.seq (.ops 0 [⟨(some 14), none, .mv, [(.t 7)], none⟩, ⟨(some 15), none, (.bin .neq), [(.t 14), (.c (.lit (.int .i64 0)))], none⟩]) (.cond (.t 15) c_hand_Best_a_p1 .skip)) c_hand_Best_a_p2)
set_option maxRecDepth 100000 in
abbrev c_hand_Best_a_p4 : VC :=
  (.seq (.ops 0 [⟨(some 9), none, (.ldA 10), [(.t 2)], none⟩, ⟨(some 10), none, .mv, [(.t 1)], none⟩, ⟨(some 11), none, (.call 69), [(.t 9), (.t 10)], none⟩, ⟨(some 8), none, .mv, [(.t 11)], none⟩, ⟨(some 12), none, (.ext 0), [(.t 8)], none⟩, ⟨(some 13), none, (.ext 1), [(.t 8)], none⟩, ⟨(some 6), none, .mv, [(.t 12)], none⟩, ⟨(some 7), none, .mv, [(.t 13)], none⟩]) c_hand_Best_a_p3)
set_option maxRecDepth 100000 in
def c_hand_Best_a : VC :=
  (.seq (.ops 3 [⟨(some 2), none, (.box 25), [(.t 0)], none⟩, ⟨(some 4), none, (.alloc 40 [(.sl 0 [] .exact), (.lit (.int .i64 0))]), [], none⟩, ⟨(some 5), none, .mv, [(.c (.lit (.int .i64 0)))], none⟩]) c_hand_Best_a_p4)
set_option maxRecDepth 100000 in
theorem k_hand_Best_a : Comp Try.prog allbx gtab 31 22 c_hand_Best_a [(.c 4 2 true), (.t 5)] := ⟨⟨Try.f31, _, Try.func31, rfl, rfl, by kernel_rfl, by kernel_rfl⟩⟩
set_option maxRecDepth 100000 in
abbrev c_hand_weave_a_p1 : VC :=
  (.seq (.ops 0 [⟨(some 19), none, .mv, [(.t 6)], none⟩, ⟨(some 4), none, .mv, [(.c (.lit (.pointer none)))], none⟩, ⟨(some 5), none, .mv, [(.t 19)], none⟩]) .ret)
set_option maxRecDepth 100000 in
abbrev c_hand_weave_a_p2 : VC :=
  (.seq (.ops 0 [⟨(some 17), none, .mv, [(.t 6)], none⟩, ⟨(some 18), none, (.bin .neq), [(.t 17), (.c (.lit (.int .i64 0)))], none⟩]) (.cond (.t 18) c_hand_weave_a_p1 .skip))
set_option maxRecDepth 100000 in
abbrev c_hand_weave_a_p3 : VC :=
  (.seq (.ops 0 [⟨(some 4), none, .mv, [(.c (.lit (.pointer none)))], none⟩, ⟨(some 5), none, .mv, [(.c (.lit (.int .i64 2)))], none⟩]) .ret)
set_option maxRecDepth 100000 in
abbrev c_hand_weave_a_p4 : VC :=
  (.ops 8 [⟨(some 42), none, .mv, [(.t 11)], none⟩, ⟨(some 43), none, (.ldA 10), [(.t 2)], none⟩, ⟨(some 44), none, (.ldA 3), [(.t 9)], none⟩, ⟨(some 45), none, (.ldA 2), [(.t 13)], none⟩, ⟨(some 46), none, (.call 81), [(.t 43), (.t 44), (.t 45)], none⟩, ⟨(some 47), none, (.mkslB 3 1 1 [(.lit (.int .i64 0))] [(0, 1)]), [(.t 46)], none⟩, ⟨(some 48), none, (.appM 3 1 8), [(.t 42), (.t 47)], none⟩, ⟨(some 11), none, .mv, [(.t 48)], none⟩])
set_option maxRecDepth 100000 in
abbrev c_hand_weave_a_p5 : VC :=
  (.ops 0 [⟨(some 49), none, (.bin .add), [(.t 38), (.c (.lit (.int .i64 1)))], none⟩, ⟨(some 38), none, .mv, [(.t 49)], none⟩])
set_option maxRecDepth 100000 in
abbrev c_hand_weave_a_p6 : VC :=
  (.seq (.block 3 (.seq (.ops 4 [⟨(some 40), none, (.ixA 2), [(.t 36), (.t 38)], none⟩, ⟨(some 41), none, (.ldA 2), [(.t 40)], none⟩, ⟨(some 13), none, (.alloc 53 [(.lit (.int .i64 0)), (.sl 0 [] .exact)]), [], none⟩, ⟨none, none, (.st 2), [(.t 13), (.t 41)], none⟩]) c_hand_weave_a_p4)) c_hand_weave_a_p5)
set_option maxRecDepth 100000 in
abbrev c_hand_weave_a_p7 : VC :=
  (.seq (.ops 0 [⟨(some 39), none, (.bin .lss), [(.t 38), (.t 37)], none⟩]) (.seq (.cond (.t 39) .skip (.exit 2)) c_hand_weave_a_p6))
set_option maxRecDepth 100000 in
abbrev c_hand_weave_a_p8 : VC :=
  (.ops 11 [⟨(some 60), none, .mv, [(.t 7)], none⟩, ⟨(some 61), none, .mv, [(.t 7)], none⟩, ⟨(some 62), none, .nilck, [(.t 61)], none⟩, ⟨(some 63), none, (.fldA 12), [(.t 62)], none⟩, ⟨(some 64), none, .ld1, [(.t 63)], none⟩, ⟨(some 65), none, .mv, [(.t 11)], none⟩, ⟨(some 66), none, (.mkslB 22 1 1 [(.sl 0 [] .exact)] [(0, 1)]), [(.t 65)], none⟩, ⟨(some 67), none, (.appM 22 1 24), [(.t 64), (.t 66)], none⟩, ⟨(some 68), none, .nilck, [(.t 60)], none⟩, ⟨(some 69), none, (.fldA 12), [(.t 68)], none⟩, ⟨none, none, (.st 1), [(.t 69), (.t 67)], none⟩])
set_option maxRecDepth 100000 in
abbrev c_hand_weave_a_p9 : VC :=
  (.seq (.ops 11 [⟨(some 50), none, .mv, [(.t 7)], none⟩, ⟨(some 51), none, .mv, [(.t 7)], none⟩, ⟨(some 52), none, .nilck, [(.t 51)], none⟩, ⟨(some 53), none, (.fldA 11), [(.t 52)], none⟩, ⟨(some 54), none, .ld1, [(.t 53)], none⟩, ⟨(some 55), none, .mv, [(.t 10)], none⟩, ⟨(some 56), none, (.mkslB 38 1 1 [(.sl 0 [] .exact)] [(0, 1)]), [(.t 55)], none⟩, ⟨(some 57), none, (.appM 38 1 24), [(.t 54), (.t 56)], none⟩, ⟨(some 58), none, .nilck, [(.t 50)], none⟩, ⟨(some 59), none, (.fldA 11), [(.t 58)], none⟩, ⟨none, none, (.st 1), [(.t 59), (.t 57)], none⟩]) c_hand_weave_a_p8)
set_option maxRecDepth 100000 in
abbrev c_hand_weave_a_p10 : VC :=
  (.seq (.seq (.ops 0 [⟨(some 36), none, .mv, [(.t 10)], none⟩, ⟨(some 37), none, .len, [(.t 36)], none⟩, ⟨(some 38), none, .mv, [(.c (.lit (.int .i64 0)))], none⟩]) (.block 2 (.loop c_hand_weave_a_p7))) c_hand_weave_a_p9)
set_option maxRecDepth 100000 in
abbrev c_hand_weave_a_p11 : VC :=
  (.seq (.ops 0 [⟨(some 11), none, .mv, [(.c (.sl 0 [] .exact))], none⟩]) c_hand_weave_a_p10)
set_option maxRecDepth 100000 in
abbrev c_hand_weave_a_p12 : VC :=
  (.seq (.seq (.ops 0 [⟨(some 33), none, .mv, [(.t 10)], none⟩, ⟨(some 34), none, .len, [(.t 33)], none⟩, ⟨(some 35), none, (.bin .gtr), [(.t 34), (.c (.lit (.int .i64 200)))], none⟩]) (.cond (.t 35) c_hand_weave_a_p3 .skip)) c_hand_weave_a_p11)
set_option maxRecDepth 100000 in
abbrev c_hand_weave_a_p13 : VC :=
  (.seq (.ops 0 [⟨(some 30), none, (.ldA 10), [(.t 2)], none⟩, ⟨(some 31), none, (.ldA 3), [(.t 9)], none⟩, ⟨(some 32), none, (.call 71), [(.t 30), (.t 31)], none⟩, ⟨(some 10), none, .mv, [(.t 32)], none⟩]) c_hand_weave_a_p12)
set_option maxRecDepth 100000 in
abbrev c_hand_weave_a_p14 : VC :=
  (.ops 0 [⟨(some 70), none, (.bin .add), [(.t 26), (.c (.lit (.int .i64 1)))], none⟩, ⟨(some 26), none, .mv, [(.t 70)], none⟩])
set_option maxRecDepth 100000 in
abbrev c_hand_weave_a_p15 : VC :=
  (.seq (.block 1 (.seq (.ops 4 [⟨(some 28), none, (.ixA 3), [(.t 24), (.t 26)], none⟩, ⟨(some 29), none, (.ldA 3), [(.t 28)], none⟩, ⟨(some 9), none, (.alloc 47 [(.sl 0 [] .exact), (.sl 0 [] .exact), (.sl 0 [] .exact)]), [], none⟩, ⟨none, none, (.st 3), [(.t 9), (.t 29)], none⟩]) c_hand_weave_a_p13)) c_hand_weave_a_p14)
set_option maxRecDepth 100000 in
abbrev c_hand_weave_a_p16 : VC :=
  (.seq (.ops 0 [⟨(some 27), none, (.bin .lss), [(.t 26), (.t 25)], none⟩]) (.seq (.cond (.t 27) .skip (.exit 0)) c_hand_weave_a_p15))
set_option maxRecDepth 100000 in
abbrev c_hand_weave_a_p17 : VC :=
  (.seq (.ops 0 [⟨(some 73), none, .mv, [(.t 7)], none⟩, ⟨(some 4), none, .mv, [(.t 73)], none⟩, ⟨(some 5), none, .mv, [(.c (.lit (.int .i64 0)))], none⟩]) .ret)
set_option maxRecDepth 100000 in
abbrev c_hand_weave_a_p18 : VC :=
  (.seq (.ops 0 [⟨(some 71), none, .mv, [(.t 7)], none⟩, ⟨(some 72), none, (.call 103), [(.t 71)], none⟩]) c_hand_weave_a_p17)
set_option maxRecDepth 100000 in
abbrev c_hand_weave_a_p19 : VC :=
  (.seq (.seq (.ops 0 [⟨(some 24), none, .mv, [(.t 1)], none⟩, ⟨(some 25), none, .len, [(.t 24)], none⟩, ⟨(some 26), none, .mv, [(.c (.lit (.int .i64 0)))], none⟩]) (.block 0 (.loop c_hand_weave_a_p16))) c_hand_weave_a_p18)
set_option maxRecDepth 100000 in
abbrev c_hand_weave_a_p20 : VC :=
  (.seq (.ops 5 [⟨(some 20), none, (.ldA 10), [(.t 2)], none⟩, ⟨(some 21), none, .mv, [(.t 1)], none⟩, ⟨(some 22), none, (.build [(.sl 0 [] .exact), (.sl 0 [] .exact), (.sl 0 [] .exact), (.lit (.int .i64 0)), (.lit (.int .i64 0)), (.lit (.int .i64 0)), (.lit (.int .i64 0)), (.lit (.int .i64 0)), (.lit (.int .i64 0)), (.lit (.int .i64 0)), (.sl 0 [] .exact), (.sl 0 [] .exact), (.sl 0 [] .exact), (.sl 0 [] .exact)] [(0, 10), (10, 1)]), [(.t 20), (.t 21)], none⟩, ⟨(some 23), none, (.box 123), [(.t 22)], none⟩, ⟨(some 7), none, .mv, [(.t 23)], none⟩]) c_hand_weave_a_p19)
set_option maxRecDepth 100000 in
abbrev c_hand_weave_a_p21 : VC :=
  (.seq (.seq (.ops 0 [⟨(some 14), none, (.ldA 10), [(.t 2)], none⟩, ⟨(some 15), none, .mv, [(.t 1)], none⟩, ⟨(some 16), none, (.call 102), [(.t 14), (.t 15)], none⟩, ⟨(some 6), none, .mv, [(.t 16)], none⟩]) c_hand_weave_a_p2) c_hand_weave_a_p20)
set_option maxRecDepth 100000 in
def c_hand_weave_a : VC :=
  (.seq (.ops 3 [⟨(some 2), none, (.box 25), [(.t 0)], none⟩, ⟨(some 4), none, .mv, [(.c (.lit (.pointer none)))], none⟩, ⟨(some 5), none, .mv, [(.c (.lit (.int .i64 0)))], none⟩]) c_hand_weave_a_p21)
set_option maxRecDepth 100000 in
theorem k_hand_weave_a : Comp Try.prog allbx gtab 69 74 c_hand_weave_a [(.t 4), (.t 5)] := ⟨⟨Try.f69, _, Try.func69, rfl, rfl, by kernel_rfl, by kernel_rfl⟩⟩
set_option maxRecDepth 100000 in
abbrev c_hand_first_a_p1 : VC :=
  (.seq (.ops 0 [⟨(some 14), none, (.build [(.sl 0 [] .exact), (.lit (.int .i64 0))] []), [], none⟩, ⟨none, none, (.st 2), [(.t 2), (.t 14)], none⟩, ⟨(some 3), none, .mv, [(.c (.lit (.int .i64 62)))], none⟩]) .ret)
set_option maxRecDepth 100000 in
abbrev c_hand_first_a_p2 : VC :=
  (.seq (.ops 0 [⟨(some 15), none, (.ldA 2), [(.t 4)], none⟩, ⟨none, none, (.st 2), [(.t 2), (.t 15)], none⟩, ⟨(some 3), none, .mv, [(.c (.lit (.int .i64 0)))], none⟩]) .ret)
set_option maxRecDepth 100000 in
abbrev c_hand_first_a_p3 : VC :=
  (.seq (.seq (.ops 0 [⟨(some 12), none, .mv, [(.t 5)], none⟩, ⟨(some 13), none, (.un .not), [(.t 12)], none⟩]) (.cond (.t 13) c_hand_first_a_p1 .skip)) c_hand_first_a_p2)
set_option maxRecDepth 100000 in
abbrev c_hand_first_a_p4 : VC :=
  (.seq (.ops 9 [⟨(some 7), none, .mv, [(.t 0)], none⟩, ⟨(some 8), none, (.call 74), [(.t 7)], none⟩, ⟨(some 9), none, (.call 75), [(.t 8), (.c (.lit (.int .i64 0)))], none⟩, ⟨(some 6), none, .mv, [(.t 9)], none⟩, ⟨(some 10), none, (.ext 0), [(.t 6)], none⟩, ⟨(some 11), none, (.ext 1), [(.t 6)], none⟩, ⟨(some 4), none, (.alloc 40 [(.sl 0 [] .exact), (.lit (.int .i64 0))]), [], none⟩, ⟨none, none, (.st 2), [(.t 4), (.t 10)], none⟩, ⟨(some 5), none, .mv, [(.t 11)], none⟩]) c_hand_first_a_p3)
set_option maxRecDepth 100000 in
def c_hand_first_a : VC :=
  (.seq (.ops 2 [⟨(some 2), none, (.alloc 40 [(.sl 0 [] .exact), (.lit (.int .i64 0))]), [], none⟩, ⟨(some 3), none, .mv, [(.c (.lit (.int .i64 0)))], none⟩]) c_hand_first_a_p4)
set_option maxRecDepth 100000 in
theorem k_hand_first_a : Comp Try.prog allbx gtab 70 16 c_hand_first_a [(.c 2 2 true), (.t 3)] := ⟨⟨Try.f70, _, Try.func70, rfl, rfl, by kernel_rfl, by kernel_rfl⟩⟩
set_option maxRecDepth 100000 in
abbrev c_hand_grips_a_p1 : VC :=
  (.ops 0 [⟨(some 13), none, .mv, [(.t 7)], none⟩, ⟨(some 14), none, (.bin .add), [(.t 13), (.c (.lit (.int .i64 1)))], none⟩, ⟨(some 7), none, .mv, [(.t 14)], none⟩])
set_option maxRecDepth 100000 in
abbrev c_hand_grips_a_p2 : VC :=
  (.seq (.block 1 (.ops 0 [⟨(some 15), none, .ld1, [(.t 6)], none⟩, ⟨(some 16), none, .mv, [(.t 7)], none⟩, ⟨(some 17), none, .callv, [(.t 15), (.t 16)], none⟩])) c_hand_grips_a_p1)
set_option maxRecDepth 100000 in
abbrev c_hand_grips_a_p3 : VC :=
  (.seq (.seq (.ops 0 [⟨(some 9), none, .mv, [(.t 7)], none⟩, ⟨(some 10), none, (.fldA 3), [(.t 2)], none⟩, ⟨(some 11), none, .ld1, [(.t 10)], none⟩, ⟨(some 12), none, (.bin .leq), [(.t 9), (.t 11)], none⟩]) (.cond (.t 12) .skip (.exit 0))) c_hand_grips_a_p2)
set_option maxRecDepth 100000 in
abbrev c_hand_grips_a_p4 : VC :=
  (.seq (.ops 0 [⟨(some 18), none, .ld1, [(.t 4)], none⟩, ⟨none, none, (.st 1), [(.t 4), (.t 18)], none⟩]) .ret)
set_option maxRecDepth 100000 in
abbrev c_hand_grips_a_p5 : VC :=
  (.seq (.seq (.ops 0 [⟨(some 7), none, .mv, [(.c (.lit (.int .i64 1)))], none⟩]) (.block 0 (.loop c_hand_grips_a_p3))) c_hand_grips_a_p4)
set_option maxRecDepth 100000 in
abbrev c_hand_grips_a_p6 : VC :=
  (.seq (.ops 0 [⟨(some 8), none, (.mkfn 104), [(.t 5), (.t 3), (.t 2), (.t 4), (.t 6)], none⟩, ⟨none, none, (.st 1), [(.t 6), (.t 8)], none⟩]) c_hand_grips_a_p5)
set_option maxRecDepth 100000 in
abbrev c_hand_grips_a_p7 : VC :=
  (.seq (.ops 1 [⟨(some 6), none, (.alloc 144 [(.lit .nilFunc)]), [], none⟩]) c_hand_grips_a_p6)
set_option maxRecDepth 100000 in
abbrev c_hand_grips_a_p8 : VC :=
  (.seq (.ops 1 [⟨(some 5), none, (.alloc 22 [(.sl 0 [] .exact)]), [], none⟩]) c_hand_grips_a_p7)
set_option maxRecDepth 100000 in
def c_hand_grips_a : VC :=
  (.seq (.ops 3 [⟨(some 2), none, (.box 25), [(.t 0)], none⟩, ⟨(some 3), none, (.box 47), [(.t 1)], none⟩, ⟨(some 4), none, (.alloc 38 [(.sl 0 [] .exact)]), [], none⟩]) c_hand_grips_a_p8)
set_option maxRecDepth 100000 in
theorem k_hand_grips_a : Comp Try.prog allbx gtab 71 19 c_hand_grips_a [(.c 4 1 false)] := ⟨⟨Try.f71, _, Try.func71, rfl, rfl, by kernel_rfl, by kernel_rfl⟩⟩
set_option maxRecDepth 100000 in
abbrev c_hand_list_a_p1 : VC :=
  (.ops 19 [⟨(some 21), none, .mv, [(.t 3)], none⟩, ⟨(some 22), none, .mv, [(.t 3)], none⟩, ⟨(some 23), none, .nilck, [(.t 22)], none⟩, ⟨(some 24), none, (.fldA 1), [(.t 23)], none⟩, ⟨(some 25), none, .ld1, [(.t 24)], (some [1, 2, 3])⟩, ⟨(some 26), none, .mv, [(.t 0)], none⟩, ⟨(some 27), none, .nilck, [(.t 26)], none⟩, ⟨(some 28), none, (.fldA 11), [(.t 27)], none⟩, ⟨(some 29), none, .ld1, [(.t 28)], (some [5, 6, 7])⟩, ⟨(some 30), none, .mv, [(.t 4)], none⟩, ⟨(some 31), none, (.ixA 1), [(.t 29), (.t 30)], none⟩, ⟨(some 32), none, .ld1, [(.t 31)], (some [5, 6, 7, 8, 9, 10])⟩, ⟨(some 33), none, .len, [(.t 32)], none⟩, ⟨(some 34), none, (.mk 150 1 8 [(.lit (.pointer none))]), [(.t 33), (.t 33)], (some [5, 6, 7, 8, 9, 10, 11, 12])⟩, ⟨(some 35), none, (.mkslB 163 1 1 [(.sl 0 [] .exact)] [(0, 1)]), [(.t 34)], (some [5, 6, 7, 8, 9, 10, 11, 12, 13])⟩, ⟨(some 36), none, (.appM 163 1 24), [(.t 25), (.t 35)], none⟩, ⟨(some 37), none, .nilck, [(.t 21)], none⟩, ⟨(some 38), none, (.fldA 1), [(.t 37)], none⟩, ⟨none, none, (.st 1), [(.t 38), (.t 36)], none⟩])
set_option maxRecDepth 100000 in
abbrev c_hand_list_a_p2 : VC :=
  (.ops 0 [⟨(some 39), none, (.bin .add), [(.t 18), (.c (.lit (.int .i64 1)))], none⟩, ⟨(some 18), none, .mv, [(.t 39)], none⟩])
set_option maxRecDepth 100000 in
abbrev c_hand_list_a_p3 : VC :=
  (.seq (.block 1 (.seq (.ops 0 [⟨(some 20), none, .mv, [(.t 18)], none⟩, ⟨(some 4), none, .mv, [(.t 20)], none⟩]) c_hand_list_a_p1)) c_hand_list_a_p2)
set_option maxRecDepth 100000 in
abbrev c_hand_list_a_p4 : VC :=
  (.seq (.ops 0 [⟨(some 19), none, (.bin .lss), [(.t 18), (.t 17)], none⟩]) (.seq (.cond (.t 19) .skip (.exit 0)) c_hand_list_a_p3))
set_option maxRecDepth 100000 in
abbrev c_hand_list_a_p5 : VC :=
  (.ops 0 [⟨(some 60), none, .mv, [(.t 3)], none⟩, ⟨(some 61), none, .nilck, [(.t 60)], none⟩, ⟨(some 62), none, (.fldA 2), [(.t 61)], none⟩, ⟨(some 63), none, .ld1, [(.t 62)], none⟩, ⟨(some 64), none, .nilck, [(.t 63)], none⟩, ⟨(some 65), none, (.fldA 1), [(.t 64)], none⟩, ⟨(some 66), none, .mv, [(.t 6)], none⟩, ⟨(some 67), none, .mv, [(.t 5)], none⟩, ⟨(some 68), none, (.build [(.lit (.int .i64 0)), (.lit (.int .i64 0)), (.lit (.int .i64 0))] [(0, 1), (1, 1), (2, 1)]), [(.t 66), (.t 67), (.c (.lit (.int .i64 0)))], none⟩, ⟨(some 69), none, (.call 111), [(.t 65), (.t 68)], none⟩])
set_option maxRecDepth 100000 in
abbrev c_hand_list_a_p6 : VC :=
  (.seq (.ops 0 [⟨(some 58), none, .mv, [(.t 6)], none⟩, ⟨(some 59), none, (.bin .neq), [(.t 58), (.c (.lit (.int .i64 (-1))))], none⟩]) (.cond (.t 59) c_hand_list_a_p5 .skip))
set_option maxRecDepth 100000 in
abbrev c_hand_list_a_p7 : VC :=
  (.ops 0 [⟨(some 70), none, (.bin .add), [(.t 53), (.c (.lit (.int .i64 1)))], none⟩, ⟨(some 53), none, .mv, [(.t 70)], none⟩])
set_option maxRecDepth 100000 in
abbrev c_hand_list_a_p8 : VC :=
  (.seq (.block 3 (.seq (.ops 0 [⟨(some 55), none, .mv, [(.t 53)], none⟩, ⟨(some 56), none, (.ixA 1), [(.t 51), (.t 53)], none⟩, ⟨(some 57), none, .ld1, [(.t 56)], none⟩, ⟨(some 5), none, .mv, [(.t 55)], none⟩, ⟨(some 6), none, .mv, [(.t 57)], none⟩]) c_hand_list_a_p6)) c_hand_list_a_p7)
set_option maxRecDepth 100000 in
abbrev c_hand_list_a_p9 : VC :=
  (.seq (.ops 0 [⟨(some 54), none, (.bin .lss), [(.t 53), (.t 52)], none⟩]) (.seq (.cond (.t 54) .skip (.exit 2)) c_hand_list_a_p8))
set_option maxRecDepth 100000 in
abbrev c_hand_list_a_p10 : VC :=
  (.seq (.ops 0 [⟨(some 46), none, .mv, [(.t 0)], none⟩, ⟨(some 47), none, .nilck, [(.t 46)], none⟩, ⟨(some 48), none, (.fldA 13), [(.t 47)], none⟩, ⟨(some 49), none, .ld1, [(.t 48)], none⟩, ⟨(some 50), none, (.ixA 1), [(.t 49), (.c (.lit (.int .i64 0)))], none⟩, ⟨(some 51), none, .ld1, [(.t 50)], none⟩, ⟨(some 52), none, .len, [(.t 51)], none⟩, ⟨(some 53), none, .mv, [(.c (.lit (.int .i64 0)))], none⟩]) (.block 2 (.loop c_hand_list_a_p9)))
set_option maxRecDepth 100000 in
abbrev c_hand_list_a_p11 : VC :=
  (.seq (.ops 0 [⟨(some 71), none, .mv, [(.t 3)], none⟩, ⟨(some 2), none, .mv, [(.t 71)], none⟩]) .ret)
set_option maxRecDepth 100000 in
abbrev c_hand_list_a_p12 : VC :=
  (.seq (.seq (.ops 0 [⟨(some 40), none, .mv, [(.t 0)], none⟩, ⟨(some 41), none, .nilck, [(.t 40)], none⟩, ⟨(some 42), none, (.fldA 10), [(.t 41)], none⟩, ⟨(some 43), none, .ld1, [(.t 42)], none⟩, ⟨(some 44), none, .len, [(.t 43)], none⟩, ⟨(some 45), none, (.bin .gtr), [(.t 44), (.c (.lit (.int .i64 0)))], none⟩]) (.cond (.t 45) c_hand_list_a_p10 .skip)) c_hand_list_a_p11)
set_option maxRecDepth 100000 in
abbrev c_hand_list_a_p13 : VC :=
  (.seq (.seq (.ops 0 [⟨(some 13), none, .mv, [(.t 0)], none⟩, ⟨(some 14), none, .nilck, [(.t 13)], none⟩, ⟨(some 15), none, (.fldA 10), [(.t 14)], none⟩, ⟨(some 16), none, .ld1, [(.t 15)], none⟩, ⟨(some 17), none, .len, [(.t 16)], none⟩, ⟨(some 18), none, .mv, [(.c (.lit (.int .i64 0)))], none⟩]) (.block 0 (.loop c_hand_list_a_p4))) c_hand_list_a_p12)
set_option maxRecDepth 100000 in
abbrev c_hand_list_a_p14 : VC :=
  (.seq (.ops 7 [⟨(some 7), none, .mv, [(.t 0)], none⟩, ⟨(some 8), none, (.build [(.sl 0 [] .exact), (.lit .nilFunc)] [(1, 1)]), [(.c (.fn 110 []))], none⟩, ⟨(some 9), none, (.build [(.sl 0 [] .exact), (.sl 0 [] .exact), (.lit .nilFunc), (.lit (.bool false))] [(1, 2)]), [(.t 8)], none⟩, ⟨(some 10), none, (.box 159), [(.t 9)], none⟩, ⟨(some 11), none, (.build [(.lit (.pointer none)), (.sl 0 [] .exact), (.lit (.pointer none))] [(0, 1), (2, 1)]), [(.t 7), (.t 10)], none⟩, ⟨(some 12), none, (.box 162), [(.t 11)], none⟩, ⟨(some 3), none, .mv, [(.t 12)], none⟩]) c_hand_list_a_p13)
set_option maxRecDepth 100000 in
def c_hand_list_a : VC :=
  (.seq (.ops 0 [⟨(some 2), none, .mv, [(.c (.lit (.pointer none)))], none⟩]) c_hand_list_a_p14)
set_option maxRecDepth 100000 in
theorem k_hand_list_a : Comp Try.prog allbx gtab 74 72 c_hand_list_a [(.t 2)] := ⟨⟨Try.f74, _, Try.func74, rfl, rfl, by kernel_rfl, by kernel_rfl⟩⟩
set_option maxRecDepth 100000 in
abbrev c_hand_lister_fingering_a_p1 : VC :=
  (.seq (.ops 0 [⟨(some 18), none, (.build [(.sl 0 [] .exact), (.lit (.int .i64 0))] []), [], none⟩, ⟨(some 19), none, .mv, [(.t 1)], none⟩, ⟨(some 20), none, (.bin .eql), [(.t 19), (.c (.lit (.int .i64 0)))], none⟩, ⟨none, none, (.st 2), [(.t 4), (.t 18)], none⟩, ⟨(some 5), none, .mv, [(.t 20)], none⟩]) .ret)
set_option maxRecDepth 100000 in
abbrev c_hand_lister_fingering_a_p2 : VC :=
  (.seq (.ops 0 [⟨(some 29), none, (.build [(.sl 0 [] .exact), (.lit (.int .i64 0))] []), [], none⟩, ⟨none, none, (.st 2), [(.t 4), (.t 29)], none⟩, ⟨(some 5), none, .mv, [(.c (.lit (.bool false)))], none⟩]) .ret)
set_option maxRecDepth 100000 in
abbrev c_hand_lister_fingering_a_p3 : VC :=
  (.ops 0 [⟨(some 70), none, .mv, [(.t 0)], none⟩, ⟨(some 71), none, .mv, [(.t 7)], none⟩, ⟨(some 72), none, (.fldA 1), [(.t 6)], none⟩, ⟨(some 73), none, .ld1, [(.t 72)], none⟩, ⟨(some 74), none, (.fldA 2), [(.t 6)], none⟩, ⟨(some 75), none, .ld1, [(.t 74)], none⟩, ⟨(some 76), none, (.call 112), [(.t 70), (.t 71), (.t 73), (.t 75)], none⟩, ⟨(some 69), none, .mv, [(.t 76)], none⟩, ⟨(some 77), none, (.ext 0), [(.t 69)], none⟩, ⟨(some 78), none, (.ext 1), [(.t 69)], none⟩, ⟨none, none, (.st 3), [(.t 6), (.t 77)], none⟩])
set_option maxRecDepth 100000 in
abbrev c_hand_lister_fingering_a_p4 : VC :=
  (.seq (.ops 12 [⟨(some 58), none, (.fldA 0), [(.t 4)], none⟩, ⟨(some 59), none, .ld1, [(.t 58)], (some [0])⟩, ⟨(some 60), none, (.fldA 0), [(.t 8)], none⟩, ⟨(some 61), none, .ld1, [(.t 60)], (some [2])⟩, ⟨(some 62), none, (.fldA 1), [(.t 8)], none⟩, ⟨(some 63), none, .ld1, [(.t 62)], (some [4])⟩, ⟨(some 64), none, (.callB 106), [(.t 63)], (some [4, 5])⟩, ⟨(some 65), none, (.build [(.lit (.int .i64 0)), (.sl 0 [] .exact)] [(0, 1), (1, 1)]), [(.t 61), (.t 64)], none⟩, ⟨(some 66), none, (.mkslB 53 1 2 [(.lit (.int .i64 0)), (.sl 0 [] .exact)] [(0, 2)]), [(.t 65)], (some [2, 3, 4, 5, 6, 7])⟩, ⟨(some 67), none, (.appM 53 2 32), [(.t 59), (.t 66)], none⟩, ⟨(some 68), none, (.fldA 0), [(.t 4)], none⟩, ⟨none, none, (.st 1), [(.t 68), (.t 67)], none⟩]) c_hand_lister_fingering_a_p3)
set_option maxRecDepth 100000 in
abbrev c_hand_lister_fingering_a_p5 : VC :=
  (.seq (.ops 16 [⟨(some 44), none, .mv, [(.t 0)], none⟩, ⟨(some 45), none, .nilck, [(.t 44)], none⟩, ⟨(some 46), none, (.fldA 0), [(.t 45)], none⟩, ⟨(some 47), none, .ld1, [(.t 46)], (some [0, 1, 2])⟩, ⟨(some 48), none, .nilck, [(.t 47)], none⟩, ⟨(some 49), none, (.fldA 11), [(.t 48)], none⟩, ⟨(some 50), none, .ld1, [(.t 49)], (some [0, 1, 2, 3, 4, 5])⟩, ⟨(some 51), none, .mv, [(.t 7)], none⟩, ⟨(some 52), none, (.ixA 1), [(.t 50), (.t 51)], none⟩, ⟨(some 53), none, .ld1, [(.t 52)], (some [0, 1, 2, 3, 4, 5, 6, 7, 8])⟩, ⟨(some 54), none, (.fldA 1), [(.t 6)], none⟩, ⟨(some 55), none, .ld1, [(.t 54)], (some [10])⟩, ⟨(some 56), none, (.ixA 2), [(.t 53), (.t 55)], none⟩, ⟨(some 57), none, (.ldA 2), [(.t 56)], (some [0, 1, 2, 3, 4, 5, 6, 7, 8, 9, 10, 11, 12])⟩, ⟨(some 8), none, (.alloc 53 [(.lit (.int .i64 0)), (.sl 0 [] .exact)]), [], (some [])⟩, ⟨none, none, (.st 2), [(.t 8), (.t 57)], none⟩]) c_hand_lister_fingering_a_p4)
set_option maxRecDepth 100000 in
abbrev c_hand_lister_fingering_a_p6 : VC :=
  (.ops 0 [⟨(some 79), none, (.bin .add), [(.t 41), (.c (.lit (.int .i64 1)))], none⟩, ⟨(some 41), none, .mv, [(.t 79)], none⟩])
set_option maxRecDepth 100000 in
abbrev c_hand_lister_fingering_a_p7 : VC :=
  (.seq (.block 1 (.seq (.ops 0 [⟨(some 43), none, .mv, [(.t 41)], none⟩, ⟨(some 7), none, .mv, [(.t 43)], none⟩]) c_hand_lister_fingering_a_p5)) c_hand_lister_fingering_a_p6)
set_option maxRecDepth 100000 in
abbrev c_hand_lister_fingering_a_p8 : VC :=
  (.seq (.cond (.t 42) .skip (.exit 0)) c_hand_lister_fingering_a_p7)
set_option maxRecDepth 100000 in
abbrev c_hand_lister_fingering_a_p9 : VC :=
  (.seq (.ops 0 [⟨(some 42), none, (.bin .lss), [(.t 41), (.t 40)], none⟩]) c_hand_lister_fingering_a_p8)
set_option maxRecDepth 100000 in
abbrev c_hand_lister_fingering_a_p10 : VC :=
  (.seq (.ops 0 [⟨(some 80), none, (.ldA 2), [(.t 4)], none⟩, ⟨none, none, (.st 2), [(.t 4), (.t 80)], none⟩, ⟨(some 5), none, .mv, [(.c (.lit (.bool true)))], none⟩]) .ret)
set_option maxRecDepth 100000 in
abbrev c_hand_lister_fingering_a_p11 : VC :=
  (.seq (.seq (.ops 0 [⟨(some 33), none, .mv, [(.t 0)], none⟩, ⟨(some 34), none, .nilck, [(.t 33)], none⟩, ⟨(some 35), none, (.fldA 0), [(.t 34)], none⟩, ⟨(some 36), none, .ld1, [(.t 35)], none⟩, ⟨(some 37), none, .nilck, [(.t 36)], none⟩, ⟨(some 38), none, (.fldA 10), [(.t 37)], none⟩, ⟨(some 39), none, .ld1, [(.t 38)], none⟩, ⟨(some 40), none, .len, [(.t 39)], none⟩, ⟨(some 41), none, .mv, [(.c (.lit (.int .i64 0)))], none⟩]) (.block 0 (.loop c_hand_lister_fingering_a_p9))) c_hand_lister_fingering_a_p10)
set_option maxRecDepth 100000 in
abbrev c_hand_lister_fingering_a_p12 : VC :=
  (.seq (.ops 0 [⟨(some 30), none, (.fldA 0), [(.t 6)], none⟩, ⟨(some 31), none, .ld1, [(.t 30)], none⟩, ⟨(some 32), none, (.fldA 1), [(.t 4)], none⟩, ⟨none, none, (.st 1), [(.t 32), (.t 31)], none⟩]) c_hand_lister_fingering_a_p11)
set_option maxRecDepth 100000 in
abbrev c_hand_lister_fingering_a_p13 : VC :=
  (.seq (.seq (.ops 0 [⟨(some 27), none, .mv, [(.t 5)], none⟩, ⟨(some 28), none, (.un .not), [(.t 27)], none⟩]) (.cond (.t 28) c_hand_lister_fingering_a_p2 .skip)) c_hand_lister_fingering_a_p12)
set_option maxRecDepth 100000 in
abbrev c_hand_lister_fingering_a_p14 : VC :=
  (.seq (.ops 9 [⟨(some 22), none, .mv, [(.t 0)], none⟩, ⟨(some 23), none, .mv, [(.t 1)], none⟩, ⟨(some 24), none, (.call 112), [(.t 22), (.c (.lit (.int .i64 (-1)))), (.c (.lit (.int .i64 0))), (.t 23)], none⟩, ⟨(some 21), none, .mv, [(.t 24)], none⟩, ⟨(some 25), none, (.ext 0), [(.t 21)], none⟩, ⟨(some 26), none, (.ext 1), [(.t 21)], none⟩, ⟨(some 6), none, (.alloc 154 [(.lit (.int .i64 0)), (.lit (.int .i64 0)), (.lit (.int .i64 0))]), [], none⟩, ⟨none, none, (.st 3), [(.t 6), (.t 25)], none⟩, ⟨(some 5), none, .mv, [(.t 26)], none⟩]) c_hand_lister_fingering_a_p13)
set_option maxRecDepth 100000 in
abbrev c_hand_lister_fingering_a_p15 : VC :=
  (.seq (.seq (.ops 0 [⟨(some 9), none, .mv, [(.t 0)], none⟩, ⟨(some 10), none, .nilck, [(.t 9)], none⟩, ⟨(some 11), none, (.fldA 0), [(.t 10)], none⟩, ⟨(some 12), none, .ld1, [(.t 11)], none⟩, ⟨(some 13), none, .nilck, [(.t 12)], none⟩, ⟨(some 14), none, (.fldA 10), [(.t 13)], none⟩, ⟨(some 15), none, .ld1, [(.t 14)], none⟩, ⟨(some 16), none, .len, [(.t 15)], none⟩, ⟨(some 17), none, (.bin .eql), [(.t 16), (.c (.lit (.int .i64 0)))], none⟩]) (.cond (.t 17) c_hand_lister_fingering_a_p1 .skip)) c_hand_lister_fingering_a_p14)
set_option maxRecDepth 100000 in
def c_hand_lister_fingering_a : VC :=
  (.seq (.ops 2 [⟨(some 4), none, (.alloc 40 [(.sl 0 [] .exact), (.lit (.int .i64 0))]), [], none⟩, ⟨(some 5), none, .mv, [(.c (.lit (.bool false)))], none⟩]) c_hand_lister_fingering_a_p15)
set_option maxRecDepth 100000 in
theorem k_hand_lister_fingering_a : Comp Try.prog (fun n => !([1000064].contains n)) gtab 75 81 c_hand_lister_fingering_a [(.c 4 2 true), (.t 5)] := ⟨⟨Try.f75, _, Try.func75, rfl, rfl, by kernel_rfl, by kernel_rfl⟩⟩
set_option maxRecDepth 100000 in
abbrev c_hand_Check_a_p1 : VC :=
  (.seq (.ops 0 [⟨(some 2), none, .mv, [(.c (.lit (.int .i64 60)))], none⟩]) .ret)
set_option maxRecDepth 100000 in
abbrev c_hand_Check_a_p2 : VC :=
  (.seq (.ops 0 [⟨(some 2), none, .mv, [(.c (.lit (.int .i64 60)))], none⟩]) .ret)
set_option maxRecDepth 100000 in
abbrev c_hand_Check_a_p3 : VC :=
  (.seq (.ops 0 [⟨(some 31), none, (.fldA 0), [(.t 1)], none⟩, ⟨(some 32), none, .ld1, [(.t 31)], none⟩, ⟨(some 33), none, .mv, [(.t 4)], none⟩, ⟨(some 34), none, (.ixA 1), [(.t 32), (.t 33)], none⟩, ⟨(some 35), none, .ld1, [(.t 34)], none⟩, ⟨(some 36), none, (.bin .lss), [(.t 35), (.c (.lit (.int .i64 0)))], none⟩, ⟨(some 37), none, .mv, [(.t 36)], none⟩, ⟨(some 38), (some (37, false)), (.fldA 0), [(.t 1)], none⟩, ⟨(some 39), (some (37, false)), .ld1, [(.t 38)], (some [0, 1, 2, 3, 4, 5, 6, 7])⟩, ⟨(some 40), (some (37, false)), .mv, [(.t 4)], none⟩, ⟨(some 41), (some (37, false)), (.ixA 1), [(.t 39), (.t 40)], none⟩, ⟨(some 42), (some (37, false)), .ld1, [(.t 41)], (some [0, 1, 2, 3, 4, 5, 6, 7, 8, 9, 10])⟩, ⟨(some 43), (some (37, false)), (.fldA 1), [(.t 1)], none⟩, ⟨(some 44), (some (37, false)), .ld1, [(.t 43)], (some [0, 1, 2, 3, 4, 5, 6, 12])⟩, ⟨(some 45), (some (37, false)), .mv, [(.t 4)], none⟩, ⟨(some 46), (some (37, false)), (.ixA 1), [(.t 44), (.t 45)], none⟩, ⟨(some 47), (some (37, false)), .ld1, [(.t 46)], (some [0, 1, 2, 3, 4, 5, 6, 12, 13, 14, 15])⟩, ⟨(some 48), (some (37, false)), (.bin .gtr), [(.t 42), (.t 47)], none⟩, ⟨(some 49), none, .pick, [(.t 37), (.c (.lit (.bool true))), (.t 48)], none⟩, ⟨(some 50), none, .mv, [(.t 49)], none⟩, ⟨(some 51), (some (50, false)), (.fldA 1), [(.t 1)], none⟩, ⟨(some 52), (some (50, false)), .ld1, [(.t 51)], none⟩, ⟨(some 53), (some (50, false)), .mv, [(.t 4)], none⟩, ⟨(some 54), (some (50, false)), (.ixA 1), [(.t 52), (.t 53)], none⟩, ⟨(some 55), (some (50, false)), .ld1, [(.t 54)], none⟩, ⟨(some 56), (some (50, false)), (.bin .gtr), [(.t 55), (.c (.lit (.int .i64 8)))], none⟩, ⟨(some 57), none, .pick, [(.t 50), (.c (.lit (.bool true))), (.t 56)], none⟩]) (.cond (.t 57) c_hand_Check_a_p2 .skip))
set_option maxRecDepth 100000 in
abbrev c_hand_Check_a_p4 : VC :=
  (.ops 0 [⟨(some 58), none, (.bin .add), [(.t 28), (.c (.lit (.int .i64 1)))], none⟩, ⟨(some 28), none, .mv, [(.t 58)], none⟩])
set_option maxRecDepth 100000 in
abbrev c_hand_Check_a_p5 : VC :=
  (.seq (.block 1 (.seq (.ops 0 [⟨(some 30), none, .mv, [(.t 28)], none⟩, ⟨(some 4), none, .mv, [(.t 30)], none⟩]) c_hand_Check_a_p3)) c_hand_Check_a_p4)
set_option maxRecDepth 100000 in
abbrev c_hand_Check_a_p6 : VC :=
  (.seq (.ops 0 [⟨(some 29), none, (.bin .lss), [(.t 28), (.t 27)], none⟩]) (.seq (.cond (.t 29) .skip (.exit 0)) c_hand_Check_a_p5))
set_option maxRecDepth 100000 in
abbrev c_hand_Check_a_p7 : VC :=
  (.seq (.ops 0 [⟨(some 2), none, .mv, [(.c (.lit (.int .i64 60)))], none⟩]) .ret)
set_option maxRecDepth 100000 in
abbrev c_hand_Check_a_p8 : VC :=
  (.seq (.ops 0 [⟨(some 2), none, .mv, [(.c (.lit (.int .i64 60)))], none⟩]) .ret)
set_option maxRecDepth 100000 in
abbrev c_hand_Check_a_p9 : VC :=
  (.seq (.ops 0 [⟨(some 97), none, .mv, [(.t 6)], none⟩, ⟨(some 98), none, (.call 63), [(.t 97), (.c (.lit (.int .i64 0))), (.c (.lit (.int .i64 1000)))], none⟩, ⟨(some 99), none, (.un .not), [(.t 98)], none⟩]) (.cond (.t 99) c_hand_Check_a_p8 .skip))
set_option maxRecDepth 100000 in
abbrev c_hand_Check_a_p10 : VC :=
  (.ops 0 [⟨(some 100), none, (.bin .add), [(.t 93), (.c (.lit (.int .i64 1)))], none⟩, ⟨(some 93), none, .mv, [(.t 100)], none⟩])
set_option maxRecDepth 100000 in
abbrev c_hand_Check_a_p11 : VC :=
  (.seq (.block 3 (.seq (.ops 0 [⟨(some 95), none, (.ixA 1), [(.t 91), (.t 93)], none⟩, ⟨(some 96), none, .ld1, [(.t 95)], none⟩, ⟨(some 6), none, .mv, [(.t 96)], none⟩]) c_hand_Check_a_p9)) c_hand_Check_a_p10)
set_option maxRecDepth 100000 in
abbrev c_hand_Check_a_p12 : VC :=
  (.seq (.ops 0 [⟨(some 94), none, (.bin .lss), [(.t 93), (.t 92)], none⟩]) (.seq (.cond (.t 94) .skip (.exit 2)) c_hand_Check_a_p11))
set_option maxRecDepth 100000 in
abbrev c_hand_Check_a_p13 : VC :=
  (.seq (.ops 0 [⟨(some 2), none, .mv, [(.c (.lit (.int .i64 0)))], none⟩]) .ret)
set_option maxRecDepth 100000 in
abbrev c_hand_Check_a_p14 : VC :=
  (.seq (.seq (.ops 13 [⟨(some 81), none, (.fldA 5), [(.t 1)], none⟩, ⟨(some 82), none, .ld1, [(.t 81)], none⟩, ⟨(some 83), none, (.fldA 6), [(.t 1)], none⟩, ⟨(some 84), none, .ld1, [(.t 83)], none⟩, ⟨(some 85), none, (.fldA 7), [(.t 1)], none⟩, ⟨(some 86), none, .ld1, [(.t 85)], none⟩, ⟨(some 87), none, (.fldA 8), [(.t 1)], none⟩, ⟨(some 88), none, .ld1, [(.t 87)], none⟩, ⟨(some 89), none, (.fldA 9), [(.t 1)], none⟩, ⟨(some 90), none, .ld1, [(.t 89)], none⟩, ⟨(some 91), none, (.mkslB 3 5 1 [(.lit (.int .i64 0)), (.lit (.int .i64 0)), (.lit (.int .i64 0)), (.lit (.int .i64 0)), (.lit (.int .i64 0))] [(0, 1), (1, 1), (2, 1), (3, 1), (4, 1)]), [(.t 82), (.t 84), (.t 86), (.t 88), (.t 90)], none⟩, ⟨(some 92), none, .len, [(.t 91)], none⟩, ⟨(some 93), none, .mv, [(.c (.lit (.int .i64 0)))], none⟩]) (.block 2 (.loop c_hand_Check_a_p12))) c_hand_Check_a_p13)
set_option maxRecDepth 100000 in
abbrev c_hand_Check_a_p15 : VC :=
  (.seq (.seq (.ops 0 [⟨(some 59), none, (.fldA 0), [(.t 1)], none⟩, ⟨(some 60), none, .ld1, [(.t 59)], none⟩, ⟨(some 61), none, (.call 64), [(.t 60)], none⟩, ⟨(some 62), none, (.un .not), [(.t 61)], none⟩, ⟨(some 63), none, .mv, [(.t 62)], none⟩, ⟨(some 64), (some (63, false)), (.fldA 1), [(.t 1)], none⟩, ⟨(some 65), (some (63, false)), .ld1, [(.t 64)], none⟩, ⟨(some 66), (some (63, false)), (.call 64), [(.t 65)], none⟩, ⟨(some 67), (some (63, false)), (.un .not), [(.t 66)], none⟩, ⟨(some 68), none, .pick, [(.t 63), (.c (.lit (.bool true))), (.t 67)], none⟩, ⟨(some 69), none, .mv, [(.t 68)], none⟩, ⟨(some 70), (some (69, false)), (.fldA 3), [(.t 1)], none⟩, ⟨(some 71), (some (69, false)), .ld1, [(.t 70)], none⟩, ⟨(some 72), (some (69, false)), (.call 63), [(.t 71), (.c (.lit (.int .i64 1))), (.c (.lit (.int .i64 18)))], none⟩, ⟨(some 73), (some (69, false)), (.un .not), [(.t 72)], none⟩, ⟨(some 74), none, .pick, [(.t 69), (.c (.lit (.bool true))), (.t 73)], none⟩, ⟨(some 75), none, .mv, [(.t 74)], none⟩, ⟨(some 76), (some (75, false)), (.fldA 4), [(.t 1)], none⟩, ⟨(some 77), (some (75, false)), .ld1, [(.t 76)], none⟩, ⟨(some 78), (some (75, false)), (.call 63), [(.t 77), (.c (.lit (.int .i64 0))), (.c (.lit (.int .i64 18)))], none⟩, ⟨(some 79), (some (75, false)), (.un .not), [(.t 78)], none⟩, ⟨(some 80), none, .pick, [(.t 75), (.c (.lit (.bool true))), (.t 79)], none⟩]) (.cond (.t 80) c_hand_Check_a_p7 .skip)) c_hand_Check_a_p14)
set_option maxRecDepth 100000 in
abbrev c_hand_Check_a_p16 : VC :=
  (.seq (.seq (.ops 0 [⟨(some 27), none, .mv, [(.t 3)], none⟩, ⟨(some 28), none, .mv, [(.c (.lit (.int .i64 0)))], none⟩]) (.block 0 (.loop c_hand_Check_a_p6))) c_hand_Check_a_p15)
set_option maxRecDepth 100000 in
abbrev c_hand_Check_a_p17 : VC :=
  (.seq (.seq (.ops 0 [⟨(some 10), none, .mv, [(.t 3)], none⟩, ⟨(some 11), none, (.call 63), [(.t 10), (.c (.lit (.int .i64 1))), (.c (.lit (.int .i64 4)))], none⟩, ⟨(some 12), none, (.un .not), [(.t 11)], none⟩, ⟨(some 13), none, .mv, [(.t 12)], none⟩, ⟨(some 14), (some (13, false)), (.fldA 1), [(.t 1)], none⟩, ⟨(some 15), (some (13, false)), .ld1, [(.t 14)], none⟩, ⟨(some 16), (some (13, false)), .len, [(.t 15)], none⟩, ⟨(some 17), (some (13, false)), .mv, [(.t 3)], none⟩, ⟨(some 18), (some (13, false)), (.bin .neq), [(.t 16), (.t 17)], none⟩, ⟨(some 19), none, .pick, [(.t 13), (.c (.lit (.bool true))), (.t 18)], none⟩, ⟨(some 20), none, .mv, [(.t 19)], none⟩, ⟨(some 21), (some (20, false)), (.fldA 2), [(.t 1)], none⟩, ⟨(some 22), (some (20, false)), .ld1, [(.t 21)], none⟩, ⟨(some 23), (some (20, false)), .len, [(.t 22)], none⟩, ⟨(some 24), (some (20, false)), .mv, [(.t 3)], none⟩, ⟨(some 25), (some (20, false)), (.bin .neq), [(.t 23), (.t 24)], none⟩, ⟨(some 26), none, .pick, [(.t 20), (.c (.lit (.bool true))), (.t 25)], none⟩]) (.cond (.t 26) c_hand_Check_a_p1 .skip)) c_hand_Check_a_p16)
set_option maxRecDepth 100000 in
abbrev c_hand_Check_a_p18 : VC :=
  (.seq (.ops 0 [⟨(some 7), none, (.fldA 0), [(.t 1)], none⟩, ⟨(some 8), none, .ld1, [(.t 7)], none⟩, ⟨(some 9), none, .len, [(.t 8)], none⟩, ⟨(some 3), none, .mv, [(.t 9)], none⟩]) c_hand_Check_a_p17)
set_option maxRecDepth 100000 in
def c_hand_Check_a : VC :=
  (.seq (.ops 2 [⟨(some 1), none, (.box 25), [(.t 0)], none⟩, ⟨(some 2), none, .mv, [(.c (.lit (.int .i64 0)))], none⟩]) c_hand_Check_a_p18)
set_option maxRecDepth 100000 in
theorem k_hand_Check_a : Comp Try.prog allbx gtab 24 101 c_hand_Check_a [(.t 2)] := ⟨⟨Try.f24, _, Try.func24, rfl, rfl, by kernel_rfl, by kernel_rfl⟩⟩
set_option maxRecDepth 100000 in
abbrev c_hand_CheckChords_a_p1 : VC :=
  (.seq (.ops 0 [⟨(some 2), none, .mv, [(.c (.lit (.int .i64 2)))], none⟩]) .ret)
set_option maxRecDepth 100000 in
abbrev c_hand_CheckChords_a_p2 : VC :=
  (.seq (.ops 0 [⟨(some 2), none, .mv, [(.c (.lit (.int .i64 1)))], none⟩]) .ret)
set_option maxRecDepth 100000 in
abbrev c_hand_CheckChords_a_p3 : VC :=
  (.seq (.ops 0 [⟨(some 15), none, (.ldA 3), [(.t 4)], none⟩, ⟨(some 16), none, (.call 65), [(.t 15)], none⟩, ⟨(some 17), none, (.un .not), [(.t 16)], none⟩, ⟨(some 18), none, .mv, [(.t 17)], none⟩, ⟨(some 19), (some (18, false)), .mv, [(.t 3)], none⟩, ⟨(some 20), (some (18, false)), (.bin .gtr), [(.t 19), (.c (.lit (.int .i64 0)))], none⟩, ⟨(some 21), (some (18, false)), .mv, [(.t 20)], none⟩, ⟨(some 22), (some (21, true)), .mv, [(.t 0)], none⟩, ⟨(some 23), (some (21, true)), .mv, [(.t 3)], none⟩, ⟨(some 24), (some (21, true)), (.bin .sub), [(.t 23), (.c (.lit (.int .i64 1)))], none⟩, ⟨(some 25), (some (21, true)), (.ixA 3), [(.t 22), (.t 24)], none⟩, ⟨(some 26), (some (21, true)), (.ldA 3), [(.t 25)], (some [0, 1, 2, 3, 4, 5, 6, 7, 8, 9, 10])⟩, ⟨(some 27), (some (21, true)), (.ldA 3), [(.t 4)], (some [0, 1, 2, 3, 4, 5, 6])⟩, ⟨(some 28), (some (21, true)), (.call 66), [(.t 26), (.t 27)], none⟩, ⟨(some 29), (some (21, true)), (.un .not), [(.t 28)], none⟩, ⟨(some 30), (some (18, false)), .pick, [(.t 21), (.t 29), (.c (.lit (.bool false)))], none⟩, ⟨(some 31), none, .pick, [(.t 18), (.c (.lit (.bool true))), (.t 30)], none⟩]) (.cond (.t 31) c_hand_CheckChords_a_p2 .skip))
set_option maxRecDepth 100000 in
abbrev c_hand_CheckChords_a_p4 : VC :=
  (.ops 0 [⟨(some 32), none, (.bin .add), [(.t 10), (.c (.lit (.int .i64 1)))], none⟩, ⟨(some 10), none, .mv, [(.t 32)], none⟩])
set_option maxRecDepth 100000 in
abbrev c_hand_CheckChords_a_p5 : VC :=
  (.seq (.block 1 (.seq (.ops 6 [⟨(some 12), none, .mv, [(.t 10)], none⟩, ⟨(some 13), none, (.ixA 3), [(.t 8), (.t 10)], none⟩, ⟨(some 14), none, (.ldA 3), [(.t 13)], none⟩, ⟨(some 4), none, (.alloc 47 [(.sl 0 [] .exact), (.sl 0 [] .exact), (.sl 0 [] .exact)]), [], none⟩, ⟨(some 3), none, .mv, [(.t 12)], none⟩, ⟨none, none, (.st 3), [(.t 4), (.t 14)], none⟩]) c_hand_CheckChords_a_p3)) c_hand_CheckChords_a_p4)
set_option maxRecDepth 100000 in
abbrev c_hand_CheckChords_a_p6 : VC :=
  (.seq (.cond (.t 11) .skip (.exit 0)) c_hand_CheckChords_a_p5)
set_option maxRecDepth 100000 in
abbrev c_hand_CheckChords_a_p7 : VC :=
  (.seq (.ops 0 [⟨(some 11), none, (.bin .lss), [(.t 10), (.t 9)], none⟩]) c_hand_CheckChords_a_p6)
set_option maxRecDepth 100000 in
abbrev c_hand_CheckChords_a_p8 : VC :=
  (.seq (.ops 0 [⟨(some 2), none, .mv, [(.c (.lit (.int .i64 0)))], none⟩]) .ret)
set_option maxRecDepth 100000 in
abbrev c_hand_CheckChords_a_p9 : VC :=
  (.seq (.seq (.ops 0 [⟨(some 8), none, .mv, [(.t 0)], none⟩, ⟨(some 9), none, .len, [(.t 8)], none⟩, ⟨(some 10), none, .mv, [(.c (.lit (.int .i64 0)))], none⟩]) (.block 0 (.loop c_hand_CheckChords_a_p7))) c_hand_CheckChords_a_p8)
set_option maxRecDepth 100000 in
abbrev c_hand_CheckChords_a_p10 : VC :=
  (.seq (.seq (.ops 0 [⟨(some 5), none, .mv, [(.t 0)], none⟩, ⟨(some 6), none, .len, [(.t 5)], none⟩, ⟨(some 7), none, (.bin .gtr), [(.t 6), (.c (.lit (.int .i64 400)))], none⟩]) (.cond (.t 7) c_hand_CheckChords_a_p1 .skip)) c_hand_CheckChords_a_p9)
set_option maxRecDepth 100000 in
def c_hand_CheckChords_a : VC :=
  (.seq (.ops 0 [⟨(some 2), none, .mv, [(.c (.lit (.int .i64 0)))], none⟩]) c_hand_CheckChords_a_p10)
set_option maxRecDepth 100000 in
theorem k_hand_CheckChords_a : Comp Try.prog allbx gtab 26 33 c_hand_CheckChords_a [(.t 2)] := ⟨⟨Try.f26, _, Try.func26, rfl, rfl, by kernel_rfl, by kernel_rfl⟩⟩
set_option maxRecDepth 100000 in
abbrev c_hand_within_a_p1 : VC :=
  (.seq (.ops 0 [⟨(some 7), none, .mv, [(.t 0)], none⟩, ⟨(some 8), none, .mv, [(.t 1)], none⟩, ⟨(some 9), none, (.bin .geq), [(.t 7), (.t 8)], none⟩, ⟨(some 10), none, .mv, [(.t 9)], none⟩, ⟨(some 11), (some (10, true)), .mv, [(.t 0)], none⟩, ⟨(some 12), (some (10, true)), .mv, [(.t 2)], none⟩, ⟨(some 13), (some (10, true)), (.bin .leq), [(.t 11), (.t 12)], none⟩, ⟨(some 14), none, .pick, [(.t 10), (.t 13), (.c (.lit (.bool false)))], none⟩, ⟨(some 6), none, .mv, [(.t 14)], none⟩]) .ret)
set_option maxRecDepth 100000 in
def c_hand_within_a : VC :=
  (.seq (.ops 0 [⟨(some 6), none, .mv, [(.c (.lit (.bool false)))], none⟩]) c_hand_within_a_p1)
set_option maxRecDepth 100000 in
theorem k_hand_within_a : Comp Try.prog allbx gtab 63 15 c_hand_within_a [(.t 6)] := ⟨⟨Try.f63, _, Try.func63, rfl, rfl, by kernel_rfl, by kernel_rfl⟩⟩
set_option maxRecDepth 100000 in
abbrev c_slices_IsSorted_int_int_a_p1 : VC :=
  (.seq (.ops 0 [⟨(some 2), none, .mv, [(.c (.lit (.bool false)))], none⟩]) .ret)
set_option maxRecDepth 100000 in
abbrev c_slices_IsSorted_int_int_a_p2 : VC :=
  (.ops 0 [⟨(some 9), none, .mv, [(.t 3)], none⟩, ⟨(some 10), none, (.bin .sub), [(.t 9), (.c (.lit (.int .i64 1)))], none⟩, ⟨(some 3), none, .mv, [(.t 10)], none⟩])
set_option maxRecDepth 100000 in
abbrev c_slices_IsSorted_int_int_a_p3 : VC :=
  (.seq (.block 1 (.seq (.ops 0 [⟨(some 11), none, .mv, [(.t 0)], none⟩, ⟨(some 12), none, .mv, [(.t 3)], none⟩, ⟨(some 13), none, (.ixA 1), [(.t 11), (.t 12)], none⟩, ⟨(some 14), none, .ld1, [(.t 13)], (some [0, 1, 2])⟩, ⟨(some 15), none, .mv, [(.t 0)], none⟩, ⟨(some 16), none, .mv, [(.t 3)], none⟩, ⟨(some 17), none, (.bin .sub), [(.t 16), (.c (.lit (.int .i64 1)))], none⟩, ⟨(some 18), none, (.ixA 1), [(.t 15), (.t 17)], none⟩, ⟨(some 19), none, .ld1, [(.t 18)], (some [4, 5, 6, 7])⟩, ⟨(some 20), none, (.call 98), [(.t 14), (.t 19)], none⟩]) (.cond (.t 20) c_slices_IsSorted_int_int_a_p1 .skip))) c_slices_IsSorted_int_int_a_p2)
set_option maxRecDepth 100000 in
abbrev c_slices_IsSorted_int_int_a_p4 : VC :=
  (.seq (.seq (.ops 0 [⟨(some 7), none, .mv, [(.t 3)], none⟩, ⟨(some 8), none, (.bin .gtr), [(.t 7), (.c (.lit (.int .i64 0)))], none⟩]) (.cond (.t 8) .skip (.exit 0))) c_slices_IsSorted_int_int_a_p3)
set_option maxRecDepth 100000 in
abbrev c_slices_IsSorted_int_int_a_p5 : VC :=
  (.seq (.ops 0 [⟨(some 2), none, .mv, [(.c (.lit (.bool true)))], none⟩]) .ret)
set_option maxRecDepth 100000 in
abbrev c_slices_IsSorted_int_int_a_p6 : VC :=
  (.seq (.seq (.ops 0 [⟨(some 4), none, .mv, [(.t 0)], none⟩, ⟨(some 5), none, .len, [(.t 4)], none⟩, ⟨(some 6), none, (.bin .sub), [(.t 5), (.c (.lit (.int .i64 1)))], none⟩, ⟨(some 3), none, .mv, [(.t 6)], none⟩]) (.block 0 (.loop c_slices_IsSorted_int_int_a_p4))) c_slices_IsSorted_int_int_a_p5)
set_option maxRecDepth 100000 in
def c_slices_IsSorted_int_int_a : VC :=
  (.seq (.ops 0 [⟨(some 2), none, .mv, [(.c (.lit (.bool false)))], none⟩]) c_slices_IsSorted_int_int_a_p6)
set_option maxRecDepth 100000 in
theorem k_slices_IsSorted_int_int_a : Comp Try.prog allbx gtab 64 21 c_slices_IsSorted_int_int_a [(.t 2)] := ⟨⟨Try.f64, _, Try.func64, rfl, rfl, by kernel_rfl, by kernel_rfl⟩⟩
set_option maxRecDepth 100000 in
abbrev c_hand_right_a_p1 : VC :=
  (.seq (.ops 0 [⟨(some 2), none, .mv, [(.c (.lit (.bool false)))], none⟩]) .ret)
set_option maxRecDepth 100000 in
abbrev c_hand_right_a_p2 : VC :=
  (.ops 0 [⟨(some 32), none, (.fldA 0), [(.t 5)], none⟩, ⟨(some 33), none, .ld1, [(.t 32)], none⟩, ⟨(some 3), none, .mv, [(.t 33)], none⟩])
set_option maxRecDepth 100000 in
abbrev c_hand_right_a_p3 : VC :=
  (.seq (.seq (.ops 0 [⟨(some 17), none, (.fldA 0), [(.t 5)], none⟩, ⟨(some 18), none, .ld1, [(.t 17)], none⟩, ⟨(some 19), none, .mv, [(.t 3)], none⟩, ⟨(some 20), none, (.bin .leq), [(.t 18), (.t 19)], none⟩, ⟨(some 21), none, .mv, [(.t 20)], none⟩, ⟨(some 22), (some (21, false)), (.fldA 0), [(.t 5)], none⟩, ⟨(some 23), (some (21, false)), .ld1, [(.t 22)], none⟩, ⟨(some 24), (some (21, false)), (.bin .gtr), [(.t 23), (.c (.lit (.int .i64 14)))], none⟩, ⟨(some 25), none, .pick, [(.t 21), (.c (.lit (.bool true))), (.t 24)], none⟩, ⟨(some 26), none, .mv, [(.t 25)], none⟩, ⟨(some 27), (some (26, false)), (.fldA 1), [(.t 5)], none⟩, ⟨(some 28), (some (26, false)), .ld1, [(.t 27)], none⟩, ⟨(some 29), (some (26, false)), (.call 63), [(.t 28), (.c (.lit (.int .i64 1))), (.c (.lit (.int .i64 18)))], none⟩, ⟨(some 30), (some (26, false)), (.un .not), [(.t 29)], none⟩, ⟨(some 31), none, .pick, [(.t 26), (.c (.lit (.bool true))), (.t 30)], none⟩]) (.cond (.t 31) c_hand_right_a_p1 .skip)) c_hand_right_a_p2)
set_option maxRecDepth 100000 in
abbrev c_hand_right_a_p4 : VC :=
  (.ops 0 [⟨(some 34), none, (.bin .add), [(.t 13), (.c (.lit (.int .i64 1)))], none⟩, ⟨(some 13), none, .mv, [(.t 34)], none⟩])
set_option maxRecDepth 100000 in
abbrev c_hand_right_a_p5 : VC :=
  (.seq (.block 1 (.seq (.ops 4 [⟨(some 15), none, (.ixA 2), [(.t 11), (.t 13)], none⟩, ⟨(some 16), none, (.ldA 2), [(.t 15)], none⟩, ⟨(some 5), none, (.alloc 92 [(.lit (.int .i64 0)), (.lit (.int .i64 0))]), [], none⟩, ⟨none, none, (.st 2), [(.t 5), (.t 16)], none⟩]) c_hand_right_a_p3)) c_hand_right_a_p4)
set_option maxRecDepth 100000 in
abbrev c_hand_right_a_p6 : VC :=
  (.seq (.ops 0 [⟨(some 14), none, (.bin .lss), [(.t 13), (.t 12)], none⟩]) (.seq (.cond (.t 14) .skip (.exit 0)) c_hand_right_a_p5))
set_option maxRecDepth 100000 in
abbrev c_hand_right_a_p7 : VC :=
  (.seq (.ops 0 [⟨(some 2), none, .mv, [(.c (.lit (.bool false)))], none⟩]) .ret)
set_option maxRecDepth 100000 in
abbrev c_hand_right_a_p8 : VC :=
  (.seq (.ops 0 [⟨(some 2), none, .mv, [(.c (.lit (.bool false)))], none⟩]) .ret)
set_option maxRecDepth 100000 in
abbrev c_hand_right_a_p9 : VC :=
  (.seq (.ops 0 [⟨(some 52), none, (.ldA 3), [(.t 1)], none⟩, ⟨(some 53), none, .mv, [(.t 7)], none⟩, ⟨(some 54), none, (.call 100), [(.t 52), (.t 53)], none⟩, ⟨(some 55), none, (.bin .lss), [(.t 54), (.c (.lit (.int .i64 0)))], none⟩]) (.cond (.t 55) c_hand_right_a_p8 .skip))
set_option maxRecDepth 100000 in
abbrev c_hand_right_a_p10 : VC :=
  (.ops 0 [⟨(some 56), none, (.bin .add), [(.t 48), (.c (.lit (.int .i64 1)))], none⟩, ⟨(some 48), none, .mv, [(.t 56)], none⟩])
set_option maxRecDepth 100000 in
abbrev c_hand_right_a_p11 : VC :=
  (.seq (.block 3 (.seq (.ops 0 [⟨(some 50), none, (.ixA 1), [(.t 46), (.t 48)], none⟩, ⟨(some 51), none, .ld1, [(.t 50)], none⟩, ⟨(some 7), none, .mv, [(.t 51)], none⟩]) c_hand_right_a_p9)) c_hand_right_a_p10)
set_option maxRecDepth 100000 in
abbrev c_hand_right_a_p12 : VC :=
  (.seq (.ops 0 [⟨(some 49), none, (.bin .lss), [(.t 48), (.t 47)], none⟩]) (.seq (.cond (.t 49) .skip (.exit 2)) c_hand_right_a_p11))
set_option maxRecDepth 100000 in
abbrev c_hand_right_a_p13 : VC :=
  (.seq (.ops 0 [⟨(some 2), none, .mv, [(.c (.lit (.bool false)))], none⟩]) .ret)
set_option maxRecDepth 100000 in
abbrev c_hand_right_a_p14 : VC :=
  (.seq (.ops 0 [⟨(some 64), none, .mv, [(.t 9)], none⟩, ⟨(some 65), none, (.call 63), [(.t 64), (.c (.lit (.int .i64 1))), (.c (.lit (.int .i64 14)))], none⟩, ⟨(some 66), none, (.un .not), [(.t 65)], none⟩, ⟨(some 67), none, .mv, [(.t 66)], none⟩, ⟨(some 68), (some (67, false)), (.ldA 3), [(.t 1)], none⟩, ⟨(some 69), (some (67, false)), .mv, [(.t 9)], none⟩, ⟨(some 70), (some (67, false)), (.call 100), [(.t 68), (.t 69)], none⟩, ⟨(some 71), (some (67, false)), (.bin .geq), [(.t 70), (.c (.lit (.int .i64 0)))], none⟩, ⟨(some 72), none, .pick, [(.t 67), (.c (.lit (.bool true))), (.t 71)], none⟩]) (.cond (.t 72) c_hand_right_a_p13 .skip))
set_option maxRecDepth 100000 in
abbrev c_hand_right_a_p15 : VC :=
  (.ops 0 [⟨(some 73), none, (.bin .add), [(.t 60), (.c (.lit (.int .i64 1)))], none⟩, ⟨(some 60), none, .mv, [(.t 73)], none⟩])
set_option maxRecDepth 100000 in
abbrev c_hand_right_a_p16 : VC :=
  (.seq (.block 5 (.seq (.ops 0 [⟨(some 62), none, (.ixA 1), [(.t 58), (.t 60)], none⟩, ⟨(some 63), none, .ld1, [(.t 62)], none⟩, ⟨(some 9), none, .mv, [(.t 63)], none⟩]) c_hand_right_a_p14)) c_hand_right_a_p15)
set_option maxRecDepth 100000 in
abbrev c_hand_right_a_p17 : VC :=
  (.seq (.ops 0 [⟨(some 61), none, (.bin .lss), [(.t 60), (.t 59)], none⟩]) (.seq (.cond (.t 61) .skip (.exit 4)) c_hand_right_a_p16))
set_option maxRecDepth 100000 in
abbrev c_hand_right_a_p18 : VC :=
  (.seq (.ops 0 [⟨(some 2), none, .mv, [(.c (.lit (.bool true)))], none⟩]) .ret)
set_option maxRecDepth 100000 in
abbrev c_hand_right_a_p19 : VC :=
  (.seq (.seq (.ops 0 [⟨(some 57), none, (.fldA 2), [(.t 1)], none⟩, ⟨(some 58), none, .ld1, [(.t 57)], none⟩, ⟨(some 59), none, .len, [(.t 58)], none⟩, ⟨(some 60), none, .mv, [(.c (.lit (.int .i64 0)))], none⟩]) (.block 4 (.loop c_hand_right_a_p17))) c_hand_right_a_p18)
set_option maxRecDepth 100000 in
abbrev c_hand_right_a_p20 : VC :=
  (.seq (.seq (.ops 0 [⟨(some 45), none, (.fldA 1), [(.t 1)], none⟩, ⟨(some 46), none, .ld1, [(.t 45)], none⟩, ⟨(some 47), none, .len, [(.t 46)], none⟩, ⟨(some 48), none, .mv, [(.c (.lit (.int .i64 0)))], none⟩]) (.block 2 (.loop c_hand_right_a_p12))) c_hand_right_a_p19)
set_option maxRecDepth 100000 in
abbrev c_hand_right_a_p21 : VC :=
  (.seq (.seq (.ops 0 [⟨(some 35), none, (.fldA 1), [(.t 1)], none⟩, ⟨(some 36), none, .ld1, [(.t 35)], none⟩, ⟨(some 37), none, (.call 99), [(.t 36)], none⟩, ⟨(some 38), none, (.un .not), [(.t 37)], none⟩, ⟨(some 39), none, .mv, [(.t 38)], none⟩, ⟨(some 40), (some (39, false)), (.fldA 2), [(.t 1)], none⟩, ⟨(some 41), (some (39, false)), .ld1, [(.t 40)], none⟩, ⟨(some 42), (some (39, false)), (.call 99), [(.t 41)], none⟩, ⟨(some 43), (some (39, false)), (.un .not), [(.t 42)], none⟩, ⟨(some 44), none, .pick, [(.t 39), (.c (.lit (.bool true))), (.t 43)], none⟩]) (.cond (.t 44) c_hand_right_a_p7 .skip)) c_hand_right_a_p20)
set_option maxRecDepth 100000 in
abbrev c_hand_right_a_p22 : VC :=
  (.seq (.seq (.ops 0 [⟨(some 10), none, (.fldA 0), [(.t 1)], none⟩, ⟨(some 11), none, .ld1, [(.t 10)], none⟩, ⟨(some 12), none, .len, [(.t 11)], none⟩, ⟨(some 13), none, .mv, [(.c (.lit (.int .i64 0)))], none⟩]) (.block 0 (.loop c_hand_right_a_p6))) c_hand_right_a_p21)
set_option maxRecDepth 100000 in
abbrev c_hand_right_a_p23 : VC :=
  (.seq (.ops 0 [⟨(some 3), none, .mv, [(.c (.lit (.int .i64 0)))], none⟩]) c_hand_right_a_p22)
set_option maxRecDepth 100000 in
def c_hand_right_a : VC :=
  (.seq (.ops 2 [⟨(some 1), none, (.box 47), [(.t 0)], none⟩, ⟨(some 2), none, .mv, [(.c (.lit (.bool false)))], none⟩]) c_hand_right_a_p23)
set_option maxRecDepth 100000 in
theorem k_hand_right_a : Comp Try.prog allbx gtab 65 74 c_hand_right_a [(.t 2)] := ⟨⟨Try.f65, _, Try.func65, rfl, rfl, by kernel_rfl, by kernel_rfl⟩⟩
set_option maxRecDepth 100000 in
abbrev c_hand_follows_a_p1 : VC :=
  (.seq (.ops 0 [⟨(some 4), none, .mv, [(.c (.lit (.bool false)))], none⟩]) .ret)
set_option maxRecDepth 100000 in
abbrev c_hand_follows_a_p2 : VC :=
  (.seq (.ops 0 [⟨(some 18), none, .mv, [(.t 7)], none⟩, ⟨(some 19), none, (.bin .lss), [(.t 18), (.c (.lit (.int .i64 0)))], none⟩, ⟨(some 20), none, .mv, [(.t 19)], none⟩, ⟨(some 21), (some (20, false)), (.fldA 0), [(.t 2)], none⟩, ⟨(some 22), (some (20, false)), .ld1, [(.t 21)], (some [0, 1, 2, 3])⟩, ⟨(some 23), (some (20, false)), .mv, [(.t 7)], none⟩, ⟨(some 24), (some (20, false)), (.ixA 2), [(.t 22), (.t 23)], none⟩, ⟨(some 25), (some (20, false)), (.ldA 2), [(.t 24)], (some [0, 1, 2, 3, 4, 5, 6])⟩, ⟨(some 26), (some (20, false)), (.fldA 0), [(.t 3)], none⟩, ⟨(some 27), (some (20, false)), .ld1, [(.t 26)], (some [0, 1, 2, 8])⟩, ⟨(some 28), (some (20, false)), (.ldA 3), [(.t 3)], (some [0, 1, 2])⟩, ⟨(some 29), (some (20, false)), .mv, [(.t 6)], none⟩, ⟨(some 30), (some (20, false)), (.call 100), [(.t 28), (.t 29)], (some [0, 1, 2, 10, 11])⟩, ⟨(some 31), (some (20, false)), (.ixA 2), [(.t 27), (.t 30)], none⟩, ⟨(some 32), (some (20, false)), (.ldA 2), [(.t 31)], (some [0, 1, 2, 8, 9, 10, 11, 12, 13])⟩, ⟨(some 33), (some (20, false)), (.eqP [(0, 0), (1, 0)] true), [(.t 25), (.t 32)], none⟩, ⟨(some 34), none, .pick, [(.t 20), (.c (.lit (.bool true))), (.t 33)], none⟩]) (.cond (.t 34) c_hand_follows_a_p1 .skip))
set_option maxRecDepth 100000 in
abbrev c_hand_follows_a_p3 : VC :=
  (.seq (.ops 0 [⟨(some 15), none, (.ldA 3), [(.t 2)], none⟩, ⟨(some 16), none, .mv, [(.t 6)], none⟩, ⟨(some 17), none, (.call 100), [(.t 15), (.t 16)], none⟩, ⟨(some 7), none, .mv, [(.t 17)], none⟩]) c_hand_follows_a_p2)
set_option maxRecDepth 100000 in
abbrev c_hand_follows_a_p4 : VC :=
  (.ops 0 [⟨(some 35), none, (.bin .add), [(.t 11), (.c (.lit (.int .i64 1)))], none⟩, ⟨(some 11), none, .mv, [(.t 35)], none⟩])
set_option maxRecDepth 100000 in
abbrev c_hand_follows_a_p5 : VC :=
  (.seq (.block 1 (.seq (.ops 0 [⟨(some 13), none, (.ixA 1), [(.t 9), (.t 11)], none⟩, ⟨(some 14), none, .ld1, [(.t 13)], none⟩, ⟨(some 6), none, .mv, [(.t 14)], none⟩]) c_hand_follows_a_p3)) c_hand_follows_a_p4)
set_option maxRecDepth 100000 in
abbrev c_hand_follows_a_p6 : VC :=
  (.seq (.ops 0 [⟨(some 12), none, (.bin .lss), [(.t 11), (.t 10)], none⟩]) (.seq (.cond (.t 12) .skip (.exit 0)) c_hand_follows_a_p5))
set_option maxRecDepth 100000 in
abbrev c_hand_follows_a_p7 : VC :=
  (.seq (.ops 0 [⟨(some 4), none, .mv, [(.c (.lit (.bool true)))], none⟩]) .ret)
set_option maxRecDepth 100000 in
abbrev c_hand_follows_a_p8 : VC :=
  (.seq (.seq (.ops 0 [⟨(some 8), none, (.fldA 1), [(.t 3)], none⟩, ⟨(some 9), none, .ld1, [(.t 8)], none⟩, ⟨(some 10), none, .len, [(.t 9)], none⟩, ⟨(some 11), none, .mv, [(.c (.lit (.int .i64 0)))], none⟩]) (.block 0 (.loop c_hand_follows_a_p6))) c_hand_follows_a_p7)
set_option maxRecDepth 100000 in
def c_hand_follows_a : VC :=
  (.seq (.ops 3 [⟨(some 2), none, (.box 47), [(.t 0)], none⟩, ⟨(some 3), none, (.box 47), [(.t 1)], none⟩, ⟨(some 4), none, .mv, [(.c (.lit (.bool false)))], none⟩]) c_hand_follows_a_p8)
set_option maxRecDepth 100000 in
theorem k_hand_follows_a : Comp Try.prog allbx gtab 66 36 c_hand_follows_a [(.t 4)] := ⟨⟨Try.f66, _, Try.func66, rfl, rfl, by kernel_rfl, by kernel_rfl⟩⟩
set_option maxRecDepth 100000 in
abbrev c_hand_own_a_p1 : VC :=
  (.ops 0 [⟨(some 27), none, .mv, [(.t 7)], none⟩, ⟨(some 28), none, (.fldA 7), [(.t 3)], none⟩, ⟨(some 29), none, .ld1, [(.t 28)], none⟩, ⟨(some 30), none, (.bin .add), [(.t 27), (.t 29)], none⟩, ⟨(some 7), none, .mv, [(.t 30)], none⟩])
set_option maxRecDepth 100000 in
abbrev c_hand_own_a_p2 : VC :=
  (.ops 0 [⟨(some 31), none, .mv, [(.t 7)], none⟩, ⟨(some 32), none, (.fldA 8), [(.t 3)], none⟩, ⟨(some 33), none, .ld1, [(.t 32)], (some [1])⟩, ⟨(some 34), none, .mv, [(.t 9)], none⟩, ⟨(some 35), none, (.ixA 2), [(.t 34), (.c (.lit (.int .i64 0)))], none⟩, ⟨(some 36), none, (.fldA 1), [(.t 35)], none⟩, ⟨(some 37), none, .ld1, [(.t 36)], (some [3, 4, 5])⟩, ⟨(some 38), none, (.fldA 0), [(.t 5)], none⟩, ⟨(some 39), none, .ld1, [(.t 38)], (some [7])⟩, ⟨(some 40), none, .mv, [(.t 8)], none⟩, ⟨(some 41), none, (.bin .add), [(.t 39), (.t 40)], none⟩, ⟨(some 42), none, (.bin .sub), [(.t 41), (.c (.lit (.int .i64 1)))], none⟩, ⟨(some 43), none, (.call 118), [(.t 37), (.t 42)], (some [3, 4, 5, 6, 7, 8, 9, 10, 11])⟩, ⟨(some 44), none, (.bin .mul), [(.t 33), (.t 43)], none⟩, ⟨(some 45), none, (.bin .add), [(.t 31), (.t 44)], none⟩, ⟨(some 7), none, .mv, [(.t 45)], none⟩])
set_option maxRecDepth 100000 in
abbrev c_hand_own_a_p3 : VC :=
  (.seq (.seq (.ops 0 [⟨(some 24), none, .mv, [(.t 9)], none⟩, ⟨(some 25), none, .len, [(.t 24)], none⟩, ⟨(some 26), none, (.bin .gtr), [(.t 25), (.c (.lit (.int .i64 1)))], none⟩]) (.cond (.t 26) c_hand_own_a_p1 .skip)) c_hand_own_a_p2)
set_option maxRecDepth 100000 in
abbrev c_hand_own_a_p4 : VC :=
  (.seq (.seq (.ops 0 [⟨(some 21), none, .mv, [(.t 9)], none⟩, ⟨(some 22), none, .len, [(.t 21)], none⟩, ⟨(some 23), none, (.bin .eql), [(.t 22), (.c (.lit (.int .i64 0)))], none⟩]) (.cond (.t 23) (.exit 1) .skip)) c_hand_own_a_p3)
set_option maxRecDepth 100000 in
abbrev c_hand_own_a_p5 : VC :=
  (.ops 0 [⟨(some 15), none, .mv, [(.t 8)], none⟩, ⟨(some 16), none, (.bin .add), [(.t 15), (.c (.lit (.int .i64 1)))], none⟩, ⟨(some 8), none, .mv, [(.t 16)], none⟩])
set_option maxRecDepth 100000 in
abbrev c_hand_own_a_p6 : VC :=
  (.seq (.block 1 (.seq (.ops 0 [⟨(some 17), none, (.ldA 3), [(.t 4)], none⟩, ⟨(some 18), none, (.ldA 2), [(.t 5)], none⟩, ⟨(some 19), none, .mv, [(.t 8)], none⟩, ⟨(some 20), none, (.call 117), [(.t 17), (.t 18), (.t 19)], none⟩, ⟨(some 9), none, .mv, [(.t 20)], none⟩]) c_hand_own_a_p4)) c_hand_own_a_p5)
set_option maxRecDepth 100000 in
abbrev c_hand_own_a_p7 : VC :=
  (.seq (.seq (.ops 0 [⟨(some 10), none, .mv, [(.t 8)], none⟩, ⟨(some 11), none, (.fldA 0), [(.t 3)], none⟩, ⟨(some 12), none, .ld1, [(.t 11)], none⟩, ⟨(some 13), none, .len, [(.t 12)], none⟩, ⟨(some 14), none, (.bin .leq), [(.t 10), (.t 13)], none⟩]) (.cond (.t 14) .skip (.exit 0))) c_hand_own_a_p6)
set_option maxRecDepth 100000 in
abbrev c_hand_own_a_p8 : VC :=
  (.seq (.ops 0 [⟨(some 46), none, .mv, [(.t 7)], none⟩, ⟨(some 6), none, .mv, [(.t 46)], none⟩]) .ret)
set_option maxRecDepth 100000 in
abbrev c_hand_own_a_p9 : VC :=
  (.seq (.seq (.ops 0 [⟨(some 8), none, .mv, [(.c (.lit (.int .i64 1)))], none⟩]) (.block 0 (.loop c_hand_own_a_p7))) c_hand_own_a_p8)
set_option maxRecDepth 100000 in
abbrev c_hand_own_a_p10 : VC :=
  (.seq (.ops 0 [⟨(some 7), none, .mv, [(.c (.lit (.int .i64 0)))], none⟩]) c_hand_own_a_p9)
set_option maxRecDepth 100000 in
def c_hand_own_a : VC :=
  (.seq (.ops 4 [⟨(some 3), none, (.box 25), [(.t 0)], none⟩, ⟨(some 4), none, (.box 47), [(.t 1)], none⟩, ⟨(some 5), none, (.box 53), [(.t 2)], none⟩, ⟨(some 6), none, .mv, [(.c (.lit (.int .i64 0)))], none⟩]) c_hand_own_a_p10)
set_option maxRecDepth 100000 in
theorem k_hand_own_a : Comp Try.prog allbx gtab 81 47 c_hand_own_a [(.t 6)] := ⟨⟨Try.f81, _, Try.func81, rfl, rfl, by kernel_rfl, by kernel_rfl⟩⟩
set_option maxRecDepth 100000 in
abbrev c_hand_step_a_p1 : VC :=
  (.seq (.ops 0 [⟨(some 10), none, .mv, [(.c (.lit (.int .i64 0)))], none⟩, ⟨(some 11), none, .mv, [(.c (.lit (.bool false)))], none⟩]) .ret)
set_option maxRecDepth 100000 in
abbrev c_hand_step_a_p2 : VC :=
  (.seq (.ops 0 [⟨(some 27), none, (.fldA 1), [(.t 7)], none⟩, ⟨(some 28), none, .ld1, [(.t 27)], (some [0])⟩, ⟨(some 29), none, (.ldA 3), [(.t 6)], (some [])⟩, ⟨(some 30), none, .mv, [(.t 13)], none⟩, ⟨(some 31), none, (.call 100), [(.t 29), (.t 30)], (some [2, 3])⟩, ⟨(some 32), none, (.ixA 1), [(.t 28), (.t 31)], none⟩, ⟨(some 33), none, .ld1, [(.t 32)], (some [0, 1, 2, 3, 4, 5])⟩, ⟨(some 34), none, (.fldA 1), [(.t 9)], none⟩, ⟨(some 35), none, .ld1, [(.t 34)], (some [7])⟩, ⟨(some 36), none, (.ldA 3), [(.t 8)], (some [])⟩, ⟨(some 37), none, .mv, [(.t 13)], none⟩, ⟨(some 38), none, (.call 100), [(.t 36), (.t 37)], (some [2, 3, 4, 9, 10])⟩, ⟨(some 39), none, (.ixA 1), [(.t 35), (.t 38)], none⟩, ⟨(some 40), none, .ld1, [(.t 39)], (some [2, 3, 4, 7, 8, 9, 10, 11, 12])⟩, ⟨(some 41), none, (.bin .neq), [(.t 33), (.t 40)], none⟩]) (.cond (.t 41) c_hand_step_a_p1 .skip))
set_option maxRecDepth 100000 in
abbrev c_hand_step_a_p3 : VC :=
  (.ops 0 [⟨(some 42), none, (.bin .add), [(.t 23), (.c (.lit (.int .i64 1)))], none⟩, ⟨(some 23), none, .mv, [(.t 42)], none⟩])
set_option maxRecDepth 100000 in
abbrev c_hand_step_a_p4 : VC :=
  (.seq (.block 1 (.seq (.ops 0 [⟨(some 25), none, (.ixA 1), [(.t 21), (.t 23)], none⟩, ⟨(some 26), none, .ld1, [(.t 25)], none⟩, ⟨(some 13), none, .mv, [(.t 26)], none⟩]) c_hand_step_a_p2)) c_hand_step_a_p3)
set_option maxRecDepth 100000 in
abbrev c_hand_step_a_p5 : VC :=
  (.seq (.ops 0 [⟨(some 24), none, (.bin .lss), [(.t 23), (.t 22)], none⟩]) (.seq (.cond (.t 24) .skip (.exit 0)) c_hand_step_a_p4))
set_option maxRecDepth 100000 in
abbrev c_hand_step_a_p6 : VC :=
  (.seq (.ops 0 [⟨(some 10), none, .mv, [(.c (.lit (.int .i64 0)))], none⟩, ⟨(some 11), none, .mv, [(.c (.lit (.bool false)))], none⟩]) .ret)
set_option maxRecDepth 100000 in
abbrev c_hand_step_a_p7 : VC :=
  (.ops 0 [⟨(some 74), none, .mv, [(.t 16)], none⟩, ⟨(some 75), none, (.fldA 6), [(.t 5)], none⟩, ⟨(some 76), none, .ld1, [(.t 75)], none⟩, ⟨(some 77), none, (.bin .add), [(.t 74), (.t 76)], none⟩, ⟨(some 16), none, .mv, [(.t 77)], none⟩])
set_option maxRecDepth 100000 in
abbrev c_hand_step_a_p8 : VC :=
  (.ops 0 [⟨(some 110), none, .mv, [(.t 16)], none⟩, ⟨(some 111), none, (.fldA 9), [(.t 5)], none⟩, ⟨(some 112), none, .ld1, [(.t 111)], none⟩, ⟨(some 113), none, (.bin .add), [(.t 110), (.t 112)], none⟩, ⟨(some 16), none, .mv, [(.t 113)], none⟩])
set_option maxRecDepth 100000 in
abbrev c_hand_step_a_p9 : VC :=
  (.seq (.ops 0 [⟨(some 96), none, .mv, [(.t 18)], none⟩, ⟨(some 97), none, .len, [(.t 96)], none⟩, ⟨(some 98), none, (.bin .gtr), [(.t 97), (.c (.lit (.int .i64 0)))], none⟩, ⟨(some 99), none, .mv, [(.t 98)], none⟩, ⟨(some 100), (some (99, true)), .ld1, [(.t 19)], none⟩, ⟨(some 101), (some (99, true)), .len, [(.t 100)], none⟩, ⟨(some 102), (some (99, true)), (.bin .gtr), [(.t 101), (.c (.lit (.int .i64 0)))], none⟩, ⟨(some 103), none, .pick, [(.t 99), (.t 102), (.c (.lit (.bool false)))], none⟩, ⟨(some 104), none, .mv, [(.t 103)], none⟩, ⟨(some 105), (some (104, true)), .mv, [(.t 18)], none⟩, ⟨(some 106), (some (104, true)), (.mkfn 121), [(.t 19)], none⟩, ⟨(some 107), (some (104, true)), (.call 120), [(.t 105), (.t 106)], none⟩, ⟨(some 108), (some (104, true)), (.un .not), [(.t 107)], none⟩, ⟨(some 109), none, .pick, [(.t 104), (.t 108), (.c (.lit (.bool false)))], none⟩]) (.cond (.t 109) c_hand_step_a_p8 .skip))
set_option maxRecDepth 100000 in
abbrev c_hand_step_a_p10 : VC :=
  (.ops 0 [⟨(some 86), none, .mv, [(.t 17)], none⟩, ⟨(some 87), none, (.bin .add), [(.t 86), (.c (.lit (.int .i64 1)))], none⟩, ⟨(some 17), none, .mv, [(.t 87)], none⟩])
set_option maxRecDepth 100000 in
abbrev c_hand_step_a_p11 : VC :=
  (.seq (.block 3 (.seq (.ops 11 [⟨(some 88), none, (.ldA 3), [(.t 6)], (some [])⟩, ⟨(some 89), none, (.ldA 2), [(.t 7)], (some [])⟩, ⟨(some 90), none, .mv, [(.t 17)], none⟩, ⟨(some 91), none, (.callB 117), [(.t 88), (.t 89), (.t 90)], (some [0, 1, 2])⟩, ⟨(some 92), none, (.ldA 3), [(.t 8)], (some [])⟩, ⟨(some 93), none, (.ldA 2), [(.t 9)], (some [])⟩, ⟨(some 94), none, .mv, [(.t 17)], none⟩, ⟨(some 95), none, (.callB 117), [(.t 92), (.t 93), (.t 94)], (some [0, 1, 2, 3, 4, 5, 6])⟩, ⟨(some 19), none, (.alloc 45 [(.sl 0 [] .exact)]), [], (some [])⟩, ⟨(some 18), none, .mv, [(.t 91)], none⟩, ⟨none, none, (.st 1), [(.t 19), (.t 95)], none⟩]) c_hand_step_a_p9)) c_hand_step_a_p10)
set_option maxRecDepth 100000 in
abbrev c_hand_step_a_p12 : VC :=
  (.seq (.seq (.ops 0 [⟨(some 78), none, .mv, [(.t 17)], none⟩, ⟨(some 79), none, (.fldA 0), [(.t 5)], none⟩, ⟨(some 80), none, .ld1, [(.t 79)], none⟩, ⟨(some 81), none, .len, [(.t 80)], none⟩, ⟨(some 82), none, (.bin .leq), [(.t 78), (.t 81)], none⟩, ⟨(some 83), none, .mv, [(.t 82)], none⟩, ⟨(some 84), (some (83, true)), .mv, [(.t 15)], none⟩, ⟨(some 85), none, .pick, [(.t 83), (.t 84), (.c (.lit (.bool false)))], none⟩]) (.cond (.t 85) .skip (.exit 2))) c_hand_step_a_p11)
set_option maxRecDepth 100000 in
abbrev c_hand_step_a_p13 : VC :=
  (.seq (.ops 0 [⟨(some 114), none, .mv, [(.t 16)], none⟩, ⟨(some 10), none, .mv, [(.t 114)], none⟩, ⟨(some 11), none, .mv, [(.c (.lit (.bool true)))], none⟩]) .ret)
set_option maxRecDepth 100000 in
abbrev c_hand_step_a_p14 : VC :=
  (.seq (.seq (.ops 0 [⟨(some 17), none, .mv, [(.c (.lit (.int .i64 1)))], none⟩]) (.block 2 (.loop c_hand_step_a_p12))) c_hand_step_a_p13)
set_option maxRecDepth 100000 in
abbrev c_hand_step_a_p15 : VC :=
  (.seq (.seq (.ops 0 [⟨(some 69), none, .mv, [(.t 15)], none⟩, ⟨(some 70), none, .mv, [(.t 69)], none⟩, ⟨(some 71), (some (70, true)), .mv, [(.t 14)], none⟩, ⟨(some 72), (some (70, true)), (.bin .gtr), [(.t 71), (.c (.lit (.int .i64 0)))], none⟩, ⟨(some 73), none, .pick, [(.t 70), (.t 72), (.c (.lit (.bool false)))], none⟩]) (.cond (.t 73) c_hand_step_a_p7 .skip)) c_hand_step_a_p14)
set_option maxRecDepth 100000 in
abbrev c_hand_step_a_p16 : VC :=
  (.seq (.ops 0 [⟨(some 65), none, (.fldA 5), [(.t 5)], none⟩, ⟨(some 66), none, .ld1, [(.t 65)], none⟩, ⟨(some 67), none, .mv, [(.t 14)], none⟩, ⟨(some 68), none, (.bin .mul), [(.t 66), (.t 67)], none⟩, ⟨(some 16), none, .mv, [(.t 68)], none⟩]) c_hand_step_a_p15)
set_option maxRecDepth 100000 in
abbrev c_hand_step_a_p17 : VC :=
  (.seq (.seq (.ops 0 [⟨(some 58), none, .mv, [(.t 15)], none⟩, ⟨(some 59), none, .mv, [(.t 58)], none⟩, ⟨(some 60), (some (59, true)), .mv, [(.t 14)], none⟩, ⟨(some 61), (some (59, true)), (.fldA 4), [(.t 5)], none⟩, ⟨(some 62), (some (59, true)), .ld1, [(.t 61)], none⟩, ⟨(some 63), (some (59, true)), (.bin .gtr), [(.t 60), (.t 62)], none⟩, ⟨(some 64), none, .pick, [(.t 59), (.t 63), (.c (.lit (.bool false)))], none⟩]) (.cond (.t 64) c_hand_step_a_p6 .skip)) c_hand_step_a_p16)
set_option maxRecDepth 100000 in
abbrev c_hand_step_a_p18 : VC :=
  (.seq (.ops 0 [⟨(some 48), none, (.fldA 0), [(.t 6)], none⟩, ⟨(some 49), none, .ld1, [(.t 48)], none⟩, ⟨(some 50), none, .len, [(.t 49)], none⟩, ⟨(some 51), none, (.bin .gtr), [(.t 50), (.c (.lit (.int .i64 0)))], none⟩, ⟨(some 52), none, .mv, [(.t 51)], none⟩, ⟨(some 53), (some (52, true)), (.fldA 0), [(.t 8)], none⟩, ⟨(some 54), (some (52, true)), .ld1, [(.t 53)], none⟩, ⟨(some 55), (some (52, true)), .len, [(.t 54)], none⟩, ⟨(some 56), (some (52, true)), (.bin .gtr), [(.t 55), (.c (.lit (.int .i64 0)))], none⟩, ⟨(some 57), none, .pick, [(.t 52), (.t 56), (.c (.lit (.bool false)))], none⟩, ⟨(some 15), none, .mv, [(.t 57)], none⟩]) c_hand_step_a_p17)
set_option maxRecDepth 100000 in
abbrev c_hand_step_a_p19 : VC :=
  (.seq (.ops 0 [⟨(some 43), none, (.fldA 0), [(.t 7)], none⟩, ⟨(some 44), none, .ld1, [(.t 43)], none⟩, ⟨(some 45), none, (.fldA 0), [(.t 9)], none⟩, ⟨(some 46), none, .ld1, [(.t 45)], none⟩, ⟨(some 47), none, (.call 118), [(.t 44), (.t 46)], none⟩, ⟨(some 14), none, .mv, [(.t 47)], none⟩]) c_hand_step_a_p18)
set_option maxRecDepth 100000 in
abbrev c_hand_step_a_p20 : VC :=
  (.seq (.seq (.ops 0 [⟨(some 20), none, (.fldA 1), [(.t 8)], none⟩, ⟨(some 21), none, .ld1, [(.t 20)], none⟩, ⟨(some 22), none, .len, [(.t 21)], none⟩, ⟨(some 23), none, .mv, [(.c (.lit (.int .i64 0)))], none⟩]) (.block 0 (.loop c_hand_step_a_p5))) c_hand_step_a_p19)
set_option maxRecDepth 100000 in
def c_hand_step_a : VC :=
  (.seq (.ops 7 [⟨(some 5), none, (.box 25), [(.t 0)], none⟩, ⟨(some 6), none, (.box 47), [(.t 1)], none⟩, ⟨(some 7), none, (.box 53), [(.t 2)], none⟩, ⟨(some 8), none, (.box 47), [(.t 3)], none⟩, ⟨(some 9), none, (.box 53), [(.t 4)], none⟩, ⟨(some 10), none, .mv, [(.c (.lit (.int .i64 0)))], none⟩, ⟨(some 11), none, .mv, [(.c (.lit (.bool false)))], none⟩]) c_hand_step_a_p20)
set_option maxRecDepth 100000 in
theorem k_hand_step_a : Comp Try.prog (fun n => !([1000091,1000095].contains n)) gtab 83 115 c_hand_step_a [(.t 10), (.t 11)] := ⟨⟨Try.f83, _, Try.func83, rfl, rfl, by kernel_rfl, by kernel_rfl⟩⟩
set_option maxRecDepth 100000 in
abbrev c_hand_net_ways_a_p1 : VC :=
  (.ops 0 [⟨(some 45), none, .mv, [(.t 3)], none⟩, ⟨(some 46), none, .mv, [(.t 8)], none⟩, ⟨(some 47), none, .mv, [(.t 10)], none⟩, ⟨(some 48), none, .callv, [(.t 45), (.t 46), (.t 47)], none⟩])
set_option maxRecDepth 100000 in
abbrev c_hand_net_ways_a_p2 : VC :=
  (.seq (.ops 0 [⟨(some 44), none, .mv, [(.t 11)], none⟩]) (.cond (.t 44) c_hand_net_ways_a_p1 .skip))
set_option maxRecDepth 100000 in
abbrev c_hand_net_ways_a_p3 : VC :=
  (.seq (.ops 0 [⟨(some 37), none, .mv, [(.t 0)], none⟩, ⟨(some 38), none, .mv, [(.t 1)], none⟩, ⟨(some 39), none, .mv, [(.t 2)], none⟩, ⟨(some 40), none, .mv, [(.t 8)], none⟩, ⟨(some 41), none, (.call 94), [(.t 37), (.t 38), (.t 39), (.t 40)], none⟩, ⟨(some 36), none, .mv, [(.t 41)], none⟩, ⟨(some 42), none, (.ext 0), [(.t 36)], none⟩, ⟨(some 43), none, (.ext 1), [(.t 36)], none⟩, ⟨(some 10), none, .mv, [(.t 42)], none⟩, ⟨(some 11), none, .mv, [(.t 43)], none⟩]) c_hand_net_ways_a_p2)
set_option maxRecDepth 100000 in
abbrev c_hand_net_ways_a_p4 : VC :=
  (.seq (.seq (.ops 0 [⟨(some 34), none, .mv, [(.t 9)], none⟩, ⟨(some 35), none, (.bin .eql), [(.t 34), (.c (.lit (.int .i64 (-1))))], none⟩]) (.cond (.t 35) (.exit 1) .skip)) c_hand_net_ways_a_p3)
set_option maxRecDepth 100000 in
abbrev c_hand_net_ways_a_p5 : VC :=
  (.ops 0 [⟨(some 49), none, (.bin .add), [(.t 29), (.c (.lit (.int .i64 1)))], none⟩, ⟨(some 29), none, .mv, [(.t 49)], none⟩])
set_option maxRecDepth 100000 in
abbrev c_hand_net_ways_a_p6 : VC :=
  (.seq (.block 1 (.seq (.ops 0 [⟨(some 31), none, .mv, [(.t 29)], none⟩, ⟨(some 32), none, (.ixA 1), [(.t 27), (.t 29)], none⟩, ⟨(some 33), none, .ld1, [(.t 32)], none⟩, ⟨(some 8), none, .mv, [(.t 31)], none⟩, ⟨(some 9), none, .mv, [(.t 33)], none⟩]) c_hand_net_ways_a_p4)) c_hand_net_ways_a_p5)
set_option maxRecDepth 100000 in
abbrev c_hand_net_ways_a_p7 : VC :=
  (.seq (.ops 0 [⟨(some 30), none, (.bin .lss), [(.t 29), (.t 28)], none⟩]) (.seq (.cond (.t 30) .skip (.exit 0)) c_hand_net_ways_a_p6))
set_option maxRecDepth 100000 in
abbrev c_hand_net_ways_a_p8 : VC :=
  (.seq (.ops 0 [⟨(some 20), none, .mv, [(.t 0)], none⟩, ⟨(some 21), none, .nilck, [(.t 20)], none⟩, ⟨(some 22), none, (.fldA 13), [(.t 21)], none⟩, ⟨(some 23), none, .ld1, [(.t 22)], none⟩, ⟨(some 24), none, .mv, [(.t 1)], none⟩, ⟨(some 25), none, (.bin .add), [(.t 24), (.c (.lit (.int .i64 1)))], none⟩, ⟨(some 26), none, (.ixA 1), [(.t 23), (.t 25)], none⟩, ⟨(some 27), none, .ld1, [(.t 26)], none⟩, ⟨(some 28), none, .len, [(.t 27)], none⟩, ⟨(some 29), none, .mv, [(.c (.lit (.int .i64 0)))], none⟩]) (.block 0 (.loop c_hand_net_ways_a_p7)))
set_option maxRecDepth 100000 in
def c_hand_net_ways_a : VC :=
  (.seq (.seq (.ops 0 [⟨(some 12), none, .mv, [(.t 1)], none⟩, ⟨(some 13), none, .mv, [(.t 0)], none⟩, ⟨(some 14), none, .nilck, [(.t 13)], none⟩, ⟨(some 15), none, (.fldA 10), [(.t 14)], none⟩, ⟨(some 16), none, .ld1, [(.t 15)], none⟩, ⟨(some 17), none, .len, [(.t 16)], none⟩, ⟨(some 18), none, (.bin .sub), [(.t 17), (.c (.lit (.int .i64 1)))], none⟩, ⟨(some 19), none, (.bin .eql), [(.t 12), (.t 18)], none⟩]) (.cond (.t 19) .ret .skip)) c_hand_net_ways_a_p8)
set_option maxRecDepth 100000 in
theorem k_hand_net_ways_a : Comp Try.prog allbx gtab 88 50 c_hand_net_ways_a [] := ⟨⟨Try.f88, _, Try.func88, rfl, rfl, by kernel_rfl, by kernel_rfl⟩⟩
set_option maxRecDepth 100000 in
abbrev c_cmp_Less_int_a_p1 : VC :=
  (.seq (.ops 0 [⟨(some 5), none, .mv, [(.t 0)], none⟩, ⟨(some 6), none, (.call 128), [(.t 5)], none⟩, ⟨(some 7), none, .mv, [(.t 6)], none⟩, ⟨(some 8), (some (7, true)), .mv, [(.t 1)], none⟩, ⟨(some 9), (some (7, true)), (.call 128), [(.t 8)], none⟩, ⟨(some 10), (some (7, true)), (.un .not), [(.t 9)], none⟩, ⟨(some 11), none, .pick, [(.t 7), (.t 10), (.c (.lit (.bool false)))], none⟩, ⟨(some 12), none, .mv, [(.t 11)], none⟩, ⟨(some 13), (some (12, false)), .mv, [(.t 0)], none⟩, ⟨(some 14), (some (12, false)), .mv, [(.t 1)], none⟩, ⟨(some 15), (some (12, false)), (.bin .lss), [(.t 13), (.t 14)], none⟩, ⟨(some 16), none, .pick, [(.t 12), (.c (.lit (.bool true))), (.t 15)], none⟩, ⟨(some 4), none, .mv, [(.t 16)], none⟩]) .ret)
set_option maxRecDepth 100000 in
def c_cmp_Less_int_a : VC :=
  (.seq (.ops 0 [⟨(some 4), none, .mv, [(.c (.lit (.bool false)))], none⟩]) c_cmp_Less_int_a_p1)
set_option maxRecDepth 100000 in
theorem k_cmp_Less_int_a : Comp Try.prog allbx gtab 98 17 c_cmp_Less_int_a [(.t 4)] := ⟨⟨Try.f98, _, Try.func98, rfl, rfl, by kernel_rfl, by kernel_rfl⟩⟩
set_option maxRecDepth 100000 in
abbrev c_hand_rising_a_p1 : VC :=
  (.seq (.ops 0 [⟨(some 2), none, .mv, [(.c (.lit (.bool false)))], none⟩]) .ret)
set_option maxRecDepth 100000 in
abbrev c_hand_rising_a_p2 : VC :=
  (.ops 0 [⟨(some 8), none, .mv, [(.t 3)], none⟩, ⟨(some 9), none, (.bin .add), [(.t 8), (.c (.lit (.int .i64 1)))], none⟩, ⟨(some 3), none, .mv, [(.t 9)], none⟩])
set_option maxRecDepth 100000 in
abbrev c_hand_rising_a_p3 : VC :=
  (.seq (.block 1 (.seq (.ops 0 [⟨(some 10), none, .mv, [(.t 0)], none⟩, ⟨(some 11), none, .mv, [(.t 3)], none⟩, ⟨(some 12), none, (.ixA 1), [(.t 10), (.t 11)], none⟩, ⟨(some 13), none, .ld1, [(.t 12)], (some [0, 1, 2])⟩, ⟨(some 14), none, .mv, [(.t 0)], none⟩, ⟨(some 15), none, .mv, [(.t 3)], none⟩, ⟨(some 16), none, (.bin .sub), [(.t 15), (.c (.lit (.int .i64 1)))], none⟩, ⟨(some 17), none, (.ixA 1), [(.t 14), (.t 16)], none⟩, ⟨(some 18), none, .ld1, [(.t 17)], (some [4, 5, 6, 7])⟩, ⟨(some 19), none, (.bin .leq), [(.t 13), (.t 18)], none⟩]) (.cond (.t 19) c_hand_rising_a_p1 .skip))) c_hand_rising_a_p2)
set_option maxRecDepth 100000 in
abbrev c_hand_rising_a_p4 : VC :=
  (.seq (.seq (.ops 0 [⟨(some 4), none, .mv, [(.t 3)], none⟩, ⟨(some 5), none, .mv, [(.t 0)], none⟩, ⟨(some 6), none, .len, [(.t 5)], none⟩, ⟨(some 7), none, (.bin .lss), [(.t 4), (.t 6)], none⟩]) (.cond (.t 7) .skip (.exit 0))) c_hand_rising_a_p3)
set_option maxRecDepth 100000 in
abbrev c_hand_rising_a_p5 : VC :=
  (.seq (.ops 0 [⟨(some 2), none, .mv, [(.c (.lit (.bool true)))], none⟩]) .ret)
set_option maxRecDepth 100000 in
abbrev c_hand_rising_a_p6 : VC :=
  (.seq (.seq (.ops 0 [⟨(some 3), none, .mv, [(.c (.lit (.int .i64 1)))], none⟩]) (.block 0 (.loop c_hand_rising_a_p4))) c_hand_rising_a_p5)
set_option maxRecDepth 100000 in
def c_hand_rising_a : VC :=
  (.seq (.ops 0 [⟨(some 2), none, .mv, [(.c (.lit (.bool false)))], none⟩]) c_hand_rising_a_p6)
set_option maxRecDepth 100000 in
theorem k_hand_rising_a : Comp Try.prog allbx gtab 99 20 c_hand_rising_a [(.t 2)] := ⟨⟨Try.f99, _, Try.func99, rfl, rfl, by kernel_rfl, by kernel_rfl⟩⟩
end Go.Proofs.Ytojjdkoglhecbaa
