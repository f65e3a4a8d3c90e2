/- Functions of the program, as code on values by numbers: printed by a program from the program that was given, and held against it here. -/
import Derived.Test.YtojjdkoglhecbaaG0
namespace Go.Proofs.Ytojjdkoglhecbaa
open Go.RowKit

set_option maxRecDepth 100000 in
abbrev c_hand_places_p1 : VC :=
  (.ops 9 [⟨(some 20), none, .mv, [(.t 6)], none⟩, ⟨(some 21), none, (.fldA 0), [(.t 3)], none⟩, ⟨(some 22), none, .ld1, [(.t 21)], none⟩, ⟨(some 23), none, .mv, [(.t 7)], none⟩, ⟨(some 24), none, (.ixA 2), [(.t 22), (.t 23)], none⟩, ⟨(some 25), none, (.ldA 2), [(.t 24)], none⟩, ⟨(some 26), none, (.mksl 1 2 [(.lit (.int .i64 0)), (.lit (.int .i64 0))] [(0, 2)]), [(.t 25)], none⟩, ⟨(some 27), none, (.app 92 2 16), [(.t 20), (.t 26)], none⟩, ⟨(some 6), none, .mv, [(.t 27)], none⟩])
set_option maxRecDepth 100000 in
abbrev c_hand_places_p2 : VC :=
  (.seq (.ops 0 [⟨(some 17), none, .mv, [(.t 8)], none⟩, ⟨(some 18), none, .mv, [(.t 2)], none⟩, ⟨(some 19), none, (.bin .eql), [(.t 17), (.t 18)], none⟩]) (.cond (.t 19) c_hand_places_p1 .skip))
set_option maxRecDepth 100000 in
abbrev c_hand_places_p3 : VC :=
  (.ops 0 [⟨(some 28), none, (.bin .add), [(.t 12), (.c (.lit (.int .i64 1)))], none⟩, ⟨(some 12), none, .mv, [(.t 28)], none⟩])
set_option maxRecDepth 100000 in
abbrev c_hand_places_p4 : VC :=
  (.seq (.block 1 (.seq (.ops 0 [⟨(some 14), none, .mv, [(.t 12)], none⟩, ⟨(some 15), none, (.ixA 1), [(.t 10), (.t 12)], none⟩, ⟨(some 16), none, .ld1, [(.t 15)], none⟩, ⟨(some 7), none, .mv, [(.t 14)], none⟩, ⟨(some 8), none, .mv, [(.t 16)], none⟩]) c_hand_places_p2)) c_hand_places_p3)
set_option maxRecDepth 100000 in
abbrev c_hand_places_p5 : VC :=
  (.seq (.ops 0 [⟨(some 13), none, (.bin .lss), [(.t 12), (.t 11)], none⟩]) (.seq (.cond (.t 13) .skip (.exit 0)) c_hand_places_p4))
abbrev w_hand_places_p5 : Nat := 536867264
set_option maxRecDepth 100000 in
abbrev c_hand_places_p7 : VC :=
  (.seq (.ops 0 [⟨(some 29), none, .mv, [(.t 6)], none⟩, ⟨(some 6), none, .mv, [(.t 29)], none⟩]) .ret)
set_option maxRecDepth 100000 in
abbrev c_hand_places_p8 : VC :=
  (.seq (.seq (.ops 0 [⟨(some 9), none, (.fldA 1), [(.t 4)], none⟩, ⟨(some 10), none, .ld1, [(.t 9)], none⟩, ⟨(some 11), none, .len, [(.t 10)], none⟩, ⟨(some 12), none, .mv, [(.c (.lit (.int .i64 0)))], none⟩]) (.block 0 (.loop c_hand_places_p5))) c_hand_places_p7)
set_option maxRecDepth 100000 in
def c_hand_places : VC :=
  (.seq (.ops 3 [⟨(some 3), none, (.box 47), [(.t 0)], none⟩, ⟨(some 4), none, (.box 53), [(.t 1)], none⟩, ⟨(some 6), none, .mv, [(.c (.sl 0 [] .exact))], none⟩]) c_hand_places_p8)
set_option maxRecDepth 100000 in
theorem k_hand_places : Comp Try.prog nobx gtab 117 30 c_hand_places [(.t 6)] := ⟨⟨Try.f117, _, Try.func117, rfl, rfl, by kernel_rfl, by kernel_rfl⟩⟩
set_option maxRecDepth 100000 in
abbrev c_hand_own_p1 : VC :=
  (.ops 0 [⟨(some 27), none, .mv, [(.t 7)], none⟩, ⟨(some 28), none, (.fldA 7), [(.t 3)], none⟩, ⟨(some 29), none, .ld1, [(.t 28)], none⟩, ⟨(some 30), none, (.bin .add), [(.t 27), (.t 29)], none⟩, ⟨(some 7), none, .mv, [(.t 30)], none⟩])
set_option maxRecDepth 100000 in
abbrev c_hand_own_p2 : VC :=
  (.ops 0 [⟨(some 31), none, .mv, [(.t 7)], none⟩, ⟨(some 32), none, (.fldA 8), [(.t 3)], none⟩, ⟨(some 33), none, .ld1, [(.t 32)], (some [1])⟩, ⟨(some 34), none, .mv, [(.t 9)], none⟩, ⟨(some 35), none, (.ixA 2), [(.t 34), (.c (.lit (.int .i64 0)))], none⟩, ⟨(some 36), none, (.fldA 1), [(.t 35)], none⟩, ⟨(some 37), none, .ld1, [(.t 36)], (some [3, 4, 5])⟩, ⟨(some 38), none, (.fldA 0), [(.t 5)], none⟩, ⟨(some 39), none, .ld1, [(.t 38)], (some [7])⟩, ⟨(some 40), none, .mv, [(.t 8)], none⟩, ⟨(some 41), none, (.bin .add), [(.t 39), (.t 40)], none⟩, ⟨(some 42), none, (.bin .sub), [(.t 41), (.c (.lit (.int .i64 1)))], none⟩, ⟨(some 43), none, (.call 118), [(.t 37), (.t 42)], (some [3, 4, 5, 6, 7, 8, 9, 10, 11])⟩, ⟨(some 44), none, (.bin .mul), [(.t 33), (.t 43)], none⟩, ⟨(some 45), none, (.bin .add), [(.t 31), (.t 44)], none⟩, ⟨(some 7), none, .mv, [(.t 45)], none⟩])
set_option maxRecDepth 100000 in
abbrev c_hand_own_p3 : VC :=
  (.seq (.seq (.ops 0 [⟨(some 24), none, .mv, [(.t 9)], none⟩, ⟨(some 25), none, .len, [(.t 24)], none⟩, ⟨(some 26), none, (.bin .gtr), [(.t 25), (.c (.lit (.int .i64 1)))], none⟩]) (.cond (.t 26) c_hand_own_p1 .skip)) c_hand_own_p2)
set_option maxRecDepth 100000 in
abbrev c_hand_own_p4 : VC :=
  (.seq (.seq (.ops 0 [⟨(some 21), none, .mv, [(.t 9)], none⟩, ⟨(some 22), none, .len, [(.t 21)], none⟩, ⟨(some 23), none, (.bin .eql), [(.t 22), (.c (.lit (.int .i64 0)))], none⟩]) (.cond (.t 23) (.exit 1) .skip)) c_hand_own_p3)
set_option maxRecDepth 100000 in
abbrev c_hand_own_p5 : VC :=
  (.ops 0 [⟨(some 15), none, .mv, [(.t 8)], none⟩, ⟨(some 16), none, (.bin .add), [(.t 15), (.c (.lit (.int .i64 1)))], none⟩, ⟨(some 8), none, .mv, [(.t 16)], none⟩])
set_option maxRecDepth 100000 in
abbrev c_hand_own_p6 : VC :=
  (.seq (.block 1 (.seq (.ops 0 [⟨(some 17), none, (.ldA 3), [(.t 4)], none⟩, ⟨(some 18), none, (.ldA 2), [(.t 5)], none⟩, ⟨(some 19), none, .mv, [(.t 8)], none⟩, ⟨(some 20), none, (.call 117), [(.t 17), (.t 18), (.t 19)], none⟩, ⟨(some 9), none, .mv, [(.t 20)], none⟩]) c_hand_own_p4)) c_hand_own_p5)
set_option maxRecDepth 100000 in
abbrev c_hand_own_p7 : VC :=
  (.seq (.seq (.ops 0 [⟨(some 10), none, .mv, [(.t 8)], none⟩, ⟨(some 11), none, (.fldA 0), [(.t 3)], none⟩, ⟨(some 12), none, .ld1, [(.t 11)], none⟩, ⟨(some 13), none, .len, [(.t 12)], none⟩, ⟨(some 14), none, (.bin .leq), [(.t 10), (.t 13)], none⟩]) (.cond (.t 14) .skip (.exit 0))) c_hand_own_p6)
abbrev w_hand_own_p7 : Nat := 70368744177536
set_option maxRecDepth 100000 in
abbrev c_hand_own_p9 : VC :=
  (.seq (.ops 0 [⟨(some 46), none, .mv, [(.t 7)], none⟩, ⟨(some 6), none, .mv, [(.t 46)], none⟩]) .ret)
set_option maxRecDepth 100000 in
abbrev c_hand_own_p10 : VC :=
  (.seq (.seq (.ops 0 [⟨(some 8), none, .mv, [(.c (.lit (.int .i64 1)))], none⟩]) (.block 0 (.loop c_hand_own_p7))) c_hand_own_p9)
set_option maxRecDepth 100000 in
abbrev c_hand_own_p11 : VC :=
  (.seq (.ops 0 [⟨(some 7), none, .mv, [(.c (.lit (.int .i64 0)))], none⟩]) c_hand_own_p10)
set_option maxRecDepth 100000 in
def c_hand_own : VC :=
  (.seq (.ops 4 [⟨(some 3), none, (.box 25), [(.t 0)], none⟩, ⟨(some 4), none, (.box 47), [(.t 1)], none⟩, ⟨(some 5), none, (.box 53), [(.t 2)], none⟩, ⟨(some 6), none, .mv, [(.c (.lit (.int .i64 0)))], none⟩]) c_hand_own_p11)
set_option maxRecDepth 100000 in
theorem k_hand_own : Comp Try.prog nobx gtab 81 47 c_hand_own [(.t 6)] := ⟨⟨Try.f81, _, Try.func81, rfl, rfl, by kernel_rfl, by kernel_rfl⟩⟩
set_option maxRecDepth 100000 in
abbrev c_hand_distance_p1 : VC :=
  (.seq (.ops 0 [⟨(some 5), none, .mv, [(.t 0)], none⟩, ⟨(some 6), none, .mv, [(.t 1)], none⟩, ⟨(some 7), none, (.bin .sub), [(.t 5), (.t 6)], none⟩, ⟨(some 8), none, .mv, [(.t 1)], none⟩, ⟨(some 9), none, .mv, [(.t 0)], none⟩, ⟨(some 10), none, (.bin .sub), [(.t 8), (.t 9)], none⟩, ⟨(some 11), none, .mx, [(.t 7), (.t 10)], none⟩, ⟨(some 4), none, .mv, [(.t 11)], none⟩]) .ret)
set_option maxRecDepth 100000 in
def c_hand_distance : VC :=
  (.seq (.ops 0 [⟨(some 4), none, .mv, [(.c (.lit (.int .i64 0)))], none⟩]) c_hand_distance_p1)
set_option maxRecDepth 100000 in
theorem k_hand_distance : Comp Try.prog nobx gtab 118 12 c_hand_distance [(.t 4)] := ⟨⟨Try.f118, _, Try.func118, rfl, rfl, by kernel_rfl, by kernel_rfl⟩⟩
set_option maxRecDepth 100000 in
abbrev c_hand_Own_p1 : VC :=
  (.seq (.ops 0 [⟨(some 13), none, .mv, [(.t 8)], none⟩, ⟨(some 6), none, .mv, [(.c (.lit (.int .i64 0)))], none⟩, ⟨(some 7), none, .mv, [(.t 13)], none⟩]) .ret)
set_option maxRecDepth 100000 in
abbrev c_hand_Own_p2 : VC :=
  (.seq (.ops 0 [⟨(some 11), none, .mv, [(.t 8)], none⟩, ⟨(some 12), none, (.bin .neq), [(.t 11), (.c (.lit (.int .i64 0)))], none⟩]) (.cond (.t 12) c_hand_Own_p1 .skip))
set_option maxRecDepth 100000 in
abbrev c_hand_Own_p3 : VC :=
  (.seq (.ops 0 [⟨(some 6), none, .mv, [(.c (.lit (.int .i64 0)))], none⟩, ⟨(some 7), none, .mv, [(.c (.lit (.int .i64 1)))], none⟩]) .ret)
set_option maxRecDepth 100000 in
abbrev c_hand_Own_p4 : VC :=
  (.seq (.ops 0 [⟨(some 6), none, .mv, [(.c (.lit (.int .i64 0)))], none⟩, ⟨(some 7), none, .mv, [(.c (.lit (.int .i64 61)))], none⟩]) .ret)
set_option maxRecDepth 100000 in
abbrev c_hand_Own_p5 : VC :=
  (.seq (.ops 0 [⟨(some 19), none, (.ldA 10), [(.t 3)], none⟩, ⟨(some 20), none, (.ldA 3), [(.t 4)], none⟩, ⟨(some 21), none, (.ldA 2), [(.t 5)], none⟩, ⟨(some 22), none, (.call 78), [(.t 19), (.t 20), (.t 21)], none⟩, ⟨(some 23), none, (.un .not), [(.t 22)], none⟩, ⟨(some 18), none, .mv, [(.t 23)], none⟩]) (.cond (.t 18) c_hand_Own_p4 .skip))
set_option maxRecDepth 100000 in
abbrev c_hand_Own_p6 : VC :=
  (.seq (.ops 0 [⟨(some 24), none, (.ldA 10), [(.t 3)], none⟩, ⟨(some 25), none, (.ldA 3), [(.t 4)], none⟩, ⟨(some 26), none, (.ldA 2), [(.t 5)], none⟩, ⟨(some 27), none, (.call 81), [(.t 24), (.t 25), (.t 26)], none⟩, ⟨(some 6), none, .mv, [(.t 27)], none⟩, ⟨(some 7), none, .mv, [(.c (.lit (.int .i64 0)))], none⟩]) .ret)
set_option maxRecDepth 100000 in
abbrev c_hand_Own_p7 : VC :=
  (.seq (.block 0 (.seq (.ops 0 [⟨(some 15), none, (.ldA 3), [(.t 4)], none⟩, ⟨(some 16), none, (.call 65), [(.t 15)], none⟩, ⟨(some 17), none, (.un .not), [(.t 16)], none⟩, ⟨(some 14), none, .mv, [(.t 17)], none⟩]) (.cond (.t 14) c_hand_Own_p3 c_hand_Own_p5))) c_hand_Own_p6)
set_option maxRecDepth 100000 in
abbrev c_hand_Own_p8 : VC :=
  (.seq (.seq (.ops 0 [⟨(some 9), none, (.ldA 10), [(.t 3)], none⟩, ⟨(some 10), none, (.call 24), [(.t 9)], none⟩, ⟨(some 8), none, .mv, [(.t 10)], none⟩]) c_hand_Own_p2) c_hand_Own_p7)
set_option maxRecDepth 100000 in
def c_hand_Own : VC :=
  (.seq (.ops 5 [⟨(some 3), none, (.box 25), [(.t 0)], none⟩, ⟨(some 4), none, (.box 47), [(.t 1)], none⟩, ⟨(some 5), none, (.box 53), [(.t 2)], none⟩, ⟨(some 6), none, .mv, [(.c (.lit (.int .i64 0)))], none⟩, ⟨(some 7), none, .mv, [(.c (.lit (.int .i64 0)))], none⟩]) c_hand_Own_p8)
set_option maxRecDepth 100000 in
theorem k_hand_Own : Comp Try.prog nobx gtab 43 28 c_hand_Own [(.t 6), (.t 7)] := ⟨⟨Try.f43, _, Try.func43, rfl, rfl, by kernel_rfl, by kernel_rfl⟩⟩
set_option maxRecDepth 100000 in
abbrev c_hand_step_p1 : VC :=
  (.seq (.ops 0 [⟨(some 10), none, .mv, [(.c (.lit (.int .i64 0)))], none⟩, ⟨(some 11), none, .mv, [(.c (.lit (.bool false)))], none⟩]) .ret)
set_option maxRecDepth 100000 in
abbrev c_hand_step_p2 : VC :=
  (.seq (.ops 0 [⟨(some 27), none, (.fldA 1), [(.t 7)], none⟩, ⟨(some 28), none, .ld1, [(.t 27)], (some [0])⟩, ⟨(some 29), none, (.ldA 3), [(.t 6)], (some [])⟩, ⟨(some 30), none, .mv, [(.t 13)], none⟩, ⟨(some 31), none, (.call 100), [(.t 29), (.t 30)], (some [2, 3])⟩, ⟨(some 32), none, (.ixA 1), [(.t 28), (.t 31)], none⟩, ⟨(some 33), none, .ld1, [(.t 32)], (some [0, 1, 2, 3, 4, 5])⟩, ⟨(some 34), none, (.fldA 1), [(.t 9)], none⟩, ⟨(some 35), none, .ld1, [(.t 34)], (some [7])⟩, ⟨(some 36), none, (.ldA 3), [(.t 8)], (some [])⟩, ⟨(some 37), none, .mv, [(.t 13)], none⟩, ⟨(some 38), none, (.call 100), [(.t 36), (.t 37)], (some [2, 3, 4, 9, 10])⟩, ⟨(some 39), none, (.ixA 1), [(.t 35), (.t 38)], none⟩, ⟨(some 40), none, .ld1, [(.t 39)], (some [2, 3, 4, 7, 8, 9, 10, 11, 12])⟩, ⟨(some 41), none, (.bin .neq), [(.t 33), (.t 40)], none⟩]) (.cond (.t 41) c_hand_step_p1 .skip))
set_option maxRecDepth 100000 in
abbrev c_hand_step_p3 : VC :=
  (.ops 0 [⟨(some 42), none, (.bin .add), [(.t 23), (.c (.lit (.int .i64 1)))], none⟩, ⟨(some 23), none, .mv, [(.t 42)], none⟩])
set_option maxRecDepth 100000 in
abbrev c_hand_step_p4 : VC :=
  (.seq (.block 1 (.seq (.ops 0 [⟨(some 25), none, (.ixA 1), [(.t 21), (.t 23)], none⟩, ⟨(some 26), none, .ld1, [(.t 25)], none⟩, ⟨(some 13), none, .mv, [(.t 26)], none⟩]) c_hand_step_p2)) c_hand_step_p3)
set_option maxRecDepth 100000 in
abbrev c_hand_step_p5 : VC :=
  (.seq (.ops 0 [⟨(some 24), none, (.bin .lss), [(.t 23), (.t 22)], none⟩]) (.seq (.cond (.t 24) .skip (.exit 0)) c_hand_step_p4))
abbrev w_hand_step_p5 : Nat := 8796084644864
set_option maxRecDepth 100000 in
abbrev c_hand_step_p7 : VC :=
  (.seq (.ops 0 [⟨(some 10), none, .mv, [(.c (.lit (.int .i64 0)))], none⟩, ⟨(some 11), none, .mv, [(.c (.lit (.bool false)))], none⟩]) .ret)
set_option maxRecDepth 100000 in
abbrev c_hand_step_p8 : VC :=
  (.ops 0 [⟨(some 74), none, .mv, [(.t 16)], none⟩, ⟨(some 75), none, (.fldA 6), [(.t 5)], none⟩, ⟨(some 76), none, .ld1, [(.t 75)], none⟩, ⟨(some 77), none, (.bin .add), [(.t 74), (.t 76)], none⟩, ⟨(some 16), none, .mv, [(.t 77)], none⟩])
set_option maxRecDepth 100000 in
abbrev c_hand_step_p9 : VC :=
  (.ops 0 [⟨(some 110), none, .mv, [(.t 16)], none⟩, ⟨(some 111), none, (.fldA 9), [(.t 5)], none⟩, ⟨(some 112), none, .ld1, [(.t 111)], none⟩, ⟨(some 113), none, (.bin .add), [(.t 110), (.t 112)], none⟩, ⟨(some 16), none, .mv, [(.t 113)], none⟩])
set_option maxRecDepth 100000 in
abbrev c_hand_step_p10 : VC :=
  (.seq (.ops 0 [⟨(some 96), none, .mv, [(.t 18)], none⟩, ⟨(some 97), none, .len, [(.t 96)], none⟩, ⟨(some 98), none, (.bin .gtr), [(.t 97), (.c (.lit (.int .i64 0)))], none⟩, ⟨(some 99), none, .mv, [(.t 98)], none⟩, ⟨(some 100), (some (99, true)), .ld1, [(.t 19)], none⟩, ⟨(some 101), (some (99, true)), .len, [(.t 100)], none⟩, ⟨(some 102), (some (99, true)), (.bin .gtr), [(.t 101), (.c (.lit (.int .i64 0)))], none⟩, ⟨(some 103), none, .pick, [(.t 99), (.t 102), (.c (.lit (.bool false)))], none⟩, ⟨(some 104), none, .mv, [(.t 103)], none⟩, ⟨(some 105), (some (104, true)), .mv, [(.t 18)], none⟩, ⟨(some 106), (some (104, true)), (.mkfn 121), [(.t 19)], none⟩, ⟨(some 107), (some (104, true)), (.call 120), [(.t 105), (.t 106)], none⟩, ⟨(some 108), (some (104, true)), (.un .not), [(.t 107)], none⟩, ⟨(some 109), none, .pick, [(.t 104), (.t 108), (.c (.lit (.bool false)))], none⟩]) (.cond (.t 109) c_hand_step_p9 .skip))
set_option maxRecDepth 100000 in
abbrev c_hand_step_p11 : VC :=
  (.ops 0 [⟨(some 86), none, .mv, [(.t 17)], none⟩, ⟨(some 87), none, (.bin .add), [(.t 86), (.c (.lit (.int .i64 1)))], none⟩, ⟨(some 17), none, .mv, [(.t 87)], none⟩])
set_option maxRecDepth 100000 in
abbrev c_hand_step_p12 : VC :=
  (.seq (.block 3 (.seq (.ops 11 [⟨(some 88), none, (.ldA 3), [(.t 6)], (some [])⟩, ⟨(some 89), none, (.ldA 2), [(.t 7)], (some [])⟩, ⟨(some 90), none, .mv, [(.t 17)], none⟩, ⟨(some 91), none, (.call 117), [(.t 88), (.t 89), (.t 90)], (some [0, 1, 2])⟩, ⟨(some 92), none, (.ldA 3), [(.t 8)], (some [])⟩, ⟨(some 93), none, (.ldA 2), [(.t 9)], (some [])⟩, ⟨(some 94), none, .mv, [(.t 17)], none⟩, ⟨(some 95), none, (.call 117), [(.t 92), (.t 93), (.t 94)], (some [0, 1, 2, 3, 4, 5, 6])⟩, ⟨(some 19), none, (.alloc 45 [(.sl 0 [] .exact)]), [], (some [])⟩, ⟨(some 18), none, .mv, [(.t 91)], none⟩, ⟨none, none, (.st 1), [(.t 19), (.t 95)], none⟩]) c_hand_step_p10)) c_hand_step_p11)
set_option maxRecDepth 100000 in
abbrev c_hand_step_p13 : VC :=
  (.seq (.seq (.ops 0 [⟨(some 78), none, .mv, [(.t 17)], none⟩, ⟨(some 79), none, (.fldA 0), [(.t 5)], none⟩, ⟨(some 80), none, .ld1, [(.t 79)], none⟩, ⟨(some 81), none, .len, [(.t 80)], none⟩, ⟨(some 82), none, (.bin .leq), [(.t 78), (.t 81)], none⟩, ⟨(some 83), none, .mv, [(.t 82)], none⟩, ⟨(some 84), (some (83, true)), .mv, [(.t 15)], none⟩, ⟨(some 85), none, .pick, [(.t 83), (.t 84), (.c (.lit (.bool false)))], none⟩]) (.cond (.t 85) .skip (.exit 2))) c_hand_step_p12)
abbrev w_hand_step_p13 : Nat := 20769187433837079059218328024186880
set_option maxRecDepth 100000 in
abbrev c_hand_step_p15 : VC :=
  (.seq (.ops 0 [⟨(some 114), none, .mv, [(.t 16)], none⟩, ⟨(some 10), none, .mv, [(.t 114)], none⟩, ⟨(some 11), none, .mv, [(.c (.lit (.bool true)))], none⟩]) .ret)
set_option maxRecDepth 100000 in
abbrev c_hand_step_p16 : VC :=
  (.seq (.seq (.ops 0 [⟨(some 17), none, .mv, [(.c (.lit (.int .i64 1)))], none⟩]) (.block 2 (.loop c_hand_step_p13))) c_hand_step_p15)
set_option maxRecDepth 100000 in
abbrev c_hand_step_p17 : VC :=
  (.seq (.seq (.ops 0 [⟨(some 69), none, .mv, [(.t 15)], none⟩, ⟨(some 70), none, .mv, [(.t 69)], none⟩, ⟨(some 71), (some (70, true)), .mv, [(.t 14)], none⟩, ⟨(some 72), (some (70, true)), (.bin .gtr), [(.t 71), (.c (.lit (.int .i64 0)))], none⟩, ⟨(some 73), none, .pick, [(.t 70), (.t 72), (.c (.lit (.bool false)))], none⟩]) (.cond (.t 73) c_hand_step_p8 .skip)) c_hand_step_p16)
set_option maxRecDepth 100000 in
abbrev c_hand_step_p18 : VC :=
  (.seq (.ops 0 [⟨(some 65), none, (.fldA 5), [(.t 5)], none⟩, ⟨(some 66), none, .ld1, [(.t 65)], none⟩, ⟨(some 67), none, .mv, [(.t 14)], none⟩, ⟨(some 68), none, (.bin .mul), [(.t 66), (.t 67)], none⟩, ⟨(some 16), none, .mv, [(.t 68)], none⟩]) c_hand_step_p17)
set_option maxRecDepth 100000 in
abbrev c_hand_step_p19 : VC :=
  (.seq (.seq (.ops 0 [⟨(some 58), none, .mv, [(.t 15)], none⟩, ⟨(some 59), none, .mv, [(.t 58)], none⟩, ⟨(some 60), (some (59, true)), .mv, [(.t 14)], none⟩, ⟨(some 61), (some (59, true)), (.fldA 4), [(.t 5)], none⟩, ⟨(some 62), (some (59, true)), .ld1, [(.t 61)], none⟩, ⟨(some 63), (some (59, true)), (.bin .gtr), [(.t 60), (.t 62)], none⟩, ⟨(some 64), none, .pick, [(.t 59), (.t 63), (.c (.lit (.bool false)))], none⟩]) (.cond (.t 64) c_hand_step_p7 .skip)) c_hand_step_p18)
set_option maxRecDepth 100000 in
abbrev c_hand_step_p20 : VC :=
  (.seq (.ops 0 [⟨(some 48), none, (.fldA 0), [(.t 6)], none⟩, ⟨(some 49), none, .ld1, [(.t 48)], none⟩, ⟨(some 50), none, .len, [(.t 49)], none⟩, ⟨(some 51), none, (.bin .gtr), [(.t 50), (.c (.lit (.int .i64 0)))], none⟩, ⟨(some 52), none, .mv, [(.t 51)], none⟩, ⟨(some 53), (some (52, true)), (.fldA 0), [(.t 8)], none⟩, ⟨(some 54), (some (52, true)), .ld1, [(.t 53)], none⟩, ⟨(some 55), (some (52, true)), .len, [(.t 54)], none⟩, ⟨(some 56), (some (52, true)), (.bin .gtr), [(.t 55), (.c (.lit (.int .i64 0)))], none⟩, ⟨(some 57), none, .pick, [(.t 52), (.t 56), (.c (.lit (.bool false)))], none⟩, ⟨(some 15), none, .mv, [(.t 57)], none⟩]) c_hand_step_p19)
set_option maxRecDepth 100000 in
abbrev c_hand_step_p21 : VC :=
  (.seq (.ops 0 [⟨(some 43), none, (.fldA 0), [(.t 7)], none⟩, ⟨(some 44), none, .ld1, [(.t 43)], none⟩, ⟨(some 45), none, (.fldA 0), [(.t 9)], none⟩, ⟨(some 46), none, .ld1, [(.t 45)], none⟩, ⟨(some 47), none, (.call 118), [(.t 44), (.t 46)], none⟩, ⟨(some 14), none, .mv, [(.t 47)], none⟩]) c_hand_step_p20)
set_option maxRecDepth 100000 in
abbrev c_hand_step_p22 : VC :=
  (.seq (.seq (.ops 0 [⟨(some 20), none, (.fldA 1), [(.t 8)], none⟩, ⟨(some 21), none, .ld1, [(.t 20)], none⟩, ⟨(some 22), none, .len, [(.t 21)], none⟩, ⟨(some 23), none, .mv, [(.c (.lit (.int .i64 0)))], none⟩]) (.block 0 (.loop c_hand_step_p5))) c_hand_step_p21)
set_option maxRecDepth 100000 in
def c_hand_step : VC :=
  (.seq (.ops 7 [⟨(some 5), none, (.box 25), [(.t 0)], none⟩, ⟨(some 6), none, (.box 47), [(.t 1)], none⟩, ⟨(some 7), none, (.box 53), [(.t 2)], none⟩, ⟨(some 8), none, (.box 47), [(.t 3)], none⟩, ⟨(some 9), none, (.box 53), [(.t 4)], none⟩, ⟨(some 10), none, .mv, [(.c (.lit (.int .i64 0)))], none⟩, ⟨(some 11), none, .mv, [(.c (.lit (.bool false)))], none⟩]) c_hand_step_p22)
set_option maxRecDepth 100000 in
theorem k_hand_step : Comp Try.prog nobx gtab 83 115 c_hand_step [(.t 10), (.t 11)] := ⟨⟨Try.f83, _, Try.func83, rfl, rfl, by kernel_rfl, by kernel_rfl⟩⟩
set_option maxRecDepth 100000 in
abbrev c_hand_step_1_p1 : VC :=
  (.seq (.ops 0 [⟨(some 4), none, .ld1, [(.t 1)], none⟩, ⟨(some 5), none, (.ldA 2), [(.t 2)], none⟩, ⟨(some 6), none, (.call 122), [(.t 4), (.t 5)], none⟩, ⟨(some 3), none, .mv, [(.t 6)], none⟩]) .ret)
set_option maxRecDepth 100000 in
def c_hand_step_1 : VC :=
  (.seq (.ops 2 [⟨(some 2), none, (.box 92), [(.t 0)], none⟩, ⟨(some 3), none, .mv, [(.c (.lit (.bool false)))], none⟩]) c_hand_step_1_p1)
set_option maxRecDepth 100000 in
theorem k_hand_step_1 : Comp Try.prog nobx gtab 121 7 c_hand_step_1 [(.t 3)] := ⟨⟨Try.f121, _, Try.func121, rfl, rfl, by kernel_rfl, by kernel_rfl⟩⟩
set_option maxRecDepth 100000 in
abbrev c_slices_Contains_api_Place_api_Place_p1 : VC :=
  (.seq (.ops 0 [⟨(some 5), none, .mv, [(.t 0)], none⟩, ⟨(some 6), none, (.ldA 2), [(.t 3)], none⟩, ⟨(some 7), none, (.call 136), [(.t 5), (.t 6)], none⟩, ⟨(some 8), none, (.bin .geq), [(.t 7), (.c (.lit (.int .i64 0)))], none⟩, ⟨(some 4), none, .mv, [(.t 8)], none⟩]) .ret)
set_option maxRecDepth 100000 in
def c_slices_Contains_api_Place_api_Place : VC :=
  (.seq (.ops 2 [⟨(some 3), none, (.box 92), [(.t 1)], none⟩, ⟨(some 4), none, .mv, [(.c (.lit (.bool false)))], none⟩]) c_slices_Contains_api_Place_api_Place_p1)
set_option maxRecDepth 100000 in
theorem k_slices_Contains_api_Place_api_Place : Comp Try.prog nobx gtab 122 9 c_slices_Contains_api_Place_api_Place [(.t 4)] := ⟨⟨Try.f122, _, Try.func122, rfl, rfl, by kernel_rfl, by kernel_rfl⟩⟩
set_option maxRecDepth 100000 in
abbrev c_slices_Index_api_Place_api_Place_p1 : VC :=
  (.seq (.ops 0 [⟨(some 17), none, .mv, [(.t 5)], none⟩, ⟨(some 4), none, .mv, [(.t 17)], none⟩]) .ret)
set_option maxRecDepth 100000 in
abbrev c_slices_Index_api_Place_api_Place_p2 : VC :=
  (.seq (.ops 0 [⟨(some 11), none, (.ldA 2), [(.t 3)], (some [])⟩, ⟨(some 12), none, .mv, [(.t 0)], none⟩, ⟨(some 13), none, .mv, [(.t 5)], none⟩, ⟨(some 14), none, (.ixA 2), [(.t 12), (.t 13)], none⟩, ⟨(some 15), none, (.ldA 2), [(.t 14)], (some [1, 2, 3])⟩, ⟨(some 16), none, (.eqP [(0, 0), (1, 0)] false), [(.t 11), (.t 15)], none⟩]) (.cond (.t 16) c_slices_Index_api_Place_api_Place_p1 .skip))
set_option maxRecDepth 100000 in
abbrev c_slices_Index_api_Place_api_Place_p3 : VC :=
  (.ops 0 [⟨(some 18), none, (.bin .add), [(.t 8), (.c (.lit (.int .i64 1)))], none⟩, ⟨(some 8), none, .mv, [(.t 18)], none⟩])
set_option maxRecDepth 100000 in
abbrev c_slices_Index_api_Place_api_Place_p4 : VC :=
  (.seq (.block 1 (.seq (.ops 0 [⟨(some 10), none, .mv, [(.t 8)], none⟩, ⟨(some 5), none, .mv, [(.t 10)], none⟩]) c_slices_Index_api_Place_api_Place_p2)) c_slices_Index_api_Place_api_Place_p3)
set_option maxRecDepth 100000 in
abbrev c_slices_Index_api_Place_api_Place_p5 : VC :=
  (.seq (.cond (.t 9) .skip (.exit 0)) c_slices_Index_api_Place_api_Place_p4)
set_option maxRecDepth 100000 in
abbrev c_slices_Index_api_Place_api_Place_p6 : VC :=
  (.seq (.ops 0 [⟨(some 9), none, (.bin .lss), [(.t 8), (.t 7)], none⟩]) c_slices_Index_api_Place_api_Place_p5)
abbrev w_slices_Index_api_Place_api_Place_p6 : Nat := 524080
set_option maxRecDepth 100000 in
abbrev c_slices_Index_api_Place_api_Place_p8 : VC :=
  (.seq (.ops 0 [⟨(some 4), none, .mv, [(.c (.lit (.int .i64 (-1))))], none⟩]) .ret)
set_option maxRecDepth 100000 in
abbrev c_slices_Index_api_Place_api_Place_p9 : VC :=
  (.seq (.seq (.ops 0 [⟨(some 6), none, .mv, [(.t 0)], none⟩, ⟨(some 7), none, .len, [(.t 6)], none⟩, ⟨(some 8), none, .mv, [(.c (.lit (.int .i64 0)))], none⟩]) (.block 0 (.loop c_slices_Index_api_Place_api_Place_p6))) c_slices_Index_api_Place_api_Place_p8)
set_option maxRecDepth 100000 in
def c_slices_Index_api_Place_api_Place : VC :=
  (.seq (.ops 2 [⟨(some 3), none, (.box 92), [(.t 1)], none⟩, ⟨(some 4), none, .mv, [(.c (.lit (.int .i64 0)))], none⟩]) c_slices_Index_api_Place_api_Place_p9)
set_option maxRecDepth 100000 in
theorem k_slices_Index_api_Place_api_Place : Comp Try.prog nobx gtab 136 19 c_slices_Index_api_Place_api_Place [(.t 4)] := ⟨⟨Try.f136, _, Try.func136, rfl, rfl, by kernel_rfl, by kernel_rfl⟩⟩
set_option maxRecDepth 100000 in
abbrev c_hand_Step_p1 : VC :=
  (.seq (.ops 0 [⟨(some 20), none, .mv, [(.t 12)], none⟩, ⟨(some 10), none, .mv, [(.c (.lit (.int .i64 0)))], none⟩, ⟨(some 11), none, .mv, [(.t 20)], none⟩]) .ret)
set_option maxRecDepth 100000 in
abbrev c_hand_Step_p2 : VC :=
  (.seq (.ops 0 [⟨(some 18), none, .mv, [(.t 12)], none⟩, ⟨(some 19), none, (.bin .neq), [(.t 18), (.c (.lit (.int .i64 0)))], none⟩]) (.cond (.t 19) c_hand_Step_p1 .skip))
set_option maxRecDepth 100000 in
abbrev c_hand_Step_p3 : VC :=
  (.seq (.ops 0 [⟨(some 27), none, .mv, [(.t 13)], none⟩, ⟨(some 10), none, .mv, [(.c (.lit (.int .i64 0)))], none⟩, ⟨(some 11), none, .mv, [(.t 27)], none⟩]) .ret)
set_option maxRecDepth 100000 in
abbrev c_hand_Step_p4 : VC :=
  (.seq (.ops 0 [⟨(some 25), none, .mv, [(.t 13)], none⟩, ⟨(some 26), none, (.bin .neq), [(.t 25), (.c (.lit (.int .i64 0)))], none⟩]) (.cond (.t 26) c_hand_Step_p3 .skip))
set_option maxRecDepth 100000 in
abbrev c_hand_Step_p5 : VC :=
  (.seq (.ops 0 [⟨(some 10), none, .mv, [(.c (.lit (.int .i64 0)))], none⟩, ⟨(some 11), none, .mv, [(.c (.lit (.int .i64 61)))], none⟩]) .ret)
set_option maxRecDepth 100000 in
abbrev c_hand_Step_p6 : VC :=
  (.seq (.ops 0 [⟨(some 10), none, .mv, [(.c (.lit (.int .i64 0)))], none⟩, ⟨(some 11), none, .mv, [(.c (.lit (.int .i64 61)))], none⟩]) .ret)
set_option maxRecDepth 100000 in
abbrev c_hand_Step_p7 : VC :=
  (.seq (.ops 0 [⟨(some 51), none, .mv, [(.t 14)], none⟩, ⟨(some 10), none, .mv, [(.t 51)], none⟩, ⟨(some 11), none, .mv, [(.c (.lit (.int .i64 0)))], none⟩]) .ret)
set_option maxRecDepth 100000 in
abbrev c_hand_Step_p8 : VC :=
  (.seq (.seq (.ops 0 [⟨(some 49), none, .mv, [(.t 15)], none⟩, ⟨(some 50), none, (.un .not), [(.t 49)], none⟩]) (.cond (.t 50) c_hand_Step_p6 .skip)) c_hand_Step_p7)
set_option maxRecDepth 100000 in
abbrev c_hand_Step_p9 : VC :=
  (.seq (.ops 0 [⟨(some 41), none, (.ldA 10), [(.t 5)], none⟩, ⟨(some 42), none, (.ldA 3), [(.t 6)], none⟩, ⟨(some 43), none, (.ldA 2), [(.t 7)], none⟩, ⟨(some 44), none, (.ldA 3), [(.t 8)], none⟩, ⟨(some 45), none, (.ldA 2), [(.t 9)], none⟩, ⟨(some 46), none, (.call 83), [(.t 41), (.t 42), (.t 43), (.t 44), (.t 45)], none⟩, ⟨(some 40), none, .mv, [(.t 46)], none⟩, ⟨(some 47), none, (.ext 0), [(.t 40)], none⟩, ⟨(some 48), none, (.ext 1), [(.t 40)], none⟩, ⟨(some 14), none, .mv, [(.t 47)], none⟩, ⟨(some 15), none, .mv, [(.t 48)], none⟩]) c_hand_Step_p8)
set_option maxRecDepth 100000 in
abbrev c_hand_Step_p10 : VC :=
  (.seq (.seq (.ops 0 [⟨(some 28), none, (.ldA 10), [(.t 5)], none⟩, ⟨(some 29), none, (.ldA 3), [(.t 6)], none⟩, ⟨(some 30), none, (.ldA 2), [(.t 7)], none⟩, ⟨(some 31), none, (.call 78), [(.t 28), (.t 29), (.t 30)], none⟩, ⟨(some 32), none, (.un .not), [(.t 31)], none⟩, ⟨(some 33), none, .mv, [(.t 32)], none⟩, ⟨(some 34), (some (33, false)), (.ldA 10), [(.t 5)], none⟩, ⟨(some 35), (some (33, false)), (.ldA 3), [(.t 8)], none⟩, ⟨(some 36), (some (33, false)), (.ldA 2), [(.t 9)], none⟩, ⟨(some 37), (some (33, false)), (.call 78), [(.t 34), (.t 35), (.t 36)], none⟩, ⟨(some 38), (some (33, false)), (.un .not), [(.t 37)], none⟩, ⟨(some 39), none, .pick, [(.t 33), (.c (.lit (.bool true))), (.t 38)], none⟩]) (.cond (.t 39) c_hand_Step_p5 .skip)) c_hand_Step_p9)
set_option maxRecDepth 100000 in
abbrev c_hand_Step_p11 : VC :=
  (.seq (.seq (.ops 0 [⟨(some 21), none, (.ldA 3), [(.t 6)], none⟩, ⟨(some 22), none, (.ldA 3), [(.t 8)], none⟩, ⟨(some 23), none, (.mksl 2 3 [(.sl 0 [] .exact), (.sl 0 [] .exact), (.sl 0 [] .exact), (.sl 0 [] .exact), (.sl 0 [] .exact), (.sl 0 [] .exact)] [(0, 3), (3, 3)]), [(.t 21), (.t 22)], none⟩, ⟨(some 24), none, (.call 26), [(.t 23)], none⟩, ⟨(some 13), none, .mv, [(.t 24)], none⟩]) c_hand_Step_p4) c_hand_Step_p10)
set_option maxRecDepth 100000 in
abbrev c_hand_Step_p12 : VC :=
  (.seq (.seq (.ops 0 [⟨(some 16), none, (.ldA 10), [(.t 5)], none⟩, ⟨(some 17), none, (.call 24), [(.t 16)], none⟩, ⟨(some 12), none, .mv, [(.t 17)], none⟩]) c_hand_Step_p2) c_hand_Step_p11)
set_option maxRecDepth 100000 in
def c_hand_Step : VC :=
  (.seq (.ops 7 [⟨(some 5), none, (.box 25), [(.t 0)], none⟩, ⟨(some 6), none, (.box 47), [(.t 1)], none⟩, ⟨(some 7), none, (.box 53), [(.t 2)], none⟩, ⟨(some 8), none, (.box 47), [(.t 3)], none⟩, ⟨(some 9), none, (.box 53), [(.t 4)], none⟩, ⟨(some 10), none, .mv, [(.c (.lit (.int .i64 0)))], none⟩, ⟨(some 11), none, .mv, [(.c (.lit (.int .i64 0)))], none⟩]) c_hand_Step_p12)
set_option maxRecDepth 100000 in
theorem k_hand_Step : Comp Try.prog nobx gtab 45 52 c_hand_Step [(.t 10), (.t 11)] := ⟨⟨Try.f45, _, Try.func45, rfl, rfl, by kernel_rfl, by kernel_rfl⟩⟩
set_option maxRecDepth 100000 in
abbrev c_theorboref06_places_p1 : VC :=
  (.ops 9 [⟨(some 23), none, .mv, [(.t 7)], none⟩, ⟨(some 24), none, (.fldA 0), [(.t 3)], none⟩, ⟨(some 25), none, .ld1, [(.t 24)], none⟩, ⟨(some 26), none, .mv, [(.t 8)], none⟩, ⟨(some 27), none, (.ixA 2), [(.t 25), (.t 26)], none⟩, ⟨(some 28), none, (.ldA 2), [(.t 27)], none⟩, ⟨(some 29), none, (.mksl 1 2 [(.lit (.int .i64 0)), (.lit (.int .i64 0))] [(0, 2)]), [(.t 28)], none⟩, ⟨(some 30), none, (.app 92 2 16), [(.t 23), (.t 29)], none⟩, ⟨(some 7), none, .mv, [(.t 30)], none⟩])
set_option maxRecDepth 100000 in
abbrev c_theorboref06_places_p2 : VC :=
  (.ops 0 [⟨(some 14), none, .mv, [(.t 8)], none⟩, ⟨(some 15), none, (.bin .add), [(.t 14), (.c (.lit (.int .i64 1)))], none⟩, ⟨(some 8), none, .mv, [(.t 15)], none⟩])
set_option maxRecDepth 100000 in
abbrev c_theorboref06_places_p3 : VC :=
  (.seq (.block 1 (.seq (.ops 0 [⟨(some 16), none, (.fldA 1), [(.t 4)], none⟩, ⟨(some 17), none, .ld1, [(.t 16)], none⟩, ⟨(some 18), none, .mv, [(.t 8)], none⟩, ⟨(some 19), none, (.ixA 1), [(.t 17), (.t 18)], none⟩, ⟨(some 20), none, .ld1, [(.t 19)], none⟩, ⟨(some 21), none, .mv, [(.t 2)], none⟩, ⟨(some 22), none, (.bin .eql), [(.t 20), (.t 21)], none⟩]) (.cond (.t 22) c_theorboref06_places_p1 .skip))) c_theorboref06_places_p2)
set_option maxRecDepth 100000 in
abbrev c_theorboref06_places_p4 : VC :=
  (.seq (.seq (.ops 0 [⟨(some 9), none, .mv, [(.t 8)], none⟩, ⟨(some 10), none, (.fldA 0), [(.t 3)], none⟩, ⟨(some 11), none, .ld1, [(.t 10)], none⟩, ⟨(some 12), none, .len, [(.t 11)], none⟩, ⟨(some 13), none, (.bin .lss), [(.t 9), (.t 12)], none⟩]) (.cond (.t 13) .skip (.exit 0))) c_theorboref06_places_p3)
abbrev w_theorboref06_places_p4 : Nat := 2147483520
set_option maxRecDepth 100000 in
abbrev c_theorboref06_places_p6 : VC :=
  (.seq (.ops 0 [⟨(some 31), none, .mv, [(.t 7)], none⟩, ⟨(some 6), none, .mv, [(.t 31)], none⟩]) .ret)
set_option maxRecDepth 100000 in
abbrev c_theorboref06_places_p7 : VC :=
  (.seq (.seq (.ops 0 [⟨(some 8), none, .mv, [(.c (.lit (.int .i64 0)))], none⟩]) (.block 0 (.loop c_theorboref06_places_p4))) c_theorboref06_places_p6)
set_option maxRecDepth 100000 in
abbrev c_theorboref06_places_p8 : VC :=
  (.seq (.ops 0 [⟨(some 7), none, .mv, [(.c (.sl 0 [] .exact))], none⟩]) c_theorboref06_places_p7)
set_option maxRecDepth 100000 in
def c_theorboref06_places : VC :=
  (.seq (.ops 3 [⟨(some 3), none, (.box 47), [(.t 0)], none⟩, ⟨(some 4), none, (.box 53), [(.t 1)], none⟩, ⟨(some 6), none, .mv, [(.c (.sl 0 [] .exact))], none⟩]) c_theorboref06_places_p8)
set_option maxRecDepth 100000 in
theorem k_theorboref06_places : Comp Try.prog nobx gtab 119 32 c_theorboref06_places [(.t 6)] := ⟨⟨Try.f119, _, Try.func119, rfl, rfl, by kernel_rfl, by kernel_rfl⟩⟩
set_option maxRecDepth 100000 in
abbrev c_theorboref06_own_p1 : VC :=
  (.ops 0 [⟨(some 25), none, .mv, [(.t 7)], none⟩, ⟨(some 26), none, (.fldA 7), [(.t 3)], none⟩, ⟨(some 27), none, .ld1, [(.t 26)], none⟩, ⟨(some 28), none, (.bin .add), [(.t 25), (.t 27)], none⟩, ⟨(some 7), none, .mv, [(.t 28)], none⟩])
set_option maxRecDepth 100000 in
abbrev c_theorboref06_own_p2 : VC :=
  (.ops 0 [⟨(some 42), none, .mv, [(.t 7)], none⟩, ⟨(some 43), none, (.fldA 8), [(.t 3)], none⟩, ⟨(some 44), none, .ld1, [(.t 43)], none⟩, ⟨(some 45), none, .mv, [(.t 10)], none⟩, ⟨(some 46), none, .mv, [(.t 10)], none⟩, ⟨(some 47), none, (.un .neg), [(.t 46)], none⟩, ⟨(some 48), none, .mx, [(.t 45), (.t 47)], none⟩, ⟨(some 49), none, (.bin .mul), [(.t 44), (.t 48)], none⟩, ⟨(some 50), none, (.bin .add), [(.t 42), (.t 49)], none⟩, ⟨(some 7), none, .mv, [(.t 50)], none⟩])
set_option maxRecDepth 100000 in
abbrev c_theorboref06_own_p3 : VC :=
  (.seq (.ops 0 [⟨(some 32), none, .mv, [(.t 9)], none⟩, ⟨(some 33), none, (.ixA 2), [(.t 32), (.c (.lit (.int .i64 0)))], none⟩, ⟨(some 34), none, (.fldA 1), [(.t 33)], none⟩, ⟨(some 35), none, .ld1, [(.t 34)], (some [0, 1, 2])⟩, ⟨(some 36), none, (.fldA 0), [(.t 5)], none⟩, ⟨(some 37), none, .ld1, [(.t 36)], (some [4])⟩, ⟨(some 38), none, .mv, [(.t 8)], none⟩, ⟨(some 39), none, (.bin .add), [(.t 37), (.t 38)], none⟩, ⟨(some 40), none, (.bin .sub), [(.t 39), (.c (.lit (.int .i64 1)))], none⟩, ⟨(some 41), none, (.bin .sub), [(.t 35), (.t 40)], none⟩, ⟨(some 10), none, .mv, [(.t 41)], none⟩]) c_theorboref06_own_p2)
set_option maxRecDepth 100000 in
abbrev c_theorboref06_own_p4 : VC :=
  (.seq (.ops 0 [⟨(some 29), none, .mv, [(.t 9)], none⟩, ⟨(some 30), none, .len, [(.t 29)], none⟩, ⟨(some 31), none, (.bin .gtr), [(.t 30), (.c (.lit (.int .i64 0)))], none⟩]) (.cond (.t 31) c_theorboref06_own_p3 .skip))
set_option maxRecDepth 100000 in
abbrev c_theorboref06_own_p5 : VC :=
  (.seq (.seq (.ops 0 [⟨(some 22), none, .mv, [(.t 9)], none⟩, ⟨(some 23), none, .len, [(.t 22)], none⟩, ⟨(some 24), none, (.bin .gtr), [(.t 23), (.c (.lit (.int .i64 1)))], none⟩]) (.cond (.t 24) c_theorboref06_own_p1 .skip)) c_theorboref06_own_p4)
set_option maxRecDepth 100000 in
abbrev c_theorboref06_own_p6 : VC :=
  (.ops 0 [⟨(some 16), none, .mv, [(.t 8)], none⟩, ⟨(some 17), none, (.bin .add), [(.t 16), (.c (.lit (.int .i64 1)))], none⟩, ⟨(some 8), none, .mv, [(.t 17)], none⟩])
set_option maxRecDepth 100000 in
abbrev c_theorboref06_own_p7 : VC :=
  (.seq (.block 1 (.seq (.ops 0 [⟨(some 18), none, (.ldA 3), [(.t 4)], none⟩, ⟨(some 19), none, (.ldA 2), [(.t 5)], none⟩, ⟨(some 20), none, .mv, [(.t 8)], none⟩, ⟨(some 21), none, (.call 119), [(.t 18), (.t 19), (.t 20)], none⟩, ⟨(some 9), none, .mv, [(.t 21)], none⟩]) c_theorboref06_own_p5)) c_theorboref06_own_p6)
set_option maxRecDepth 100000 in
abbrev c_theorboref06_own_p8 : VC :=
  (.seq (.seq (.ops 0 [⟨(some 11), none, .mv, [(.t 8)], none⟩, ⟨(some 12), none, (.fldA 0), [(.t 3)], none⟩, ⟨(some 13), none, .ld1, [(.t 12)], none⟩, ⟨(some 14), none, .len, [(.t 13)], none⟩, ⟨(some 15), none, (.bin .leq), [(.t 11), (.t 14)], none⟩]) (.cond (.t 15) .skip (.exit 0))) c_theorboref06_own_p7)
abbrev w_theorboref06_own_p8 : Nat := 2251799813685120
set_option maxRecDepth 100000 in
abbrev c_theorboref06_own_p10 : VC :=
  (.seq (.ops 0 [⟨(some 51), none, .mv, [(.t 7)], none⟩, ⟨(some 6), none, .mv, [(.t 51)], none⟩]) .ret)
set_option maxRecDepth 100000 in
abbrev c_theorboref06_own_p11 : VC :=
  (.seq (.seq (.ops 0 [⟨(some 8), none, .mv, [(.c (.lit (.int .i64 1)))], none⟩]) (.block 0 (.loop c_theorboref06_own_p8))) c_theorboref06_own_p10)
set_option maxRecDepth 100000 in
abbrev c_theorboref06_own_p12 : VC :=
  (.seq (.ops 0 [⟨(some 7), none, .mv, [(.c (.lit (.int .i64 0)))], none⟩]) c_theorboref06_own_p11)
set_option maxRecDepth 100000 in
def c_theorboref06_own : VC :=
  (.seq (.ops 4 [⟨(some 3), none, (.box 25), [(.t 0)], none⟩, ⟨(some 4), none, (.box 47), [(.t 1)], none⟩, ⟨(some 5), none, (.box 53), [(.t 2)], none⟩, ⟨(some 6), none, .mv, [(.c (.lit (.int .i64 0)))], none⟩]) c_theorboref06_own_p12)
set_option maxRecDepth 100000 in
theorem k_theorboref06_own : Comp Try.prog nobx gtab 82 52 c_theorboref06_own [(.t 6)] := ⟨⟨Try.f82, _, Try.func82, rfl, rfl, by kernel_rfl, by kernel_rfl⟩⟩
set_option maxRecDepth 100000 in
abbrev c_theorboref06_Own_p1 : VC :=
  (.seq (.ops 0 [⟨(some 13), none, .mv, [(.t 8)], none⟩, ⟨(some 6), none, .mv, [(.c (.lit (.int .i64 0)))], none⟩, ⟨(some 7), none, .mv, [(.t 13)], none⟩]) .ret)
set_option maxRecDepth 100000 in
abbrev c_theorboref06_Own_p2 : VC :=
  (.seq (.ops 0 [⟨(some 11), none, .mv, [(.t 8)], none⟩, ⟨(some 12), none, (.bin .neq), [(.t 11), (.c (.lit (.int .i64 0)))], none⟩]) (.cond (.t 12) c_theorboref06_Own_p1 .skip))
set_option maxRecDepth 100000 in
abbrev c_theorboref06_Own_p3 : VC :=
  (.seq (.ops 0 [⟨(some 6), none, .mv, [(.c (.lit (.int .i64 0)))], none⟩, ⟨(some 7), none, .mv, [(.c (.lit (.int .i64 1)))], none⟩]) .ret)
set_option maxRecDepth 100000 in
abbrev c_theorboref06_Own_p4 : VC :=
  (.seq (.ops 0 [⟨(some 6), none, .mv, [(.c (.lit (.int .i64 0)))], none⟩, ⟨(some 7), none, .mv, [(.c (.lit (.int .i64 61)))], none⟩]) .ret)
set_option maxRecDepth 100000 in
abbrev c_theorboref06_Own_p5 : VC :=
  (.seq (.ops 0 [⟨(some 22), none, (.ldA 10), [(.t 3)], none⟩, ⟨(some 23), none, (.ldA 3), [(.t 4)], none⟩, ⟨(some 24), none, (.ldA 2), [(.t 5)], none⟩, ⟨(some 25), none, (.call 82), [(.t 22), (.t 23), (.t 24)], none⟩, ⟨(some 6), none, .mv, [(.t 25)], none⟩, ⟨(some 7), none, .mv, [(.c (.lit (.int .i64 0)))], none⟩]) .ret)
set_option maxRecDepth 100000 in
abbrev c_theorboref06_Own_p6 : VC :=
  (.seq (.seq (.ops 0 [⟨(some 17), none, (.ldA 10), [(.t 3)], none⟩, ⟨(some 18), none, (.ldA 3), [(.t 4)], none⟩, ⟨(some 19), none, (.ldA 2), [(.t 5)], none⟩, ⟨(some 20), none, (.call 80), [(.t 17), (.t 18), (.t 19)], none⟩, ⟨(some 21), none, (.un .not), [(.t 20)], none⟩]) (.cond (.t 21) c_theorboref06_Own_p4 .skip)) c_theorboref06_Own_p5)
set_option maxRecDepth 100000 in
abbrev c_theorboref06_Own_p7 : VC :=
  (.seq (.seq (.ops 0 [⟨(some 14), none, (.ldA 3), [(.t 4)], none⟩, ⟨(some 15), none, (.call 67), [(.t 14)], none⟩, ⟨(some 16), none, (.un .not), [(.t 15)], none⟩]) (.cond (.t 16) c_theorboref06_Own_p3 .skip)) c_theorboref06_Own_p6)
set_option maxRecDepth 100000 in
abbrev c_theorboref06_Own_p8 : VC :=
  (.seq (.seq (.ops 0 [⟨(some 9), none, (.ldA 10), [(.t 3)], none⟩, ⟨(some 10), none, (.call 25), [(.t 9)], none⟩, ⟨(some 8), none, .mv, [(.t 10)], none⟩]) c_theorboref06_Own_p2) c_theorboref06_Own_p7)
set_option maxRecDepth 100000 in
def c_theorboref06_Own : VC :=
  (.seq (.ops 5 [⟨(some 3), none, (.box 25), [(.t 0)], none⟩, ⟨(some 4), none, (.box 47), [(.t 1)], none⟩, ⟨(some 5), none, (.box 53), [(.t 2)], none⟩, ⟨(some 6), none, .mv, [(.c (.lit (.int .i64 0)))], none⟩, ⟨(some 7), none, .mv, [(.c (.lit (.int .i64 0)))], none⟩]) c_theorboref06_Own_p8)
set_option maxRecDepth 100000 in
theorem k_theorboref06_Own : Comp Try.prog nobx gtab 44 26 c_theorboref06_Own [(.t 6), (.t 7)] := ⟨⟨Try.f44, _, Try.func44, rfl, rfl, by kernel_rfl, by kernel_rfl⟩⟩
set_option maxRecDepth 100000 in
abbrev c_theorboref06_common_p1 : VC :=
  (.seq (.ops 0 [⟨(some 4), none, .mv, [(.c (.lit (.bool true)))], none⟩]) .ret)
set_option maxRecDepth 100000 in
abbrev c_theorboref06_common_p2 : VC :=
  (.ops 0 [⟨(some 17), none, .mv, [(.t 6)], none⟩, ⟨(some 18), none, (.bin .add), [(.t 17), (.c (.lit (.int .i64 1)))], none⟩, ⟨(some 6), none, .mv, [(.t 18)], none⟩])
set_option maxRecDepth 100000 in
abbrev c_theorboref06_common_p3 : VC :=
  (.seq (.block 3 (.seq (.ops 0 [⟨(some 19), none, .mv, [(.t 0)], none⟩, ⟨(some 20), none, .mv, [(.t 5)], none⟩, ⟨(some 21), none, (.ixA 2), [(.t 19), (.t 20)], none⟩, ⟨(some 22), none, (.ldA 2), [(.t 21)], (some [0, 1, 2])⟩, ⟨(some 23), none, .mv, [(.t 1)], none⟩, ⟨(some 24), none, .mv, [(.t 6)], none⟩, ⟨(some 25), none, (.ixA 2), [(.t 23), (.t 24)], none⟩, ⟨(some 26), none, (.ldA 2), [(.t 25)], (some [4, 5, 6])⟩, ⟨(some 27), none, (.eqP [(0, 0), (1, 0)] false), [(.t 22), (.t 26)], none⟩]) (.cond (.t 27) c_theorboref06_common_p1 .skip))) c_theorboref06_common_p2)
set_option maxRecDepth 100000 in
abbrev c_theorboref06_common_p4 : VC :=
  (.seq (.seq (.ops 0 [⟨(some 13), none, .mv, [(.t 6)], none⟩, ⟨(some 14), none, .mv, [(.t 1)], none⟩, ⟨(some 15), none, .len, [(.t 14)], none⟩, ⟨(some 16), none, (.bin .lss), [(.t 13), (.t 15)], none⟩]) (.cond (.t 16) .skip (.exit 2))) c_theorboref06_common_p3)
abbrev w_theorboref06_common_p4 : Nat := 268427344
set_option maxRecDepth 100000 in
abbrev c_theorboref06_common_p6 : VC :=
  (.ops 0 [⟨(some 11), none, .mv, [(.t 5)], none⟩, ⟨(some 12), none, (.bin .add), [(.t 11), (.c (.lit (.int .i64 1)))], none⟩, ⟨(some 5), none, .mv, [(.t 12)], none⟩])
set_option maxRecDepth 100000 in
abbrev c_theorboref06_common_p7 : VC :=
  (.seq (.block 1 (.seq (.ops 0 [⟨(some 6), none, .mv, [(.c (.lit (.int .i64 0)))], none⟩]) (.block 2 (.loop c_theorboref06_common_p4)))) c_theorboref06_common_p6)
set_option maxRecDepth 100000 in
abbrev c_theorboref06_common_p8 : VC :=
  (.seq (.seq (.ops 0 [⟨(some 7), none, .mv, [(.t 5)], none⟩, ⟨(some 8), none, .mv, [(.t 0)], none⟩, ⟨(some 9), none, .len, [(.t 8)], none⟩, ⟨(some 10), none, (.bin .lss), [(.t 7), (.t 9)], none⟩]) (.cond (.t 10) .skip (.exit 0))) c_theorboref06_common_p7)
abbrev w_theorboref06_common_p8 : Nat := 268435440
set_option maxRecDepth 100000 in
abbrev c_theorboref06_common_p10 : VC :=
  (.seq (.ops 0 [⟨(some 4), none, .mv, [(.c (.lit (.bool false)))], none⟩]) .ret)
set_option maxRecDepth 100000 in
abbrev c_theorboref06_common_p11 : VC :=
  (.seq (.seq (.ops 0 [⟨(some 5), none, .mv, [(.c (.lit (.int .i64 0)))], none⟩]) (.block 0 (.loop c_theorboref06_common_p8))) c_theorboref06_common_p10)
set_option maxRecDepth 100000 in
def c_theorboref06_common : VC :=
  (.seq (.ops 0 [⟨(some 4), none, .mv, [(.c (.lit (.bool false)))], none⟩]) c_theorboref06_common_p11)
set_option maxRecDepth 100000 in
theorem k_theorboref06_common : Comp Try.prog nobx gtab 124 28 c_theorboref06_common [(.t 4)] := ⟨⟨Try.f124, _, Try.func124, rfl, rfl, by kernel_rfl, by kernel_rfl⟩⟩
set_option maxRecDepth 100000 in
abbrev c_theorboref06_finger_p1 : VC :=
  (.seq (.ops 0 [⟨(some 23), none, (.fldA 1), [(.t 4)], none⟩, ⟨(some 24), none, .ld1, [(.t 23)], none⟩, ⟨(some 25), none, .mv, [(.t 7)], none⟩, ⟨(some 26), none, (.ixA 1), [(.t 24), (.t 25)], none⟩, ⟨(some 27), none, .ld1, [(.t 26)], none⟩, ⟨(some 6), none, .mv, [(.t 27)], none⟩]) .ret)
set_option maxRecDepth 100000 in
abbrev c_theorboref06_finger_p2 : VC :=
  (.ops 0 [⟨(some 13), none, .mv, [(.t 7)], none⟩, ⟨(some 14), none, (.bin .add), [(.t 13), (.c (.lit (.int .i64 1)))], none⟩, ⟨(some 7), none, .mv, [(.t 14)], none⟩])
set_option maxRecDepth 100000 in
abbrev c_theorboref06_finger_p3 : VC :=
  (.seq (.block 1 (.seq (.ops 0 [⟨(some 15), none, (.fldA 0), [(.t 3)], none⟩, ⟨(some 16), none, .ld1, [(.t 15)], none⟩, ⟨(some 17), none, .mv, [(.t 7)], none⟩, ⟨(some 18), none, (.ixA 2), [(.t 16), (.t 17)], none⟩, ⟨(some 19), none, (.fldA 0), [(.t 18)], none⟩, ⟨(some 20), none, .ld1, [(.t 19)], none⟩, ⟨(some 21), none, .mv, [(.t 2)], none⟩, ⟨(some 22), none, (.bin .eql), [(.t 20), (.t 21)], none⟩]) (.cond (.t 22) c_theorboref06_finger_p1 .skip))) c_theorboref06_finger_p2)
set_option maxRecDepth 100000 in
abbrev c_theorboref06_finger_p4 : VC :=
  (.seq (.seq (.ops 0 [⟨(some 8), none, .mv, [(.t 7)], none⟩, ⟨(some 9), none, (.fldA 0), [(.t 3)], none⟩, ⟨(some 10), none, .ld1, [(.t 9)], none⟩, ⟨(some 11), none, .len, [(.t 10)], none⟩, ⟨(some 12), none, (.bin .lss), [(.t 8), (.t 11)], none⟩]) (.cond (.t 12) .skip (.exit 0))) c_theorboref06_finger_p3)
abbrev w_theorboref06_finger_p4 : Nat := 268435392
set_option maxRecDepth 100000 in
abbrev c_theorboref06_finger_p6 : VC :=
  (.seq (.ops 0 [⟨(some 6), none, .mv, [(.c (.lit (.int .i64 0)))], none⟩]) .ret)
set_option maxRecDepth 100000 in
abbrev c_theorboref06_finger_p7 : VC :=
  (.seq (.seq (.ops 0 [⟨(some 7), none, .mv, [(.c (.lit (.int .i64 0)))], none⟩]) (.block 0 (.loop c_theorboref06_finger_p4))) c_theorboref06_finger_p6)
set_option maxRecDepth 100000 in
def c_theorboref06_finger : VC :=
  (.seq (.ops 3 [⟨(some 3), none, (.box 47), [(.t 0)], none⟩, ⟨(some 4), none, (.box 53), [(.t 1)], none⟩, ⟨(some 6), none, .mv, [(.c (.lit (.int .i64 0)))], none⟩]) c_theorboref06_finger_p7)
set_option maxRecDepth 100000 in
theorem k_theorboref06_finger : Comp Try.prog nobx gtab 123 28 c_theorboref06_finger [(.t 6)] := ⟨⟨Try.f123, _, Try.func123, rfl, rfl, by kernel_rfl, by kernel_rfl⟩⟩
set_option maxRecDepth 100000 in
abbrev c_theorboref06_step_p1 : VC :=
  (.seq (.ops 0 [⟨(some 10), none, .mv, [(.c (.lit (.int .i64 0)))], none⟩, ⟨(some 11), none, .mv, [(.c (.lit (.bool false)))], none⟩]) .ret)
set_option maxRecDepth 100000 in
abbrev c_theorboref06_step_p2 : VC :=
  (.ops 0 [⟨(some 24), none, .mv, [(.t 12)], none⟩, ⟨(some 25), none, (.bin .add), [(.t 24), (.c (.lit (.int .i64 1)))], none⟩, ⟨(some 12), none, .mv, [(.t 25)], none⟩])
set_option maxRecDepth 100000 in
abbrev c_theorboref06_step_p3 : VC :=
  (.seq (.block 1 (.seq (.ops 0 [⟨(some 26), none, (.ldA 3), [(.t 6)], (some [])⟩, ⟨(some 27), none, (.ldA 2), [(.t 7)], (some [])⟩, ⟨(some 28), none, (.fldA 1), [(.t 8)], none⟩, ⟨(some 29), none, .ld1, [(.t 28)], (some [2])⟩, ⟨(some 30), none, .mv, [(.t 12)], none⟩, ⟨(some 31), none, (.ixA 1), [(.t 29), (.t 30)], none⟩, ⟨(some 32), none, .ld1, [(.t 31)], (some [2, 3, 4, 5])⟩, ⟨(some 33), none, (.call 123), [(.t 26), (.t 27), (.t 32)], (some [0, 1, 2, 3, 4, 5, 6])⟩, ⟨(some 34), none, (.ldA 3), [(.t 8)], (some [])⟩, ⟨(some 35), none, (.ldA 2), [(.t 9)], (some [])⟩, ⟨(some 36), none, (.fldA 1), [(.t 8)], none⟩, ⟨(some 37), none, .ld1, [(.t 36)], (some [10])⟩, ⟨(some 38), none, .mv, [(.t 12)], none⟩, ⟨(some 39), none, (.ixA 1), [(.t 37), (.t 38)], none⟩, ⟨(some 40), none, .ld1, [(.t 39)], (some [10, 11, 12, 13])⟩, ⟨(some 41), none, (.call 123), [(.t 34), (.t 35), (.t 40)], none⟩, ⟨(some 42), none, (.bin .neq), [(.t 33), (.t 41)], none⟩]) (.cond (.t 42) c_theorboref06_step_p1 .skip))) c_theorboref06_step_p2)
set_option maxRecDepth 100000 in
abbrev c_theorboref06_step_p4 : VC :=
  (.seq (.seq (.ops 0 [⟨(some 19), none, .mv, [(.t 12)], none⟩, ⟨(some 20), none, (.fldA 1), [(.t 8)], none⟩, ⟨(some 21), none, .ld1, [(.t 20)], none⟩, ⟨(some 22), none, .len, [(.t 21)], none⟩, ⟨(some 23), none, (.bin .lss), [(.t 19), (.t 22)], none⟩]) (.cond (.t 23) .skip (.exit 0))) c_theorboref06_step_p3)
abbrev w_theorboref06_step_p4 : Nat := 8796092505088
set_option maxRecDepth 100000 in
abbrev c_theorboref06_step_p6 : VC :=
  (.seq (.ops 0 [⟨(some 10), none, .mv, [(.c (.lit (.int .i64 0)))], none⟩, ⟨(some 11), none, .mv, [(.c (.lit (.bool false)))], none⟩]) .ret)
set_option maxRecDepth 100000 in
abbrev c_theorboref06_step_p7 : VC :=
  (.ops 0 [⟨(some 80), none, .mv, [(.t 15)], none⟩, ⟨(some 81), none, (.fldA 6), [(.t 5)], none⟩, ⟨(some 82), none, .ld1, [(.t 81)], none⟩, ⟨(some 83), none, (.bin .add), [(.t 80), (.t 82)], none⟩, ⟨(some 15), none, .mv, [(.t 83)], none⟩])
set_option maxRecDepth 100000 in
abbrev c_theorboref06_step_p8 : VC :=
  (.ops 0 [⟨(some 113), none, .mv, [(.t 15)], none⟩, ⟨(some 114), none, (.fldA 9), [(.t 5)], none⟩, ⟨(some 115), none, .ld1, [(.t 114)], none⟩, ⟨(some 116), none, (.bin .add), [(.t 113), (.t 115)], none⟩, ⟨(some 15), none, .mv, [(.t 116)], none⟩])
set_option maxRecDepth 100000 in
abbrev c_theorboref06_step_p9 : VC :=
  (.seq (.ops 0 [⟨(some 99), none, .mv, [(.t 17)], none⟩, ⟨(some 100), none, .len, [(.t 99)], none⟩, ⟨(some 101), none, (.bin .gtr), [(.t 100), (.c (.lit (.int .i64 0)))], none⟩, ⟨(some 102), none, .mv, [(.t 101)], none⟩, ⟨(some 103), (some (102, true)), .mv, [(.t 18)], none⟩, ⟨(some 104), (some (102, true)), .len, [(.t 103)], none⟩, ⟨(some 105), (some (102, true)), (.bin .gtr), [(.t 104), (.c (.lit (.int .i64 0)))], none⟩, ⟨(some 106), none, .pick, [(.t 102), (.t 105), (.c (.lit (.bool false)))], none⟩, ⟨(some 107), none, .mv, [(.t 106)], none⟩, ⟨(some 108), (some (107, true)), .mv, [(.t 17)], none⟩, ⟨(some 109), (some (107, true)), .mv, [(.t 18)], none⟩, ⟨(some 110), (some (107, true)), (.call 124), [(.t 108), (.t 109)], none⟩, ⟨(some 111), (some (107, true)), (.un .not), [(.t 110)], none⟩, ⟨(some 112), none, .pick, [(.t 107), (.t 111), (.c (.lit (.bool false)))], none⟩]) (.cond (.t 112) c_theorboref06_step_p8 .skip))
set_option maxRecDepth 100000 in
abbrev c_theorboref06_step_p10 : VC :=
  (.ops 0 [⟨(some 89), none, .mv, [(.t 16)], none⟩, ⟨(some 90), none, (.bin .add), [(.t 89), (.c (.lit (.int .i64 1)))], none⟩, ⟨(some 16), none, .mv, [(.t 90)], none⟩])
set_option maxRecDepth 100000 in
abbrev c_theorboref06_step_p11 : VC :=
  (.seq (.block 3 (.seq (.ops 0 [⟨(some 91), none, (.ldA 3), [(.t 6)], (some [])⟩, ⟨(some 92), none, (.ldA 2), [(.t 7)], (some [])⟩, ⟨(some 93), none, .mv, [(.t 16)], none⟩, ⟨(some 94), none, (.call 119), [(.t 91), (.t 92), (.t 93)], (some [0, 1, 2])⟩, ⟨(some 95), none, (.ldA 3), [(.t 8)], (some [])⟩, ⟨(some 96), none, (.ldA 2), [(.t 9)], (some [])⟩, ⟨(some 97), none, .mv, [(.t 16)], none⟩, ⟨(some 98), none, (.call 119), [(.t 95), (.t 96), (.t 97)], none⟩, ⟨(some 17), none, .mv, [(.t 94)], none⟩, ⟨(some 18), none, .mv, [(.t 98)], none⟩]) c_theorboref06_step_p9)) c_theorboref06_step_p10)
set_option maxRecDepth 100000 in
abbrev c_theorboref06_step_p12 : VC :=
  (.seq (.seq (.ops 0 [⟨(some 84), none, .mv, [(.t 16)], none⟩, ⟨(some 85), none, (.fldA 0), [(.t 5)], none⟩, ⟨(some 86), none, .ld1, [(.t 85)], none⟩, ⟨(some 87), none, .len, [(.t 86)], none⟩, ⟨(some 88), none, (.bin .leq), [(.t 84), (.t 87)], none⟩]) (.cond (.t 88) .skip (.exit 2))) c_theorboref06_step_p11)
abbrev w_theorboref06_step_p12 : Nat := 166153499453771670999141815740235776
set_option maxRecDepth 100000 in
abbrev c_theorboref06_step_p14 : VC :=
  (.seq (.ops 0 [⟨(some 117), none, .mv, [(.t 15)], none⟩, ⟨(some 10), none, .mv, [(.t 117)], none⟩, ⟨(some 11), none, .mv, [(.c (.lit (.bool true)))], none⟩]) .ret)
set_option maxRecDepth 100000 in
abbrev c_theorboref06_step_p15 : VC :=
  (.seq (.seq (.ops 0 [⟨(some 16), none, .mv, [(.c (.lit (.int .i64 1)))], none⟩]) (.block 2 (.loop c_theorboref06_step_p12))) c_theorboref06_step_p14)
set_option maxRecDepth 100000 in
abbrev c_theorboref06_step_p16 : VC :=
  (.seq (.seq (.ops 0 [⟨(some 75), none, .mv, [(.t 14)], none⟩, ⟨(some 76), none, .mv, [(.t 75)], none⟩, ⟨(some 77), (some (76, true)), .mv, [(.t 13)], none⟩, ⟨(some 78), (some (76, true)), (.bin .gtr), [(.t 77), (.c (.lit (.int .i64 0)))], none⟩, ⟨(some 79), none, .pick, [(.t 76), (.t 78), (.c (.lit (.bool false)))], none⟩]) (.cond (.t 79) c_theorboref06_step_p7 .skip)) c_theorboref06_step_p15)
set_option maxRecDepth 100000 in
abbrev c_theorboref06_step_p17 : VC :=
  (.seq (.ops 0 [⟨(some 71), none, (.fldA 5), [(.t 5)], none⟩, ⟨(some 72), none, .ld1, [(.t 71)], none⟩, ⟨(some 73), none, .mv, [(.t 13)], none⟩, ⟨(some 74), none, (.bin .mul), [(.t 72), (.t 73)], none⟩, ⟨(some 15), none, .mv, [(.t 74)], none⟩]) c_theorboref06_step_p16)
set_option maxRecDepth 100000 in
abbrev c_theorboref06_step_p18 : VC :=
  (.seq (.seq (.ops 0 [⟨(some 64), none, .mv, [(.t 14)], none⟩, ⟨(some 65), none, .mv, [(.t 64)], none⟩, ⟨(some 66), (some (65, true)), .mv, [(.t 13)], none⟩, ⟨(some 67), (some (65, true)), (.fldA 4), [(.t 5)], none⟩, ⟨(some 68), (some (65, true)), .ld1, [(.t 67)], none⟩, ⟨(some 69), (some (65, true)), (.bin .gtr), [(.t 66), (.t 68)], none⟩, ⟨(some 70), none, .pick, [(.t 65), (.t 69), (.c (.lit (.bool false)))], none⟩]) (.cond (.t 70) c_theorboref06_step_p6 .skip)) c_theorboref06_step_p17)
set_option maxRecDepth 100000 in
abbrev c_theorboref06_step_p19 : VC :=
  (.seq (.ops 0 [⟨(some 54), none, (.fldA 0), [(.t 6)], none⟩, ⟨(some 55), none, .ld1, [(.t 54)], none⟩, ⟨(some 56), none, .len, [(.t 55)], none⟩, ⟨(some 57), none, (.bin .gtr), [(.t 56), (.c (.lit (.int .i64 0)))], none⟩, ⟨(some 58), none, .mv, [(.t 57)], none⟩, ⟨(some 59), (some (58, true)), (.fldA 0), [(.t 8)], none⟩, ⟨(some 60), (some (58, true)), .ld1, [(.t 59)], none⟩, ⟨(some 61), (some (58, true)), .len, [(.t 60)], none⟩, ⟨(some 62), (some (58, true)), (.bin .gtr), [(.t 61), (.c (.lit (.int .i64 0)))], none⟩, ⟨(some 63), none, .pick, [(.t 58), (.t 62), (.c (.lit (.bool false)))], none⟩, ⟨(some 14), none, .mv, [(.t 63)], none⟩]) c_theorboref06_step_p18)
set_option maxRecDepth 100000 in
abbrev c_theorboref06_step_p20 : VC :=
  (.seq (.ops 0 [⟨(some 43), none, (.fldA 0), [(.t 9)], none⟩, ⟨(some 44), none, .ld1, [(.t 43)], none⟩, ⟨(some 45), none, (.fldA 0), [(.t 7)], none⟩, ⟨(some 46), none, .ld1, [(.t 45)], none⟩, ⟨(some 47), none, (.bin .sub), [(.t 44), (.t 46)], none⟩, ⟨(some 48), none, (.fldA 0), [(.t 7)], none⟩, ⟨(some 49), none, .ld1, [(.t 48)], none⟩, ⟨(some 50), none, (.fldA 0), [(.t 9)], none⟩, ⟨(some 51), none, .ld1, [(.t 50)], none⟩, ⟨(some 52), none, (.bin .sub), [(.t 49), (.t 51)], none⟩, ⟨(some 53), none, .mx, [(.t 47), (.t 52)], none⟩, ⟨(some 13), none, .mv, [(.t 53)], none⟩]) c_theorboref06_step_p19)
set_option maxRecDepth 100000 in
abbrev c_theorboref06_step_p21 : VC :=
  (.seq (.seq (.ops 0 [⟨(some 12), none, .mv, [(.c (.lit (.int .i64 0)))], none⟩]) (.block 0 (.loop c_theorboref06_step_p4))) c_theorboref06_step_p20)
set_option maxRecDepth 100000 in
def c_theorboref06_step : VC :=
  (.seq (.ops 7 [⟨(some 5), none, (.box 25), [(.t 0)], none⟩, ⟨(some 6), none, (.box 47), [(.t 1)], none⟩, ⟨(some 7), none, (.box 53), [(.t 2)], none⟩, ⟨(some 8), none, (.box 47), [(.t 3)], none⟩, ⟨(some 9), none, (.box 53), [(.t 4)], none⟩, ⟨(some 10), none, .mv, [(.c (.lit (.int .i64 0)))], none⟩, ⟨(some 11), none, .mv, [(.c (.lit (.bool false)))], none⟩]) c_theorboref06_step_p21)
set_option maxRecDepth 100000 in
theorem k_theorboref06_step : Comp Try.prog nobx gtab 84 118 c_theorboref06_step [(.t 10), (.t 11)] := ⟨⟨Try.f84, _, Try.func84, rfl, rfl, by kernel_rfl, by kernel_rfl⟩⟩
set_option maxRecDepth 100000 in
abbrev c_theorboref06_Step_p1 : VC :=
  (.seq (.ops 0 [⟨(some 20), none, .mv, [(.t 12)], none⟩, ⟨(some 10), none, .mv, [(.c (.lit (.int .i64 0)))], none⟩, ⟨(some 11), none, .mv, [(.t 20)], none⟩]) .ret)
set_option maxRecDepth 100000 in
abbrev c_theorboref06_Step_p2 : VC :=
  (.seq (.ops 0 [⟨(some 18), none, .mv, [(.t 12)], none⟩, ⟨(some 19), none, (.bin .neq), [(.t 18), (.c (.lit (.int .i64 0)))], none⟩]) (.cond (.t 19) c_theorboref06_Step_p1 .skip))
set_option maxRecDepth 100000 in
abbrev c_theorboref06_Step_p3 : VC :=
  (.seq (.ops 0 [⟨(some 27), none, .mv, [(.t 13)], none⟩, ⟨(some 10), none, .mv, [(.c (.lit (.int .i64 0)))], none⟩, ⟨(some 11), none, .mv, [(.t 27)], none⟩]) .ret)
set_option maxRecDepth 100000 in
abbrev c_theorboref06_Step_p4 : VC :=
  (.seq (.ops 0 [⟨(some 25), none, .mv, [(.t 13)], none⟩, ⟨(some 26), none, (.bin .neq), [(.t 25), (.c (.lit (.int .i64 0)))], none⟩]) (.cond (.t 26) c_theorboref06_Step_p3 .skip))
set_option maxRecDepth 100000 in
abbrev c_theorboref06_Step_p5 : VC :=
  (.seq (.ops 0 [⟨(some 10), none, .mv, [(.c (.lit (.int .i64 0)))], none⟩, ⟨(some 11), none, .mv, [(.c (.lit (.int .i64 61)))], none⟩]) .ret)
set_option maxRecDepth 100000 in
abbrev c_theorboref06_Step_p6 : VC :=
  (.seq (.ops 0 [⟨(some 10), none, .mv, [(.c (.lit (.int .i64 0)))], none⟩, ⟨(some 11), none, .mv, [(.c (.lit (.int .i64 61)))], none⟩]) .ret)
set_option maxRecDepth 100000 in
abbrev c_theorboref06_Step_p7 : VC :=
  (.seq (.ops 0 [⟨(some 51), none, .mv, [(.t 14)], none⟩, ⟨(some 10), none, .mv, [(.t 51)], none⟩, ⟨(some 11), none, .mv, [(.c (.lit (.int .i64 0)))], none⟩]) .ret)
set_option maxRecDepth 100000 in
abbrev c_theorboref06_Step_p8 : VC :=
  (.seq (.seq (.ops 0 [⟨(some 49), none, .mv, [(.t 15)], none⟩, ⟨(some 50), none, (.un .not), [(.t 49)], none⟩]) (.cond (.t 50) c_theorboref06_Step_p6 .skip)) c_theorboref06_Step_p7)
set_option maxRecDepth 100000 in
abbrev c_theorboref06_Step_p9 : VC :=
  (.seq (.ops 0 [⟨(some 41), none, (.ldA 10), [(.t 5)], none⟩, ⟨(some 42), none, (.ldA 3), [(.t 6)], none⟩, ⟨(some 43), none, (.ldA 2), [(.t 7)], none⟩, ⟨(some 44), none, (.ldA 3), [(.t 8)], none⟩, ⟨(some 45), none, (.ldA 2), [(.t 9)], none⟩, ⟨(some 46), none, (.call 84), [(.t 41), (.t 42), (.t 43), (.t 44), (.t 45)], none⟩, ⟨(some 40), none, .mv, [(.t 46)], none⟩, ⟨(some 47), none, (.ext 0), [(.t 40)], none⟩, ⟨(some 48), none, (.ext 1), [(.t 40)], none⟩, ⟨(some 14), none, .mv, [(.t 47)], none⟩, ⟨(some 15), none, .mv, [(.t 48)], none⟩]) c_theorboref06_Step_p8)
set_option maxRecDepth 100000 in
abbrev c_theorboref06_Step_p10 : VC :=
  (.seq (.seq (.ops 0 [⟨(some 28), none, (.ldA 10), [(.t 5)], none⟩, ⟨(some 29), none, (.ldA 3), [(.t 6)], none⟩, ⟨(some 30), none, (.ldA 2), [(.t 7)], none⟩, ⟨(some 31), none, (.call 80), [(.t 28), (.t 29), (.t 30)], none⟩, ⟨(some 32), none, (.un .not), [(.t 31)], none⟩, ⟨(some 33), none, .mv, [(.t 32)], none⟩, ⟨(some 34), (some (33, false)), (.ldA 10), [(.t 5)], none⟩, ⟨(some 35), (some (33, false)), (.ldA 3), [(.t 8)], none⟩, ⟨(some 36), (some (33, false)), (.ldA 2), [(.t 9)], none⟩, ⟨(some 37), (some (33, false)), (.call 80), [(.t 34), (.t 35), (.t 36)], none⟩, ⟨(some 38), (some (33, false)), (.un .not), [(.t 37)], none⟩, ⟨(some 39), none, .pick, [(.t 33), (.c (.lit (.bool true))), (.t 38)], none⟩]) (.cond (.t 39) c_theorboref06_Step_p5 .skip)) c_theorboref06_Step_p9)
set_option maxRecDepth 100000 in
abbrev c_theorboref06_Step_p11 : VC :=
  (.seq (.seq (.ops 0 [⟨(some 21), none, (.ldA 3), [(.t 6)], none⟩, ⟨(some 22), none, (.ldA 3), [(.t 8)], none⟩, ⟨(some 23), none, (.mksl 2 3 [(.sl 0 [] .exact), (.sl 0 [] .exact), (.sl 0 [] .exact), (.sl 0 [] .exact), (.sl 0 [] .exact), (.sl 0 [] .exact)] [(0, 3), (3, 3)]), [(.t 21), (.t 22)], none⟩, ⟨(some 24), none, (.call 27), [(.t 23)], none⟩, ⟨(some 13), none, .mv, [(.t 24)], none⟩]) c_theorboref06_Step_p4) c_theorboref06_Step_p10)
set_option maxRecDepth 100000 in
abbrev c_theorboref06_Step_p12 : VC :=
  (.seq (.seq (.ops 0 [⟨(some 16), none, (.ldA 10), [(.t 5)], none⟩, ⟨(some 17), none, (.call 25), [(.t 16)], none⟩, ⟨(some 12), none, .mv, [(.t 17)], none⟩]) c_theorboref06_Step_p2) c_theorboref06_Step_p11)
set_option maxRecDepth 100000 in
def c_theorboref06_Step : VC :=
  (.seq (.ops 7 [⟨(some 5), none, (.box 25), [(.t 0)], none⟩, ⟨(some 6), none, (.box 47), [(.t 1)], none⟩, ⟨(some 7), none, (.box 53), [(.t 2)], none⟩, ⟨(some 8), none, (.box 47), [(.t 3)], none⟩, ⟨(some 9), none, (.box 53), [(.t 4)], none⟩, ⟨(some 10), none, .mv, [(.c (.lit (.int .i64 0)))], none⟩, ⟨(some 11), none, .mv, [(.c (.lit (.int .i64 0)))], none⟩]) c_theorboref06_Step_p12)
set_option maxRecDepth 100000 in
theorem k_theorboref06_Step : Comp Try.prog nobx gtab 46 52 c_theorboref06_Step [(.t 10), (.t 11)] := ⟨⟨Try.f46, _, Try.func46, rfl, rfl, by kernel_rfl, by kernel_rfl⟩⟩
set_option maxRecDepth 100000 in
abbrev c_theorbolaw06_HandCosts_p1 : VC :=
  (.seq (.ops 0 [⟨(some 4), none, .mv, [(.c (.lit (.bool false)))], none⟩]) .ret)
set_option maxRecDepth 100000 in
abbrev c_theorbolaw06_HandCosts_p2 : VC :=
  (.seq (.ops 0 [⟨(some 61), none, .mv, [(.t 9)], none⟩, ⟨(some 62), none, .mv, [(.t 11)], none⟩, ⟨(some 63), none, (.bin .eql), [(.t 61), (.t 62)], none⟩, ⟨(some 64), none, .mv, [(.t 63)], none⟩, ⟨(some 65), (some (64, true)), .mv, [(.t 10)], none⟩, ⟨(some 66), (some (64, true)), .mv, [(.t 12)], none⟩, ⟨(some 67), (some (64, true)), (.bin .eql), [(.t 65), (.t 66)], none⟩, ⟨(some 68), none, .pick, [(.t 64), (.t 67), (.c (.lit (.bool false)))], none⟩, ⟨(some 69), none, .mv, [(.t 68)], none⟩, ⟨(some 70), (some (69, true)), (.call 28), [], none⟩, ⟨(some 71), none, .pick, [(.t 69), (.t 70), (.c (.lit (.bool false)))], none⟩, ⟨(some 4), none, .mv, [(.t 71)], none⟩]) .ret)
set_option maxRecDepth 100000 in
abbrev c_theorbolaw06_HandCosts_p3 : VC :=
  (.seq (.ops 0 [⟨(some 53), none, (.ldA 10), [(.t 2)], none⟩, ⟨(some 54), none, (.ldA 3), [(.t 5)], none⟩, ⟨(some 55), none, (.ldA 2), [(.t 7)], none⟩, ⟨(some 56), none, (.ldA 3), [(.t 6)], none⟩, ⟨(some 57), none, (.ldA 2), [(.t 8)], none⟩, ⟨(some 58), none, (.call 46), [(.t 53), (.t 54), (.t 55), (.t 56), (.t 57)], none⟩, ⟨(some 52), none, .mv, [(.t 58)], none⟩, ⟨(some 59), none, (.ext 0), [(.t 52)], none⟩, ⟨(some 60), none, (.ext 1), [(.t 52)], none⟩, ⟨(some 11), none, .mv, [(.t 59)], none⟩, ⟨(some 12), none, .mv, [(.t 60)], none⟩]) c_theorbolaw06_HandCosts_p2)
set_option maxRecDepth 100000 in
abbrev c_theorbolaw06_HandCosts_p4 : VC :=
  (.seq (.ops 0 [⟨(some 44), none, (.ldA 10), [(.t 2)], none⟩, ⟨(some 45), none, (.ldA 3), [(.t 5)], none⟩, ⟨(some 46), none, (.ldA 2), [(.t 7)], none⟩, ⟨(some 47), none, (.ldA 3), [(.t 6)], none⟩, ⟨(some 48), none, (.ldA 2), [(.t 8)], none⟩, ⟨(some 49), none, (.call 45), [(.t 44), (.t 45), (.t 46), (.t 47), (.t 48)], none⟩, ⟨(some 43), none, .mv, [(.t 49)], none⟩, ⟨(some 50), none, (.ext 0), [(.t 43)], none⟩, ⟨(some 51), none, (.ext 1), [(.t 43)], none⟩, ⟨(some 9), none, .mv, [(.t 50)], none⟩, ⟨(some 10), none, .mv, [(.t 51)], none⟩]) c_theorbolaw06_HandCosts_p3)
set_option maxRecDepth 100000 in
abbrev c_theorbolaw06_HandCosts_p5 : VC :=
  (.seq (.seq (.ops 0 [⟨(some 35), none, .mv, [(.t 9)], none⟩, ⟨(some 36), none, .mv, [(.t 11)], none⟩, ⟨(some 37), none, (.bin .neq), [(.t 35), (.t 36)], none⟩, ⟨(some 38), none, .mv, [(.t 37)], none⟩, ⟨(some 39), (some (38, false)), .mv, [(.t 10)], none⟩, ⟨(some 40), (some (38, false)), .mv, [(.t 12)], none⟩, ⟨(some 41), (some (38, false)), (.bin .neq), [(.t 39), (.t 40)], none⟩, ⟨(some 42), none, .pick, [(.t 38), (.c (.lit (.bool true))), (.t 41)], none⟩]) (.cond (.t 42) c_theorbolaw06_HandCosts_p1 .skip)) c_theorbolaw06_HandCosts_p4)
set_option maxRecDepth 100000 in
abbrev c_theorbolaw06_HandCosts_p6 : VC :=
  (.seq (.ops 0 [⟨(some 29), none, (.ldA 10), [(.t 2)], none⟩, ⟨(some 30), none, (.ldA 3), [(.t 5)], none⟩, ⟨(some 31), none, (.ldA 2), [(.t 7)], none⟩, ⟨(some 32), none, (.call 44), [(.t 29), (.t 30), (.t 31)], none⟩, ⟨(some 28), none, .mv, [(.t 32)], none⟩, ⟨(some 33), none, (.ext 0), [(.t 28)], none⟩, ⟨(some 34), none, (.ext 1), [(.t 28)], none⟩, ⟨(some 11), none, .mv, [(.t 33)], none⟩, ⟨(some 12), none, .mv, [(.t 34)], none⟩]) c_theorbolaw06_HandCosts_p5)
set_option maxRecDepth 100000 in
abbrev c_theorbolaw06_HandCosts_p7 : VC :=
  (.seq (.ops 0 [⟨(some 22), none, (.ldA 10), [(.t 2)], none⟩, ⟨(some 23), none, (.ldA 3), [(.t 5)], none⟩, ⟨(some 24), none, (.ldA 2), [(.t 7)], none⟩, ⟨(some 25), none, (.call 43), [(.t 22), (.t 23), (.t 24)], none⟩, ⟨(some 21), none, .mv, [(.t 25)], none⟩, ⟨(some 26), none, (.ext 0), [(.t 21)], none⟩, ⟨(some 27), none, (.ext 1), [(.t 21)], none⟩, ⟨(some 9), none, .mv, [(.t 26)], none⟩, ⟨(some 10), none, .mv, [(.t 27)], none⟩]) c_theorbolaw06_HandCosts_p6)
set_option maxRecDepth 100000 in
abbrev c_theorbolaw06_HandCosts_p8 : VC :=
  (.seq (.ops 16 [⟨(some 13), none, (.fldA 0), [(.t 3)], none⟩, ⟨(some 14), none, (.ldA 3), [(.t 13)], (some [0])⟩, ⟨(some 15), none, (.fldA 3), [(.t 3)], none⟩, ⟨(some 16), none, (.ldA 3), [(.t 15)], (some [2])⟩, ⟨(some 17), none, (.fldA 6), [(.t 3)], none⟩, ⟨(some 18), none, (.ldA 2), [(.t 17)], (some [4])⟩, ⟨(some 19), none, (.fldA 8), [(.t 3)], none⟩, ⟨(some 20), none, (.ldA 2), [(.t 19)], (some [6])⟩, ⟨(some 5), none, (.alloc 47 [(.sl 0 [] .exact), (.sl 0 [] .exact), (.sl 0 [] .exact)]), [], (some [])⟩, ⟨(some 6), none, (.alloc 47 [(.sl 0 [] .exact), (.sl 0 [] .exact), (.sl 0 [] .exact)]), [], (some [])⟩, ⟨(some 7), none, (.alloc 53 [(.lit (.int .i64 0)), (.sl 0 [] .exact)]), [], (some [])⟩, ⟨(some 8), none, (.alloc 53 [(.lit (.int .i64 0)), (.sl 0 [] .exact)]), [], (some [])⟩, ⟨none, none, (.st 3), [(.t 5), (.t 14)], (some [8])⟩, ⟨none, none, (.st 3), [(.t 6), (.t 16)], (some [9])⟩, ⟨none, none, (.st 2), [(.t 7), (.t 18)], (some [10])⟩, ⟨none, none, (.st 2), [(.t 8), (.t 20)], none⟩]) c_theorbolaw06_HandCosts_p7)
set_option maxRecDepth 100000 in
def c_theorbolaw06_HandCosts : VC :=
  (.seq (.ops 3 [⟨(some 2), none, (.box 25), [(.t 0)], none⟩, ⟨(some 3), none, (.box 63), [(.t 1)], none⟩, ⟨(some 4), none, .mv, [(.c (.lit (.bool false)))], none⟩]) c_theorbolaw06_HandCosts_p8)
set_option maxRecDepth 100000 in
theorem k_theorbolaw06_HandCosts : Comp Try.prog nobx gtab 10 72 c_theorbolaw06_HandCosts [(.t 4)] := ⟨⟨Try.f10, _, Try.func10, rfl, rfl, by kernel_rfl, by kernel_rfl⟩⟩
end Go.Proofs.Ytojjdkoglhecbaa
