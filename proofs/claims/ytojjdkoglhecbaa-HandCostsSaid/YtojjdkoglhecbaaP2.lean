/- Functions of the program, as code on values by numbers: printed by a program from the program that was given, and held against it here. -/
import Derived.Test.YtojjdkoglhecbaaG0
namespace Go.Proofs.Ytojjdkoglhecbaa
open Go.RowKit

set_option maxRecDepth 100000 in
abbrev c_hand_CheckChords_p1 : VC :=
  (.seq (.ops 0 [⟨(some 2), none, .mv, [(.c (.lit (.int .i64 2)))], none⟩]) .ret)
set_option maxRecDepth 100000 in
abbrev c_hand_CheckChords_p2 : VC :=
  (.seq (.ops 0 [⟨(some 2), none, .mv, [(.c (.lit (.int .i64 1)))], none⟩]) .ret)
set_option maxRecDepth 100000 in
abbrev c_hand_CheckChords_p3 : VC :=
  (.seq (.ops 0 [⟨(some 15), none, (.ldA 3), [(.t 4)], none⟩, ⟨(some 16), none, (.call 65), [(.t 15)], none⟩, ⟨(some 17), none, (.un .not), [(.t 16)], none⟩, ⟨(some 18), none, .mv, [(.t 17)], none⟩, ⟨(some 19), (some (18, false)), .mv, [(.t 3)], none⟩, ⟨(some 20), (some (18, false)), (.bin .gtr), [(.t 19), (.c (.lit (.int .i64 0)))], none⟩, ⟨(some 21), (some (18, false)), .mv, [(.t 20)], none⟩, ⟨(some 22), (some (21, true)), .mv, [(.t 0)], none⟩, ⟨(some 23), (some (21, true)), .mv, [(.t 3)], none⟩, ⟨(some 24), (some (21, true)), (.bin .sub), [(.t 23), (.c (.lit (.int .i64 1)))], none⟩, ⟨(some 25), (some (21, true)), (.ixA 3), [(.t 22), (.t 24)], none⟩, ⟨(some 26), (some (21, true)), (.ldA 3), [(.t 25)], (some [0, 1, 2, 3, 4, 5, 6, 7, 8, 9, 10])⟩, ⟨(some 27), (some (21, true)), (.ldA 3), [(.t 4)], (some [0, 1, 2, 3, 4, 5, 6])⟩, ⟨(some 28), (some (21, true)), (.call 66), [(.t 26), (.t 27)], none⟩, ⟨(some 29), (some (21, true)), (.un .not), [(.t 28)], none⟩, ⟨(some 30), (some (18, false)), .pick, [(.t 21), (.t 29), (.c (.lit (.bool false)))], none⟩, ⟨(some 31), none, .pick, [(.t 18), (.c (.lit (.bool true))), (.t 30)], none⟩]) (.cond (.t 31) c_hand_CheckChords_p2 .skip))
set_option maxRecDepth 100000 in
abbrev c_hand_CheckChords_p4 : VC :=
  (.ops 0 [⟨(some 32), none, (.bin .add), [(.t 10), (.c (.lit (.int .i64 1)))], none⟩, ⟨(some 10), none, .mv, [(.t 32)], none⟩])
set_option maxRecDepth 100000 in
abbrev c_hand_CheckChords_p5 : VC :=
  (.seq (.block 1 (.seq (.ops 6 [⟨(some 12), none, .mv, [(.t 10)], none⟩, ⟨(some 13), none, (.ixA 3), [(.t 8), (.t 10)], none⟩, ⟨(some 14), none, (.ldA 3), [(.t 13)], none⟩, ⟨(some 4), none, (.alloc 47 [(.sl 0 [] .exact), (.sl 0 [] .exact), (.sl 0 [] .exact)]), [], none⟩, ⟨(some 3), none, .mv, [(.t 12)], none⟩, ⟨none, none, (.st 3), [(.t 4), (.t 14)], none⟩]) c_hand_CheckChords_p3)) c_hand_CheckChords_p4)
set_option maxRecDepth 100000 in
abbrev c_hand_CheckChords_p6 : VC :=
  (.seq (.cond (.t 11) .skip (.exit 0)) c_hand_CheckChords_p5)
set_option maxRecDepth 100000 in
abbrev c_hand_CheckChords_p7 : VC :=
  (.seq (.ops 0 [⟨(some 11), none, (.bin .lss), [(.t 10), (.t 9)], none⟩]) c_hand_CheckChords_p6)
abbrev w_hand_CheckChords_p7 : Nat := 8589933596
set_option maxRecDepth 100000 in
abbrev c_hand_CheckChords_p9 : VC :=
  (.seq (.ops 0 [⟨(some 2), none, .mv, [(.c (.lit (.int .i64 0)))], none⟩]) .ret)
set_option maxRecDepth 100000 in
abbrev c_hand_CheckChords_p10 : VC :=
  (.seq (.seq (.ops 0 [⟨(some 8), none, .mv, [(.t 0)], none⟩, ⟨(some 9), none, .len, [(.t 8)], none⟩, ⟨(some 10), none, .mv, [(.c (.lit (.int .i64 0)))], none⟩]) (.block 0 (.loop c_hand_CheckChords_p7))) c_hand_CheckChords_p9)
set_option maxRecDepth 100000 in
abbrev c_hand_CheckChords_p11 : VC :=
  (.seq (.seq (.ops 0 [⟨(some 5), none, .mv, [(.t 0)], none⟩, ⟨(some 6), none, .len, [(.t 5)], none⟩, ⟨(some 7), none, (.bin .gtr), [(.t 6), (.c (.lit (.int .i64 400)))], none⟩]) (.cond (.t 7) c_hand_CheckChords_p1 .skip)) c_hand_CheckChords_p10)
set_option maxRecDepth 100000 in
def c_hand_CheckChords : VC :=
  (.seq (.ops 0 [⟨(some 2), none, .mv, [(.c (.lit (.int .i64 0)))], none⟩]) c_hand_CheckChords_p11)
set_option maxRecDepth 100000 in
theorem k_hand_CheckChords : Comp Try.prog nobx gtab 26 33 c_hand_CheckChords [(.t 2)] := ⟨⟨Try.f26, _, Try.func26, rfl, rfl, by kernel_rfl, by kernel_rfl⟩⟩
set_option maxRecDepth 100000 in
abbrev c_hand_right_p1 : VC :=
  (.seq (.ops 0 [⟨(some 2), none, .mv, [(.c (.lit (.bool false)))], none⟩]) .ret)
set_option maxRecDepth 100000 in
abbrev c_hand_right_p2 : VC :=
  (.ops 0 [⟨(some 32), none, (.fldA 0), [(.t 5)], none⟩, ⟨(some 33), none, .ld1, [(.t 32)], none⟩, ⟨(some 3), none, .mv, [(.t 33)], none⟩])
set_option maxRecDepth 100000 in
abbrev c_hand_right_p3 : VC :=
  (.seq (.seq (.ops 0 [⟨(some 17), none, (.fldA 0), [(.t 5)], none⟩, ⟨(some 18), none, .ld1, [(.t 17)], none⟩, ⟨(some 19), none, .mv, [(.t 3)], none⟩, ⟨(some 20), none, (.bin .leq), [(.t 18), (.t 19)], none⟩, ⟨(some 21), none, .mv, [(.t 20)], none⟩, ⟨(some 22), (some (21, false)), (.fldA 0), [(.t 5)], none⟩, ⟨(some 23), (some (21, false)), .ld1, [(.t 22)], none⟩, ⟨(some 24), (some (21, false)), (.bin .gtr), [(.t 23), (.c (.lit (.int .i64 14)))], none⟩, ⟨(some 25), none, .pick, [(.t 21), (.c (.lit (.bool true))), (.t 24)], none⟩, ⟨(some 26), none, .mv, [(.t 25)], none⟩, ⟨(some 27), (some (26, false)), (.fldA 1), [(.t 5)], none⟩, ⟨(some 28), (some (26, false)), .ld1, [(.t 27)], none⟩, ⟨(some 29), (some (26, false)), (.call 63), [(.t 28), (.c (.lit (.int .i64 1))), (.c (.lit (.int .i64 18)))], none⟩, ⟨(some 30), (some (26, false)), (.un .not), [(.t 29)], none⟩, ⟨(some 31), none, .pick, [(.t 26), (.c (.lit (.bool true))), (.t 30)], none⟩]) (.cond (.t 31) c_hand_right_p1 .skip)) c_hand_right_p2)
set_option maxRecDepth 100000 in
abbrev c_hand_right_p4 : VC :=
  (.ops 0 [⟨(some 34), none, (.bin .add), [(.t 13), (.c (.lit (.int .i64 1)))], none⟩, ⟨(some 13), none, .mv, [(.t 34)], none⟩])
set_option maxRecDepth 100000 in
abbrev c_hand_right_p5 : VC :=
  (.seq (.block 1 (.seq (.ops 4 [⟨(some 15), none, (.ixA 2), [(.t 11), (.t 13)], none⟩, ⟨(some 16), none, (.ldA 2), [(.t 15)], none⟩, ⟨(some 5), none, (.alloc 92 [(.lit (.int .i64 0)), (.lit (.int .i64 0))]), [], none⟩, ⟨none, none, (.st 2), [(.t 5), (.t 16)], none⟩]) c_hand_right_p3)) c_hand_right_p4)
set_option maxRecDepth 100000 in
abbrev c_hand_right_p6 : VC :=
  (.seq (.ops 0 [⟨(some 14), none, (.bin .lss), [(.t 13), (.t 12)], none⟩]) (.seq (.cond (.t 14) .skip (.exit 0)) c_hand_right_p5))
abbrev w_hand_right_p6 : Nat := 34359730220
set_option maxRecDepth 100000 in
abbrev c_hand_right_p8 : VC :=
  (.seq (.ops 0 [⟨(some 2), none, .mv, [(.c (.lit (.bool false)))], none⟩]) .ret)
set_option maxRecDepth 100000 in
abbrev c_hand_right_p9 : VC :=
  (.seq (.ops 0 [⟨(some 2), none, .mv, [(.c (.lit (.bool false)))], none⟩]) .ret)
set_option maxRecDepth 100000 in
abbrev c_hand_right_p10 : VC :=
  (.seq (.ops 0 [⟨(some 52), none, (.ldA 3), [(.t 1)], none⟩, ⟨(some 53), none, .mv, [(.t 7)], none⟩, ⟨(some 54), none, (.call 100), [(.t 52), (.t 53)], none⟩, ⟨(some 55), none, (.bin .lss), [(.t 54), (.c (.lit (.int .i64 0)))], none⟩]) (.cond (.t 55) c_hand_right_p9 .skip))
set_option maxRecDepth 100000 in
abbrev c_hand_right_p11 : VC :=
  (.ops 0 [⟨(some 56), none, (.bin .add), [(.t 48), (.c (.lit (.int .i64 1)))], none⟩, ⟨(some 48), none, .mv, [(.t 56)], none⟩])
set_option maxRecDepth 100000 in
abbrev c_hand_right_p12 : VC :=
  (.seq (.block 3 (.seq (.ops 0 [⟨(some 50), none, (.ixA 1), [(.t 46), (.t 48)], none⟩, ⟨(some 51), none, .ld1, [(.t 50)], none⟩, ⟨(some 7), none, .mv, [(.t 51)], none⟩]) c_hand_right_p10)) c_hand_right_p11)
set_option maxRecDepth 100000 in
abbrev c_hand_right_p13 : VC :=
  (.seq (.ops 0 [⟨(some 49), none, (.bin .lss), [(.t 48), (.t 47)], none⟩]) (.seq (.cond (.t 49) .skip (.exit 2)) c_hand_right_p12))
abbrev w_hand_right_p13 : Nat := 143833713099145348
set_option maxRecDepth 100000 in
abbrev c_hand_right_p15 : VC :=
  (.seq (.ops 0 [⟨(some 2), none, .mv, [(.c (.lit (.bool false)))], none⟩]) .ret)
set_option maxRecDepth 100000 in
abbrev c_hand_right_p16 : VC :=
  (.seq (.ops 0 [⟨(some 64), none, .mv, [(.t 9)], none⟩, ⟨(some 65), none, (.call 63), [(.t 64), (.c (.lit (.int .i64 1))), (.c (.lit (.int .i64 14)))], none⟩, ⟨(some 66), none, (.un .not), [(.t 65)], none⟩, ⟨(some 67), none, .mv, [(.t 66)], none⟩, ⟨(some 68), (some (67, false)), (.ldA 3), [(.t 1)], none⟩, ⟨(some 69), (some (67, false)), .mv, [(.t 9)], none⟩, ⟨(some 70), (some (67, false)), (.call 100), [(.t 68), (.t 69)], none⟩, ⟨(some 71), (some (67, false)), (.bin .geq), [(.t 70), (.c (.lit (.int .i64 0)))], none⟩, ⟨(some 72), none, .pick, [(.t 67), (.c (.lit (.bool true))), (.t 71)], none⟩]) (.cond (.t 72) c_hand_right_p15 .skip))
set_option maxRecDepth 100000 in
abbrev c_hand_right_p17 : VC :=
  (.ops 0 [⟨(some 73), none, (.bin .add), [(.t 60), (.c (.lit (.int .i64 1)))], none⟩, ⟨(some 60), none, .mv, [(.t 73)], none⟩])
set_option maxRecDepth 100000 in
abbrev c_hand_right_p18 : VC :=
  (.seq (.block 5 (.seq (.ops 0 [⟨(some 62), none, (.ixA 1), [(.t 58), (.t 60)], none⟩, ⟨(some 63), none, .ld1, [(.t 62)], none⟩, ⟨(some 9), none, .mv, [(.t 63)], none⟩]) c_hand_right_p16)) c_hand_right_p17)
set_option maxRecDepth 100000 in
abbrev c_hand_right_p19 : VC :=
  (.seq (.ops 0 [⟨(some 61), none, (.bin .lss), [(.t 60), (.t 59)], none⟩]) (.seq (.cond (.t 61) .skip (.exit 4)) c_hand_right_p18))
abbrev w_hand_right_p19 : Nat := 18888313009973974008324
set_option maxRecDepth 100000 in
abbrev c_hand_right_p21 : VC :=
  (.seq (.ops 0 [⟨(some 2), none, .mv, [(.c (.lit (.bool true)))], none⟩]) .ret)
set_option maxRecDepth 100000 in
abbrev c_hand_right_p22 : VC :=
  (.seq (.seq (.ops 0 [⟨(some 57), none, (.fldA 2), [(.t 1)], none⟩, ⟨(some 58), none, .ld1, [(.t 57)], none⟩, ⟨(some 59), none, .len, [(.t 58)], none⟩, ⟨(some 60), none, .mv, [(.c (.lit (.int .i64 0)))], none⟩]) (.block 4 (.loop c_hand_right_p19))) c_hand_right_p21)
set_option maxRecDepth 100000 in
abbrev c_hand_right_p23 : VC :=
  (.seq (.seq (.ops 0 [⟨(some 45), none, (.fldA 1), [(.t 1)], none⟩, ⟨(some 46), none, .ld1, [(.t 45)], none⟩, ⟨(some 47), none, .len, [(.t 46)], none⟩, ⟨(some 48), none, .mv, [(.c (.lit (.int .i64 0)))], none⟩]) (.block 2 (.loop c_hand_right_p13))) c_hand_right_p22)
set_option maxRecDepth 100000 in
abbrev c_hand_right_p24 : VC :=
  (.seq (.seq (.ops 0 [⟨(some 35), none, (.fldA 1), [(.t 1)], none⟩, ⟨(some 36), none, .ld1, [(.t 35)], none⟩, ⟨(some 37), none, (.call 99), [(.t 36)], none⟩, ⟨(some 38), none, (.un .not), [(.t 37)], none⟩, ⟨(some 39), none, .mv, [(.t 38)], none⟩, ⟨(some 40), (some (39, false)), (.fldA 2), [(.t 1)], none⟩, ⟨(some 41), (some (39, false)), .ld1, [(.t 40)], none⟩, ⟨(some 42), (some (39, false)), (.call 99), [(.t 41)], none⟩, ⟨(some 43), (some (39, false)), (.un .not), [(.t 42)], none⟩, ⟨(some 44), none, .pick, [(.t 39), (.c (.lit (.bool true))), (.t 43)], none⟩]) (.cond (.t 44) c_hand_right_p8 .skip)) c_hand_right_p23)
set_option maxRecDepth 100000 in
abbrev c_hand_right_p25 : VC :=
  (.seq (.seq (.ops 0 [⟨(some 10), none, (.fldA 0), [(.t 1)], none⟩, ⟨(some 11), none, .ld1, [(.t 10)], none⟩, ⟨(some 12), none, .len, [(.t 11)], none⟩, ⟨(some 13), none, .mv, [(.c (.lit (.int .i64 0)))], none⟩]) (.block 0 (.loop c_hand_right_p6))) c_hand_right_p24)
set_option maxRecDepth 100000 in
abbrev c_hand_right_p26 : VC :=
  (.seq (.ops 0 [⟨(some 3), none, .mv, [(.c (.lit (.int .i64 0)))], none⟩]) c_hand_right_p25)
set_option maxRecDepth 100000 in
def c_hand_right : VC :=
  (.seq (.ops 2 [⟨(some 1), none, (.box 47), [(.t 0)], none⟩, ⟨(some 2), none, .mv, [(.c (.lit (.bool false)))], none⟩]) c_hand_right_p26)
set_option maxRecDepth 100000 in
theorem k_hand_right : Comp Try.prog nobx gtab 65 74 c_hand_right [(.t 2)] := ⟨⟨Try.f65, _, Try.func65, rfl, rfl, by kernel_rfl, by kernel_rfl⟩⟩
set_option maxRecDepth 100000 in
abbrev c_hand_follows_p1 : VC :=
  (.seq (.ops 0 [⟨(some 4), none, .mv, [(.c (.lit (.bool false)))], none⟩]) .ret)
set_option maxRecDepth 100000 in
abbrev c_hand_follows_p2 : VC :=
  (.seq (.ops 0 [⟨(some 18), none, .mv, [(.t 7)], none⟩, ⟨(some 19), none, (.bin .lss), [(.t 18), (.c (.lit (.int .i64 0)))], none⟩, ⟨(some 20), none, .mv, [(.t 19)], none⟩, ⟨(some 21), (some (20, false)), (.fldA 0), [(.t 2)], none⟩, ⟨(some 22), (some (20, false)), .ld1, [(.t 21)], (some [0, 1, 2, 3])⟩, ⟨(some 23), (some (20, false)), .mv, [(.t 7)], none⟩, ⟨(some 24), (some (20, false)), (.ixA 2), [(.t 22), (.t 23)], none⟩, ⟨(some 25), (some (20, false)), (.ldA 2), [(.t 24)], (some [0, 1, 2, 3, 4, 5, 6])⟩, ⟨(some 26), (some (20, false)), (.fldA 0), [(.t 3)], none⟩, ⟨(some 27), (some (20, false)), .ld1, [(.t 26)], (some [0, 1, 2, 8])⟩, ⟨(some 28), (some (20, false)), (.ldA 3), [(.t 3)], (some [0, 1, 2])⟩, ⟨(some 29), (some (20, false)), .mv, [(.t 6)], none⟩, ⟨(some 30), (some (20, false)), (.call 100), [(.t 28), (.t 29)], (some [0, 1, 2, 10, 11])⟩, ⟨(some 31), (some (20, false)), (.ixA 2), [(.t 27), (.t 30)], none⟩, ⟨(some 32), (some (20, false)), (.ldA 2), [(.t 31)], (some [0, 1, 2, 8, 9, 10, 11, 12, 13])⟩, ⟨(some 33), (some (20, false)), (.eqP [(0, 0), (1, 0)] true), [(.t 25), (.t 32)], none⟩, ⟨(some 34), none, .pick, [(.t 20), (.c (.lit (.bool true))), (.t 33)], none⟩]) (.cond (.t 34) c_hand_follows_p1 .skip))
set_option maxRecDepth 100000 in
abbrev c_hand_follows_p3 : VC :=
  (.seq (.ops 0 [⟨(some 15), none, (.ldA 3), [(.t 2)], none⟩, ⟨(some 16), none, .mv, [(.t 6)], none⟩, ⟨(some 17), none, (.call 100), [(.t 15), (.t 16)], none⟩, ⟨(some 7), none, .mv, [(.t 17)], none⟩]) c_hand_follows_p2)
set_option maxRecDepth 100000 in
abbrev c_hand_follows_p4 : VC :=
  (.ops 0 [⟨(some 35), none, (.bin .add), [(.t 11), (.c (.lit (.int .i64 1)))], none⟩, ⟨(some 11), none, .mv, [(.t 35)], none⟩])
set_option maxRecDepth 100000 in
abbrev c_hand_follows_p5 : VC :=
  (.seq (.block 1 (.seq (.ops 0 [⟨(some 13), none, (.ixA 1), [(.t 9), (.t 11)], none⟩, ⟨(some 14), none, .ld1, [(.t 13)], none⟩, ⟨(some 6), none, .mv, [(.t 14)], none⟩]) c_hand_follows_p3)) c_hand_follows_p4)
set_option maxRecDepth 100000 in
abbrev c_hand_follows_p6 : VC :=
  (.seq (.ops 0 [⟨(some 12), none, (.bin .lss), [(.t 11), (.t 10)], none⟩]) (.seq (.cond (.t 12) .skip (.exit 0)) c_hand_follows_p5))
abbrev w_hand_follows_p6 : Nat := 68719474896
set_option maxRecDepth 100000 in
abbrev c_hand_follows_p8 : VC :=
  (.seq (.ops 0 [⟨(some 4), none, .mv, [(.c (.lit (.bool true)))], none⟩]) .ret)
set_option maxRecDepth 100000 in
abbrev c_hand_follows_p9 : VC :=
  (.seq (.seq (.ops 0 [⟨(some 8), none, (.fldA 1), [(.t 3)], none⟩, ⟨(some 9), none, .ld1, [(.t 8)], none⟩, ⟨(some 10), none, .len, [(.t 9)], none⟩, ⟨(some 11), none, .mv, [(.c (.lit (.int .i64 0)))], none⟩]) (.block 0 (.loop c_hand_follows_p6))) c_hand_follows_p8)
set_option maxRecDepth 100000 in
def c_hand_follows : VC :=
  (.seq (.ops 3 [⟨(some 2), none, (.box 47), [(.t 0)], none⟩, ⟨(some 3), none, (.box 47), [(.t 1)], none⟩, ⟨(some 4), none, .mv, [(.c (.lit (.bool false)))], none⟩]) c_hand_follows_p9)
set_option maxRecDepth 100000 in
theorem k_hand_follows : Comp Try.prog nobx gtab 66 36 c_hand_follows [(.t 4)] := ⟨⟨Try.f66, _, Try.func66, rfl, rfl, by kernel_rfl, by kernel_rfl⟩⟩
set_option maxRecDepth 100000 in
abbrev c_hand_down_p1 : VC :=
  (.seq (.ops 0 [⟨(some 5), none, (.fldA 0), [(.t 2)], none⟩, ⟨(some 6), none, .ld1, [(.t 5)], none⟩, ⟨(some 7), none, (.mkfn 130), [(.t 3)], none⟩, ⟨(some 8), none, (.call 129), [(.t 6), (.t 7)], none⟩, ⟨(some 4), none, .mv, [(.t 8)], none⟩]) .ret)
set_option maxRecDepth 100000 in
def c_hand_down : VC :=
  (.seq (.ops 3 [⟨(some 2), none, (.box 47), [(.t 0)], none⟩, ⟨(some 3), none, (.box 3), [(.t 1)], none⟩, ⟨(some 4), none, .mv, [(.c (.lit (.int .i64 0)))], none⟩]) c_hand_down_p1)
set_option maxRecDepth 100000 in
theorem k_hand_down : Comp Try.prog nobx gtab 100 9 c_hand_down [(.t 4)] := ⟨⟨Try.f100, _, Try.func100, rfl, rfl, by kernel_rfl, by kernel_rfl⟩⟩
set_option maxRecDepth 100000 in
abbrev c_hand_down_1_p1 : VC :=
  (.seq (.ops 0 [⟨(some 4), none, (.fldA 0), [(.t 2)], none⟩, ⟨(some 5), none, .ld1, [(.t 4)], none⟩, ⟨(some 6), none, .ld1, [(.t 1)], none⟩, ⟨(some 7), none, (.bin .eql), [(.t 5), (.t 6)], none⟩, ⟨(some 3), none, .mv, [(.t 7)], none⟩]) .ret)
set_option maxRecDepth 100000 in
def c_hand_down_1 : VC :=
  (.seq (.ops 2 [⟨(some 2), none, (.box 92), [(.t 0)], none⟩, ⟨(some 3), none, .mv, [(.c (.lit (.bool false)))], none⟩]) c_hand_down_1_p1)
set_option maxRecDepth 100000 in
theorem k_hand_down_1 : Comp Try.prog nobx gtab 130 8 c_hand_down_1 [(.t 3)] := ⟨⟨Try.f130, _, Try.func130, rfl, rfl, by kernel_rfl, by kernel_rfl⟩⟩
set_option maxRecDepth 100000 in
abbrev c_slices_IndexFunc_api_Place_api_Place_p1 : VC :=
  (.seq (.ops 0 [⟨(some 17), none, .mv, [(.t 5)], none⟩, ⟨(some 4), none, .mv, [(.t 17)], none⟩]) .ret)
set_option maxRecDepth 100000 in
abbrev c_slices_IndexFunc_api_Place_api_Place_p2 : VC :=
  (.cond (.t 16) c_slices_IndexFunc_api_Place_api_Place_p1 .skip)
set_option maxRecDepth 100000 in
abbrev c_slices_IndexFunc_api_Place_api_Place_p3 : VC :=
  (.seq (.ops 0 [⟨(some 11), none, .mv, [(.t 1)], none⟩, ⟨(some 12), none, .mv, [(.t 0)], none⟩, ⟨(some 13), none, .mv, [(.t 5)], none⟩, ⟨(some 14), none, (.ixA 2), [(.t 12), (.t 13)], none⟩, ⟨(some 15), none, (.ldA 2), [(.t 14)], none⟩, ⟨(some 16), none, .callv, [(.t 11), (.t 15)], none⟩]) c_slices_IndexFunc_api_Place_api_Place_p2)
set_option maxRecDepth 100000 in
abbrev c_slices_IndexFunc_api_Place_api_Place_p4 : VC :=
  (.ops 0 [⟨(some 18), none, (.bin .add), [(.t 8), (.c (.lit (.int .i64 1)))], none⟩, ⟨(some 8), none, .mv, [(.t 18)], none⟩])
set_option maxRecDepth 100000 in
abbrev c_slices_IndexFunc_api_Place_api_Place_p5 : VC :=
  (.seq (.block 1 (.seq (.ops 0 [⟨(some 10), none, .mv, [(.t 8)], none⟩, ⟨(some 5), none, .mv, [(.t 10)], none⟩]) c_slices_IndexFunc_api_Place_api_Place_p3)) c_slices_IndexFunc_api_Place_api_Place_p4)
set_option maxRecDepth 100000 in
abbrev c_slices_IndexFunc_api_Place_api_Place_p6 : VC :=
  (.seq (.cond (.t 9) .skip (.exit 0)) c_slices_IndexFunc_api_Place_api_Place_p5)
set_option maxRecDepth 100000 in
abbrev c_slices_IndexFunc_api_Place_api_Place_p7 : VC :=
  (.seq (.ops 0 [⟨(some 9), none, (.bin .lss), [(.t 8), (.t 7)], none⟩]) c_slices_IndexFunc_api_Place_api_Place_p6)
abbrev w_slices_IndexFunc_api_Place_api_Place_p7 : Nat := 524080
set_option maxRecDepth 100000 in
abbrev c_slices_IndexFunc_api_Place_api_Place_p9 : VC :=
  (.block 0 (.loop c_slices_IndexFunc_api_Place_api_Place_p7))
set_option maxRecDepth 100000 in
abbrev c_slices_IndexFunc_api_Place_api_Place_p10 : VC :=
  (.seq (.ops 0 [⟨(some 4), none, .mv, [(.c (.lit (.int .i64 (-1))))], none⟩]) .ret)
set_option maxRecDepth 100000 in
abbrev c_slices_IndexFunc_api_Place_api_Place_p11 : VC :=
  (.seq (.seq (.ops 0 [⟨(some 6), none, .mv, [(.t 0)], none⟩, ⟨(some 7), none, .len, [(.t 6)], none⟩, ⟨(some 8), none, .mv, [(.c (.lit (.int .i64 0)))], none⟩]) c_slices_IndexFunc_api_Place_api_Place_p9) c_slices_IndexFunc_api_Place_api_Place_p10)
set_option maxRecDepth 100000 in
def c_slices_IndexFunc_api_Place_api_Place : VC :=
  (.seq (.ops 0 [⟨(some 4), none, .mv, [(.c (.lit (.int .i64 0)))], none⟩]) c_slices_IndexFunc_api_Place_api_Place_p11)
set_option maxRecDepth 100000 in
theorem k_slices_IndexFunc_api_Place_api_Place : Comp Try.prog nobx gtab 129 19 c_slices_IndexFunc_api_Place_api_Place [(.t 4)] := ⟨⟨Try.f129, _, Try.func129, rfl, rfl, by kernel_rfl, by kernel_rfl⟩⟩
set_option maxRecDepth 100000 in
abbrev c_theorboref06_CheckChords_p1 : VC :=
  (.seq (.ops 0 [⟨(some 2), none, .mv, [(.c (.lit (.int .i64 2)))], none⟩]) .ret)
set_option maxRecDepth 100000 in
abbrev c_theorboref06_CheckChords_p2 : VC :=
  (.seq (.ops 0 [⟨(some 2), none, .mv, [(.c (.lit (.int .i64 1)))], none⟩]) .ret)
set_option maxRecDepth 100000 in
abbrev c_theorboref06_CheckChords_p3 : VC :=
  (.seq (.ops 0 [⟨(some 2), none, .mv, [(.c (.lit (.int .i64 1)))], none⟩]) .ret)
set_option maxRecDepth 100000 in
abbrev c_theorboref06_CheckChords_p4 : VC :=
  (.ops 0 [⟨(some 32), none, .mv, [(.t 4)], none⟩, ⟨(some 33), none, (.bin .add), [(.t 32), (.c (.lit (.int .i64 1)))], none⟩, ⟨(some 4), none, .mv, [(.t 33)], none⟩])
set_option maxRecDepth 100000 in
abbrev c_theorboref06_CheckChords_p5 : VC :=
  (.seq (.block 3 (.seq (.ops 0 [⟨(some 34), none, .mv, [(.t 0)], none⟩, ⟨(some 35), none, .mv, [(.t 3)], none⟩, ⟨(some 36), none, (.ixA 3), [(.t 34), (.t 35)], none⟩, ⟨(some 37), none, (.ldA 3), [(.t 36)], (some [0, 1, 2])⟩, ⟨(some 38), none, .mv, [(.t 0)], none⟩, ⟨(some 39), none, .mv, [(.t 3)], none⟩, ⟨(some 40), none, (.ixA 3), [(.t 38), (.t 39)], none⟩, ⟨(some 41), none, (.fldA 1), [(.t 40)], none⟩, ⟨(some 42), none, .ld1, [(.t 41)], (some [4, 5, 6, 7])⟩, ⟨(some 43), none, .mv, [(.t 4)], none⟩, ⟨(some 44), none, (.ixA 1), [(.t 42), (.t 43)], none⟩, ⟨(some 45), none, .ld1, [(.t 44)], (some [4, 5, 6, 7, 8, 9, 10])⟩, ⟨(some 46), none, (.call 68), [(.t 37), (.t 45)], (some [0, 1, 2, 3, 4, 5, 6, 7, 8, 9, 10, 11])⟩, ⟨(some 47), none, .mv, [(.t 0)], none⟩, ⟨(some 48), none, .mv, [(.t 3)], none⟩, ⟨(some 49), none, (.bin .sub), [(.t 48), (.c (.lit (.int .i64 1)))], none⟩, ⟨(some 50), none, (.ixA 3), [(.t 47), (.t 49)], none⟩, ⟨(some 51), none, (.ldA 3), [(.t 50)], (some [13, 14, 15, 16])⟩, ⟨(some 52), none, .mv, [(.t 0)], none⟩, ⟨(some 53), none, .mv, [(.t 3)], none⟩, ⟨(some 54), none, (.ixA 3), [(.t 52), (.t 53)], none⟩, ⟨(some 55), none, (.fldA 1), [(.t 54)], none⟩, ⟨(some 56), none, .ld1, [(.t 55)], (some [18, 19, 20, 21])⟩, ⟨(some 57), none, .mv, [(.t 4)], none⟩, ⟨(some 58), none, (.ixA 1), [(.t 56), (.t 57)], none⟩, ⟨(some 59), none, .ld1, [(.t 58)], (some [18, 19, 20, 21, 22, 23, 24])⟩, ⟨(some 60), none, (.call 68), [(.t 51), (.t 59)], none⟩, ⟨(some 61), none, (.eqP [(0, 0), (1, 0)] true), [(.t 46), (.t 60)], none⟩]) (.cond (.t 61) c_theorboref06_CheckChords_p3 .skip))) c_theorboref06_CheckChords_p4)
set_option maxRecDepth 100000 in
abbrev c_theorboref06_CheckChords_p6 : VC :=
  (.seq (.seq (.ops 0 [⟨(some 20), none, .mv, [(.t 3)], none⟩, ⟨(some 21), none, (.bin .gtr), [(.t 20), (.c (.lit (.int .i64 0)))], none⟩, ⟨(some 22), none, .mv, [(.t 21)], none⟩, ⟨(some 23), (some (22, true)), .mv, [(.t 4)], none⟩, ⟨(some 24), (some (22, true)), .mv, [(.t 0)], none⟩, ⟨(some 25), (some (22, true)), .mv, [(.t 3)], none⟩, ⟨(some 26), (some (22, true)), (.ixA 3), [(.t 24), (.t 25)], none⟩, ⟨(some 27), (some (22, true)), (.fldA 1), [(.t 26)], none⟩, ⟨(some 28), (some (22, true)), .ld1, [(.t 27)], none⟩, ⟨(some 29), (some (22, true)), .len, [(.t 28)], none⟩, ⟨(some 30), (some (22, true)), (.bin .lss), [(.t 23), (.t 29)], none⟩, ⟨(some 31), none, .pick, [(.t 22), (.t 30), (.c (.lit (.bool false)))], none⟩]) (.cond (.t 31) .skip (.exit 2))) c_theorboref06_CheckChords_p5)
abbrev w_theorboref06_CheckChords_p6 : Nat := 4611686018426339348
set_option maxRecDepth 100000 in
abbrev c_theorboref06_CheckChords_p8 : VC :=
  (.seq (.ops 0 [⟨(some 4), none, .mv, [(.c (.lit (.int .i64 0)))], none⟩]) (.block 2 (.loop c_theorboref06_CheckChords_p6)))
set_option maxRecDepth 100000 in
abbrev c_theorboref06_CheckChords_p9 : VC :=
  (.ops 0 [⟨(some 12), none, .mv, [(.t 3)], none⟩, ⟨(some 13), none, (.bin .add), [(.t 12), (.c (.lit (.int .i64 1)))], none⟩, ⟨(some 3), none, .mv, [(.t 13)], none⟩])
set_option maxRecDepth 100000 in
abbrev c_theorboref06_CheckChords_p10 : VC :=
  (.seq (.block 1 (.seq (.seq (.ops 0 [⟨(some 14), none, .mv, [(.t 0)], none⟩, ⟨(some 15), none, .mv, [(.t 3)], none⟩, ⟨(some 16), none, (.ixA 3), [(.t 14), (.t 15)], none⟩, ⟨(some 17), none, (.ldA 3), [(.t 16)], none⟩, ⟨(some 18), none, (.call 67), [(.t 17)], none⟩, ⟨(some 19), none, (.un .not), [(.t 18)], none⟩]) (.cond (.t 19) c_theorboref06_CheckChords_p2 .skip)) c_theorboref06_CheckChords_p8)) c_theorboref06_CheckChords_p9)
set_option maxRecDepth 100000 in
abbrev c_theorboref06_CheckChords_p11 : VC :=
  (.seq (.seq (.ops 0 [⟨(some 8), none, .mv, [(.t 3)], none⟩, ⟨(some 9), none, .mv, [(.t 0)], none⟩, ⟨(some 10), none, .len, [(.t 9)], none⟩, ⟨(some 11), none, (.bin .lss), [(.t 8), (.t 10)], none⟩]) (.cond (.t 11) .skip (.exit 0))) c_theorboref06_CheckChords_p10)
abbrev w_theorboref06_CheckChords_p11 : Nat := 4611686018427387676
set_option maxRecDepth 100000 in
abbrev c_theorboref06_CheckChords_p13 : VC :=
  (.seq (.ops 0 [⟨(some 2), none, .mv, [(.c (.lit (.int .i64 0)))], none⟩]) .ret)
set_option maxRecDepth 100000 in
abbrev c_theorboref06_CheckChords_p14 : VC :=
  (.seq (.seq (.ops 0 [⟨(some 3), none, .mv, [(.c (.lit (.int .i64 0)))], none⟩]) (.block 0 (.loop c_theorboref06_CheckChords_p11))) c_theorboref06_CheckChords_p13)
set_option maxRecDepth 100000 in
abbrev c_theorboref06_CheckChords_p15 : VC :=
  (.seq (.seq (.ops 0 [⟨(some 5), none, .mv, [(.t 0)], none⟩, ⟨(some 6), none, .len, [(.t 5)], none⟩, ⟨(some 7), none, (.bin .gtr), [(.t 6), (.c (.lit (.int .i64 400)))], none⟩]) (.cond (.t 7) c_theorboref06_CheckChords_p1 .skip)) c_theorboref06_CheckChords_p14)
set_option maxRecDepth 100000 in
def c_theorboref06_CheckChords : VC :=
  (.seq (.ops 0 [⟨(some 2), none, .mv, [(.c (.lit (.int .i64 0)))], none⟩]) c_theorboref06_CheckChords_p15)
set_option maxRecDepth 100000 in
theorem k_theorboref06_CheckChords : Comp Try.prog nobx gtab 27 62 c_theorboref06_CheckChords [(.t 2)] := ⟨⟨Try.f27, _, Try.func27, rfl, rfl, by kernel_rfl, by kernel_rfl⟩⟩
set_option maxRecDepth 100000 in
abbrev c_theorboref06_Good_p1 : VC :=
  (.seq (.ops 0 [⟨(some 2), none, .mv, [(.c (.lit (.bool false)))], none⟩]) .ret)
set_option maxRecDepth 100000 in
abbrev c_theorboref06_Good_p2 : VC :=
  (.ops 10 [⟨(some 30), none, .mv, [(.t 3)], none⟩, ⟨(some 31), none, (.fldA 0), [(.t 1)], none⟩, ⟨(some 32), none, .ld1, [(.t 31)], none⟩, ⟨(some 33), none, .mv, [(.t 4)], none⟩, ⟨(some 34), none, (.ixA 2), [(.t 32), (.t 33)], none⟩, ⟨(some 35), none, (.fldA 0), [(.t 34)], none⟩, ⟨(some 36), none, .ld1, [(.t 35)], none⟩, ⟨(some 37), none, (.mksl 1 1 [(.lit (.int .i64 0))] [(0, 1)]), [(.t 36)], none⟩, ⟨(some 38), none, (.app 3 1 8), [(.t 30), (.t 37)], none⟩, ⟨(some 3), none, .mv, [(.t 38)], none⟩])
set_option maxRecDepth 100000 in
abbrev c_theorboref06_Good_p3 : VC :=
  (.ops 0 [⟨(some 12), none, .mv, [(.t 4)], none⟩, ⟨(some 13), none, (.bin .add), [(.t 12), (.c (.lit (.int .i64 1)))], none⟩, ⟨(some 4), none, .mv, [(.t 13)], none⟩])
set_option maxRecDepth 100000 in
abbrev c_theorboref06_Good_p4 : VC :=
  (.seq (.block 1 (.seq (.seq (.ops 0 [⟨(some 14), none, (.fldA 0), [(.t 1)], none⟩, ⟨(some 15), none, .ld1, [(.t 14)], none⟩, ⟨(some 16), none, .mv, [(.t 4)], none⟩, ⟨(some 17), none, (.ixA 2), [(.t 15), (.t 16)], none⟩, ⟨(some 18), none, (.fldA 1), [(.t 17)], none⟩, ⟨(some 19), none, .ld1, [(.t 18)], none⟩, ⟨(some 20), none, (.bin .lss), [(.t 19), (.c (.lit (.int .i64 1)))], none⟩, ⟨(some 21), none, .mv, [(.t 20)], none⟩, ⟨(some 22), (some (21, false)), (.fldA 0), [(.t 1)], none⟩, ⟨(some 23), (some (21, false)), .ld1, [(.t 22)], none⟩, ⟨(some 24), (some (21, false)), .mv, [(.t 4)], none⟩, ⟨(some 25), (some (21, false)), (.ixA 2), [(.t 23), (.t 24)], none⟩, ⟨(some 26), (some (21, false)), (.fldA 1), [(.t 25)], none⟩, ⟨(some 27), (some (21, false)), .ld1, [(.t 26)], none⟩, ⟨(some 28), (some (21, false)), (.bin .gtr), [(.t 27), (.c (.lit (.int .i64 18)))], none⟩, ⟨(some 29), none, .pick, [(.t 21), (.c (.lit (.bool true))), (.t 28)], none⟩]) (.cond (.t 29) c_theorboref06_Good_p1 .skip)) c_theorboref06_Good_p2)) c_theorboref06_Good_p3)
set_option maxRecDepth 100000 in
abbrev c_theorboref06_Good_p5 : VC :=
  (.seq (.seq (.ops 0 [⟨(some 7), none, .mv, [(.t 4)], none⟩, ⟨(some 8), none, (.fldA 0), [(.t 1)], none⟩, ⟨(some 9), none, .ld1, [(.t 8)], none⟩, ⟨(some 10), none, .len, [(.t 9)], none⟩, ⟨(some 11), none, (.bin .lss), [(.t 7), (.t 10)], none⟩]) (.cond (.t 11) .skip (.exit 0))) c_theorboref06_Good_p4)
abbrev w_theorboref06_Good_p5 : Nat := 549755813788
set_option maxRecDepth 100000 in
abbrev c_theorboref06_Good_p7 : VC :=
  (.seq (.ops 0 [⟨(some 2), none, .mv, [(.c (.lit (.bool false)))], none⟩]) .ret)
set_option maxRecDepth 100000 in
abbrev c_theorboref06_Good_p8 : VC :=
  (.seq (.ops 0 [⟨(some 2), none, .mv, [(.c (.lit (.bool false)))], none⟩]) .ret)
set_option maxRecDepth 100000 in
abbrev c_theorboref06_Good_p9 : VC :=
  (.ops 0 [⟨(some 59), none, .mv, [(.t 5)], none⟩, ⟨(some 60), none, (.bin .add), [(.t 59), (.c (.lit (.int .i64 1)))], none⟩, ⟨(some 5), none, .mv, [(.t 60)], none⟩])
set_option maxRecDepth 100000 in
abbrev c_theorboref06_Good_p10 : VC :=
  (.seq (.block 3 (.seq (.ops 0 [⟨(some 61), none, (.ldA 3), [(.t 1)], (some [])⟩, ⟨(some 62), none, (.fldA 1), [(.t 1)], none⟩, ⟨(some 63), none, .ld1, [(.t 62)], (some [1])⟩, ⟨(some 64), none, .mv, [(.t 5)], none⟩, ⟨(some 65), none, (.ixA 1), [(.t 63), (.t 64)], none⟩, ⟨(some 66), none, .ld1, [(.t 65)], (some [1, 2, 3, 4])⟩, ⟨(some 67), none, (.call 68), [(.t 61), (.t 66)], none⟩, ⟨(some 68), none, (.fld 0 1 false), [(.t 67)], none⟩, ⟨(some 69), none, (.bin .eql), [(.t 68), (.c (.lit (.int .i64 0)))], none⟩]) (.cond (.t 69) c_theorboref06_Good_p8 .skip))) c_theorboref06_Good_p9)
set_option maxRecDepth 100000 in
abbrev c_theorboref06_Good_p11 : VC :=
  (.seq (.seq (.ops 0 [⟨(some 54), none, .mv, [(.t 5)], none⟩, ⟨(some 55), none, (.fldA 1), [(.t 1)], none⟩, ⟨(some 56), none, .ld1, [(.t 55)], none⟩, ⟨(some 57), none, .len, [(.t 56)], none⟩, ⟨(some 58), none, (.bin .lss), [(.t 54), (.t 57)], none⟩]) (.cond (.t 58) .skip (.exit 2))) c_theorboref06_Good_p10)
abbrev w_theorboref06_Good_p11 : Nat := 1180573606318901821476
set_option maxRecDepth 100000 in
abbrev c_theorboref06_Good_p13 : VC :=
  (.seq (.ops 0 [⟨(some 2), none, .mv, [(.c (.lit (.bool false)))], none⟩]) .ret)
set_option maxRecDepth 100000 in
abbrev c_theorboref06_Good_p14 : VC :=
  (.ops 0 [⟨(some 75), none, .mv, [(.t 6)], none⟩, ⟨(some 76), none, (.bin .add), [(.t 75), (.c (.lit (.int .i64 1)))], none⟩, ⟨(some 6), none, .mv, [(.t 76)], none⟩])
set_option maxRecDepth 100000 in
abbrev c_theorboref06_Good_p15 : VC :=
  (.seq (.block 5 (.seq (.ops 0 [⟨(some 77), none, (.ldA 3), [(.t 1)], (some [])⟩, ⟨(some 78), none, (.fldA 2), [(.t 1)], none⟩, ⟨(some 79), none, .ld1, [(.t 78)], (some [1])⟩, ⟨(some 80), none, .mv, [(.t 6)], none⟩, ⟨(some 81), none, (.ixA 1), [(.t 79), (.t 80)], none⟩, ⟨(some 82), none, .ld1, [(.t 81)], (some [1, 2, 3, 4])⟩, ⟨(some 83), none, (.call 68), [(.t 77), (.t 82)], none⟩, ⟨(some 84), none, (.fld 0 1 false), [(.t 83)], none⟩, ⟨(some 85), none, (.bin .neq), [(.t 84), (.c (.lit (.int .i64 0)))], none⟩]) (.cond (.t 85) c_theorboref06_Good_p13 .skip))) c_theorboref06_Good_p14)
set_option maxRecDepth 100000 in
abbrev c_theorboref06_Good_p16 : VC :=
  (.seq (.seq (.ops 0 [⟨(some 70), none, .mv, [(.t 6)], none⟩, ⟨(some 71), none, (.fldA 2), [(.t 1)], none⟩, ⟨(some 72), none, .ld1, [(.t 71)], none⟩, ⟨(some 73), none, .len, [(.t 72)], none⟩, ⟨(some 74), none, (.bin .lss), [(.t 70), (.t 73)], none⟩]) (.cond (.t 74) .skip (.exit 4))) c_theorboref06_Good_p15)
abbrev w_theorboref06_Good_p16 : Nat := 77370071863715549769891908
set_option maxRecDepth 100000 in
abbrev c_theorboref06_Good_p18 : VC :=
  (.seq (.ops 0 [⟨(some 2), none, .mv, [(.c (.lit (.bool true)))], none⟩]) .ret)
set_option maxRecDepth 100000 in
abbrev c_theorboref06_Good_p19 : VC :=
  (.seq (.seq (.ops 0 [⟨(some 6), none, .mv, [(.c (.lit (.int .i64 0)))], none⟩]) (.block 4 (.loop c_theorboref06_Good_p16))) c_theorboref06_Good_p18)
set_option maxRecDepth 100000 in
abbrev c_theorboref06_Good_p20 : VC :=
  (.seq (.seq (.ops 0 [⟨(some 5), none, .mv, [(.c (.lit (.int .i64 0)))], none⟩]) (.block 2 (.loop c_theorboref06_Good_p11))) c_theorboref06_Good_p19)
set_option maxRecDepth 100000 in
abbrev c_theorboref06_Good_p21 : VC :=
  (.seq (.seq (.ops 0 [⟨(some 39), none, .mv, [(.t 3)], none⟩, ⟨(some 40), none, (.call 101), [(.t 39)], none⟩, ⟨(some 41), none, (.un .not), [(.t 40)], none⟩, ⟨(some 42), none, .mv, [(.t 41)], none⟩, ⟨(some 43), (some (42, false)), (.fldA 1), [(.t 1)], none⟩, ⟨(some 44), (some (42, false)), .ld1, [(.t 43)], none⟩, ⟨(some 45), (some (42, false)), (.call 101), [(.t 44)], none⟩, ⟨(some 46), (some (42, false)), (.un .not), [(.t 45)], none⟩, ⟨(some 47), none, .pick, [(.t 42), (.c (.lit (.bool true))), (.t 46)], none⟩, ⟨(some 48), none, .mv, [(.t 47)], none⟩, ⟨(some 49), (some (48, false)), (.fldA 2), [(.t 1)], none⟩, ⟨(some 50), (some (48, false)), .ld1, [(.t 49)], none⟩, ⟨(some 51), (some (48, false)), (.call 101), [(.t 50)], none⟩, ⟨(some 52), (some (48, false)), (.un .not), [(.t 51)], none⟩, ⟨(some 53), none, .pick, [(.t 48), (.c (.lit (.bool true))), (.t 52)], none⟩]) (.cond (.t 53) c_theorboref06_Good_p7 .skip)) c_theorboref06_Good_p20)
set_option maxRecDepth 100000 in
abbrev c_theorboref06_Good_p22 : VC :=
  (.seq (.seq (.ops 0 [⟨(some 4), none, .mv, [(.c (.lit (.int .i64 0)))], none⟩]) (.block 0 (.loop c_theorboref06_Good_p5))) c_theorboref06_Good_p21)
set_option maxRecDepth 100000 in
abbrev c_theorboref06_Good_p23 : VC :=
  (.seq (.ops 0 [⟨(some 3), none, .mv, [(.c (.sl 0 [] .exact))], none⟩]) c_theorboref06_Good_p22)
set_option maxRecDepth 100000 in
def c_theorboref06_Good : VC :=
  (.seq (.ops 2 [⟨(some 1), none, (.box 47), [(.t 0)], none⟩, ⟨(some 2), none, .mv, [(.c (.lit (.bool false)))], none⟩]) c_theorboref06_Good_p23)
set_option maxRecDepth 100000 in
theorem k_theorboref06_Good : Comp Try.prog nobx gtab 67 86 c_theorboref06_Good [(.t 2)] := ⟨⟨Try.f67, _, Try.func67, rfl, rfl, by kernel_rfl, by kernel_rfl⟩⟩
set_option maxRecDepth 100000 in
abbrev c_theorbolaw06_HandChecks_p1 : VC :=
  (.seq (.ops 0 [⟨(some 4), none, .mv, [(.c (.lit (.bool false)))], none⟩]) .ret)
set_option maxRecDepth 100000 in
abbrev c_theorbolaw06_HandChecks_p2 : VC :=
  (.seq (.ops 0 [⟨(some 4), none, .mv, [(.c (.lit (.bool false)))], none⟩]) .ret)
set_option maxRecDepth 100000 in
abbrev c_theorbolaw06_HandChecks_p3 : VC :=
  (.ops 0 [⟨(some 38), none, .mv, [(.t 7)], none⟩, ⟨(some 39), none, (.bin .add), [(.t 38), (.c (.lit (.int .i64 1)))], none⟩, ⟨(some 7), none, .mv, [(.t 39)], none⟩])
set_option maxRecDepth 100000 in
abbrev c_theorbolaw06_HandChecks_p4 : VC :=
  (.seq (.block 1 (.seq (.ops 0 [⟨(some 40), none, (.fldA 2), [(.t 5)], none⟩, ⟨(some 41), none, .ld1, [(.t 40)], (some [0])⟩, ⟨(some 42), none, .mv, [(.t 7)], none⟩, ⟨(some 43), none, (.ixA 1), [(.t 41), (.t 42)], none⟩, ⟨(some 44), none, .ld1, [(.t 43)], (some [0, 1, 2, 3])⟩, ⟨(some 45), none, (.fldA 2), [(.t 6)], none⟩, ⟨(some 46), none, .ld1, [(.t 45)], (some [5])⟩, ⟨(some 47), none, .mv, [(.t 7)], none⟩, ⟨(some 48), none, (.ixA 1), [(.t 46), (.t 47)], none⟩, ⟨(some 49), none, .ld1, [(.t 48)], (some [5, 6, 7, 8])⟩, ⟨(some 50), none, (.eqB true), [(.t 44), (.t 49)], none⟩]) (.cond (.t 50) c_theorbolaw06_HandChecks_p2 .skip))) c_theorbolaw06_HandChecks_p3)
set_option maxRecDepth 100000 in
abbrev c_theorbolaw06_HandChecks_p5 : VC :=
  (.seq (.seq (.ops 0 [⟨(some 33), none, .mv, [(.t 7)], none⟩, ⟨(some 34), none, (.fldA 2), [(.t 6)], none⟩, ⟨(some 35), none, .ld1, [(.t 34)], none⟩, ⟨(some 36), none, .len, [(.t 35)], none⟩, ⟨(some 37), none, (.bin .lss), [(.t 33), (.t 36)], none⟩]) (.cond (.t 37) .skip (.exit 0))) c_theorbolaw06_HandChecks_p4)
abbrev w_theorbolaw06_HandChecks_p5 : Nat := 2251791223750800
set_option maxRecDepth 100000 in
abbrev c_theorbolaw06_HandChecks_p7 : VC :=
  (.seq (.ops 0 [⟨(some 4), none, .mv, [(.c (.lit (.bool false)))], none⟩]) .ret)
set_option maxRecDepth 100000 in
abbrev c_theorbolaw06_HandChecks_p8 : VC :=
  (.seq (.ops 0 [⟨(some 98), none, (.ldA 10), [(.t 2)], (some [])⟩, ⟨(some 99), none, (.call 24), [(.t 98)], (some [0])⟩, ⟨(some 100), none, (.ldA 10), [(.t 2)], (some [])⟩, ⟨(some 101), none, (.call 25), [(.t 100)], none⟩, ⟨(some 102), none, (.bin .eql), [(.t 99), (.t 101)], none⟩, ⟨(some 103), none, .mv, [(.t 102)], none⟩, ⟨(some 104), (some (103, true)), .mv, [(.t 1)], none⟩, ⟨(some 105), (some (103, true)), (.call 26), [(.t 104)], none⟩, ⟨(some 106), (some (103, true)), .mv, [(.t 1)], none⟩, ⟨(some 107), (some (103, true)), (.call 27), [(.t 106)], none⟩, ⟨(some 108), (some (103, true)), (.bin .eql), [(.t 105), (.t 107)], none⟩, ⟨(some 109), none, .pick, [(.t 103), (.t 108), (.c (.lit (.bool false)))], none⟩, ⟨(some 110), none, .mv, [(.t 109)], none⟩, ⟨(some 111), (some (110, true)), (.call 28), [], none⟩, ⟨(some 112), none, .pick, [(.t 110), (.t 111), (.c (.lit (.bool false)))], none⟩, ⟨(some 4), none, .mv, [(.t 112)], none⟩]) .ret)
set_option maxRecDepth 100000 in
abbrev c_theorbolaw06_HandChecks_p9 : VC :=
  (.seq (.seq (.ops 0 [⟨(some 51), none, (.fldA 3), [(.t 5)], none⟩, ⟨(some 52), none, .ld1, [(.t 51)], none⟩, ⟨(some 53), none, (.fldA 3), [(.t 6)], none⟩, ⟨(some 54), none, .ld1, [(.t 53)], none⟩, ⟨(some 55), none, (.bin .neq), [(.t 52), (.t 54)], none⟩, ⟨(some 56), none, .mv, [(.t 55)], none⟩, ⟨(some 57), (some (56, false)), (.fldA 4), [(.t 5)], none⟩, ⟨(some 58), (some (56, false)), .ld1, [(.t 57)], none⟩, ⟨(some 59), (some (56, false)), (.fldA 4), [(.t 6)], none⟩, ⟨(some 60), (some (56, false)), .ld1, [(.t 59)], none⟩, ⟨(some 61), (some (56, false)), (.bin .neq), [(.t 58), (.t 60)], none⟩, ⟨(some 62), none, .pick, [(.t 56), (.c (.lit (.bool true))), (.t 61)], none⟩, ⟨(some 63), none, .mv, [(.t 62)], none⟩, ⟨(some 64), (some (63, false)), (.fldA 5), [(.t 5)], none⟩, ⟨(some 65), (some (63, false)), .ld1, [(.t 64)], none⟩, ⟨(some 66), (some (63, false)), (.fldA 5), [(.t 6)], none⟩, ⟨(some 67), (some (63, false)), .ld1, [(.t 66)], none⟩, ⟨(some 68), (some (63, false)), (.bin .neq), [(.t 65), (.t 67)], none⟩, ⟨(some 69), none, .pick, [(.t 63), (.c (.lit (.bool true))), (.t 68)], none⟩, ⟨(some 70), none, .mv, [(.t 69)], none⟩, ⟨(some 71), (some (70, false)), (.fldA 6), [(.t 5)], none⟩, ⟨(some 72), (some (70, false)), .ld1, [(.t 71)], none⟩, ⟨(some 73), (some (70, false)), (.fldA 6), [(.t 6)], none⟩, ⟨(some 74), (some (70, false)), .ld1, [(.t 73)], none⟩, ⟨(some 75), (some (70, false)), (.bin .neq), [(.t 72), (.t 74)], none⟩, ⟨(some 76), none, .pick, [(.t 70), (.c (.lit (.bool true))), (.t 75)], none⟩, ⟨(some 77), none, .mv, [(.t 76)], none⟩, ⟨(some 78), (some (77, false)), (.fldA 7), [(.t 5)], none⟩, ⟨(some 79), (some (77, false)), .ld1, [(.t 78)], none⟩, ⟨(some 80), (some (77, false)), (.fldA 7), [(.t 6)], none⟩, ⟨(some 81), (some (77, false)), .ld1, [(.t 80)], none⟩, ⟨(some 82), (some (77, false)), (.bin .neq), [(.t 79), (.t 81)], none⟩, ⟨(some 83), none, .pick, [(.t 77), (.c (.lit (.bool true))), (.t 82)], none⟩, ⟨(some 84), none, .mv, [(.t 83)], none⟩, ⟨(some 85), (some (84, false)), (.fldA 8), [(.t 5)], none⟩, ⟨(some 86), (some (84, false)), .ld1, [(.t 85)], none⟩, ⟨(some 87), (some (84, false)), (.fldA 8), [(.t 6)], none⟩, ⟨(some 88), (some (84, false)), .ld1, [(.t 87)], none⟩, ⟨(some 89), (some (84, false)), (.bin .neq), [(.t 86), (.t 88)], none⟩, ⟨(some 90), none, .pick, [(.t 84), (.c (.lit (.bool true))), (.t 89)], none⟩, ⟨(some 91), none, .mv, [(.t 90)], none⟩, ⟨(some 92), (some (91, false)), (.fldA 9), [(.t 5)], none⟩, ⟨(some 93), (some (91, false)), .ld1, [(.t 92)], none⟩, ⟨(some 94), (some (91, false)), (.fldA 9), [(.t 6)], none⟩, ⟨(some 95), (some (91, false)), .ld1, [(.t 94)], none⟩, ⟨(some 96), (some (91, false)), (.bin .neq), [(.t 93), (.t 95)], none⟩, ⟨(some 97), none, .pick, [(.t 91), (.c (.lit (.bool true))), (.t 96)], none⟩]) (.cond (.t 97) c_theorbolaw06_HandChecks_p7 .skip)) c_theorbolaw06_HandChecks_p8)
set_option maxRecDepth 100000 in
abbrev c_theorbolaw06_HandChecks_p10 : VC :=
  (.seq (.seq (.ops 0 [⟨(some 7), none, .mv, [(.c (.lit (.int .i64 0)))], none⟩]) (.block 0 (.loop c_theorbolaw06_HandChecks_p5))) c_theorbolaw06_HandChecks_p9)
set_option maxRecDepth 100000 in
abbrev c_theorbolaw06_HandChecks_p11 : VC :=
  (.seq (.seq (.ops 0 [⟨(some 10), none, (.fldA 0), [(.t 5)], none⟩, ⟨(some 11), none, .ld1, [(.t 10)], none⟩, ⟨(some 12), none, (.fldA 0), [(.t 6)], none⟩, ⟨(some 13), none, .ld1, [(.t 12)], none⟩, ⟨(some 14), none, (.call 23), [(.t 11), (.t 13)], none⟩, ⟨(some 15), none, (.un .not), [(.t 14)], none⟩, ⟨(some 16), none, .mv, [(.t 15)], none⟩, ⟨(some 17), (some (16, false)), (.fldA 1), [(.t 5)], none⟩, ⟨(some 18), (some (16, false)), .ld1, [(.t 17)], none⟩, ⟨(some 19), (some (16, false)), (.fldA 1), [(.t 6)], none⟩, ⟨(some 20), (some (16, false)), .ld1, [(.t 19)], none⟩, ⟨(some 21), (some (16, false)), (.call 23), [(.t 18), (.t 20)], none⟩, ⟨(some 22), (some (16, false)), (.un .not), [(.t 21)], none⟩, ⟨(some 23), none, .pick, [(.t 16), (.c (.lit (.bool true))), (.t 22)], none⟩, ⟨(some 24), none, .mv, [(.t 23)], none⟩, ⟨(some 25), (some (24, false)), (.fldA 2), [(.t 5)], none⟩, ⟨(some 26), (some (24, false)), .ld1, [(.t 25)], none⟩, ⟨(some 27), (some (24, false)), .len, [(.t 26)], none⟩, ⟨(some 28), (some (24, false)), (.fldA 2), [(.t 6)], none⟩, ⟨(some 29), (some (24, false)), .ld1, [(.t 28)], none⟩, ⟨(some 30), (some (24, false)), .len, [(.t 29)], none⟩, ⟨(some 31), (some (24, false)), (.bin .neq), [(.t 27), (.t 30)], none⟩, ⟨(some 32), none, .pick, [(.t 24), (.c (.lit (.bool true))), (.t 31)], none⟩]) (.cond (.t 32) c_theorbolaw06_HandChecks_p1 .skip)) c_theorbolaw06_HandChecks_p10)
set_option maxRecDepth 100000 in
abbrev c_theorbolaw06_HandChecks_p12 : VC :=
  (.seq (.ops 6 [⟨(some 8), none, (.call 21), [], none⟩, ⟨(some 9), none, (.call 22), [], none⟩, ⟨(some 5), none, (.alloc 25 [(.sl 0 [] .exact), (.sl 0 [] .exact), (.sl 0 [] .exact), (.lit (.int .i64 0)), (.lit (.int .i64 0)), (.lit (.int .i64 0)), (.lit (.int .i64 0)), (.lit (.int .i64 0)), (.lit (.int .i64 0)), (.lit (.int .i64 0))]), [], none⟩, ⟨(some 6), none, (.alloc 25 [(.sl 0 [] .exact), (.sl 0 [] .exact), (.sl 0 [] .exact), (.lit (.int .i64 0)), (.lit (.int .i64 0)), (.lit (.int .i64 0)), (.lit (.int .i64 0)), (.lit (.int .i64 0)), (.lit (.int .i64 0)), (.lit (.int .i64 0))]), [], none⟩, ⟨none, none, (.st 10), [(.t 5), (.t 8)], none⟩, ⟨none, none, (.st 10), [(.t 6), (.t 9)], none⟩]) c_theorbolaw06_HandChecks_p11)
set_option maxRecDepth 100000 in
def c_theorbolaw06_HandChecks : VC :=
  (.seq (.ops 2 [⟨(some 2), none, (.box 25), [(.t 0)], none⟩, ⟨(some 4), none, .mv, [(.c (.lit (.bool false)))], none⟩]) c_theorbolaw06_HandChecks_p12)
set_option maxRecDepth 100000 in
theorem k_theorbolaw06_HandChecks : Comp Try.prog nobx gtab 3 113 c_theorbolaw06_HandChecks [(.t 4)] := ⟨⟨Try.f3, _, Try.func3, rfl, rfl, by kernel_rfl, by kernel_rfl⟩⟩
end Go.Proofs.Ytojjdkoglhecbaa
