/- Functions of the program, as code on values by numbers: printed by a program from the program that was given, and held against it here. -/
import Derived.Test.YtbdhjpdjbogggaaDoorG0
namespace Go.Proofs.YtbdhjpdjbogggaaDoor
open Go.RowKit

set_option maxRecDepth 100000 in
abbrev c_theorbolaw01_InstrumentCapoSounds_1 : VC :=
  (.seq (.ops 0 [⟨(some 47), none, (.call 23), [], none⟩, ⟨(some 6), none, .mv, [(.t 47)], none⟩]) .ret)
set_option maxRecDepth 100000 in
abbrev c_theorbolaw01_InstrumentCapoSounds_2 : VC :=
  (.seq (.ops 0 [⟨(some 57), none, (.call 23), [], none⟩, ⟨(some 6), none, .mv, [(.t 57)], none⟩]) .ret)
set_option maxRecDepth 100000 in
abbrev c_theorbolaw01_InstrumentCapoSounds_3 : VC :=
  (.ops 0 [⟨(some 9), none, .mv, [(.c (.lit (.int .i64 0)))], none⟩])
set_option maxRecDepth 100000 in
abbrev c_theorbolaw01_InstrumentCapoSounds_4 : VC :=
  (.seq (.ops 0 [⟨(some 87), none, .mv, [(.t 10)], none⟩, ⟨(some 88), none, .mv, [(.t 12)], none⟩, ⟨(some 89), none, (.bin .eql), [(.t 87), (.t 88)], none⟩, ⟨(some 90), none, .mv, [(.t 89)], none⟩, ⟨(some 91), (some (90, true)), .mv, [(.t 11)], none⟩, ⟨(some 92), (some (90, true)), .mv, [(.t 13)], none⟩, ⟨(some 93), (some (90, true)), (.bin .eql), [(.t 91), (.t 92)], none⟩, ⟨(some 94), none, .pick, [(.t 90), (.t 93), (.c (.lit (.bool false)))], none⟩, ⟨(some 95), none, .mv, [(.t 94)], none⟩, ⟨(some 96), (some (95, true)), (.call 23), [], none⟩, ⟨(some 97), none, .pick, [(.t 95), (.t 96), (.c (.lit (.bool false)))], none⟩, ⟨(some 6), none, .mv, [(.t 97)], none⟩]) .ret)
set_option maxRecDepth 100000 in
abbrev c_theorbolaw01_InstrumentCapoSounds_5 : VC :=
  (.seq (.ops 0 [⟨(some 75), none, (.ldA 2), [(.t 3)], (some [])⟩, ⟨(some 76), none, (.call 28), [(.t 75)], (some [0])⟩, ⟨(some 77), none, (.fldA 0), [(.t 5)], none⟩, ⟨(some 78), none, .ld1, [(.t 77)], (some [2])⟩, ⟨(some 79), none, (.fldA 1), [(.t 5)], none⟩, ⟨(some 80), none, .ld1, [(.t 79)], (some [4])⟩, ⟨(some 81), none, .mv, [(.t 9)], none⟩, ⟨(some 82), none, (.bin .add), [(.t 80), (.t 81)], none⟩, ⟨(some 83), none, (.build [(.lit (.int .i64 0)), (.lit (.int .i64 0))] [(0, 1), (1, 1)]), [(.t 78), (.t 82)], none⟩, ⟨(some 84), none, (.call 27), [(.t 76), (.t 83)], none⟩, ⟨(some 74), none, .mv, [(.t 84)], none⟩, ⟨(some 85), none, (.ext 0), [(.t 74)], none⟩, ⟨(some 86), none, (.ext 1), [(.t 74)], none⟩, ⟨(some 12), none, .mv, [(.t 85)], none⟩, ⟨(some 13), none, .mv, [(.t 86)], none⟩]) c_theorbolaw01_InstrumentCapoSounds_4)
set_option maxRecDepth 100000 in
abbrev c_theorbolaw01_InstrumentCapoSounds_6 : VC :=
  (.seq (.ops 0 [⟨(some 69), none, (.ldA 2), [(.t 7)], none⟩, ⟨(some 70), none, (.ldA 2), [(.t 5)], none⟩, ⟨(some 71), none, (.call 27), [(.t 69), (.t 70)], none⟩, ⟨(some 68), none, .mv, [(.t 71)], none⟩, ⟨(some 72), none, (.ext 0), [(.t 68)], none⟩, ⟨(some 73), none, (.ext 1), [(.t 68)], none⟩, ⟨(some 10), none, .mv, [(.t 72)], none⟩, ⟨(some 11), none, .mv, [(.t 73)], none⟩]) c_theorbolaw01_InstrumentCapoSounds_5)
set_option maxRecDepth 100000 in
abbrev c_theorbolaw01_InstrumentCapoSounds_7 : VC :=
  (.seq (.seq (.ops 0 [⟨(some 59), none, (.fldA 0), [(.t 3)], none⟩, ⟨(some 60), none, .ld1, [(.t 59)], none⟩, ⟨(some 61), none, (.fldA 0), [(.t 5)], none⟩, ⟨(some 62), none, .ld1, [(.t 61)], none⟩, ⟨(some 63), none, (.bin .sub), [(.t 62), (.c (.lit (.int .i64 1)))], none⟩, ⟨(some 64), none, (.ixA 3), [(.t 60), (.t 63)], none⟩, ⟨(some 65), none, (.fldA 1), [(.t 64)], none⟩, ⟨(some 66), none, .ld1, [(.t 65)], none⟩, ⟨(some 67), none, (.bin .eql), [(.t 66), (.c (.lit (.int .i64 0)))], none⟩]) (.cond (.t 67) c_theorbolaw01_InstrumentCapoSounds_3 .skip)) c_theorbolaw01_InstrumentCapoSounds_6)
set_option maxRecDepth 100000 in
abbrev c_theorbolaw01_InstrumentCapoSounds_8 : VC :=
  (.seq (.ops 0 [⟨(some 58), none, .mv, [(.t 1)], none⟩, ⟨(some 9), none, .mv, [(.t 58)], none⟩]) c_theorbolaw01_InstrumentCapoSounds_7)
set_option maxRecDepth 100000 in
abbrev c_theorbolaw01_InstrumentCapoSounds_9 : VC :=
  (.seq (.seq (.ops 0 [⟨(some 55), none, .mv, [(.t 8)], none⟩, ⟨(some 56), none, (.bin .neq), [(.t 55), (.c (.lit (.int .i64 0)))], none⟩]) (.cond (.t 56) c_theorbolaw01_InstrumentCapoSounds_2 .skip)) c_theorbolaw01_InstrumentCapoSounds_8)
set_option maxRecDepth 100000 in
abbrev c_theorbolaw01_InstrumentCapoSounds_10 : VC :=
  (.seq (.ops 10 [⟨(some 49), none, (.ldA 2), [(.t 3)], none⟩, ⟨(some 50), none, (.call 28), [(.t 49)], none⟩, ⟨(some 51), none, .mv, [(.t 1)], none⟩, ⟨(some 52), none, (.call 43), [(.t 50), (.t 51)], none⟩, ⟨(some 48), none, .mv, [(.t 52)], none⟩, ⟨(some 53), none, (.ext 0), [(.t 48)], none⟩, ⟨(some 54), none, (.ext 1), [(.t 48)], none⟩, ⟨(some 7), none, (.alloc 39 [(.sl 0 [] .exact), (.sl 0 [] .exact)]), [], none⟩, ⟨none, none, (.st 2), [(.t 7), (.t 53)], none⟩, ⟨(some 8), none, .mv, [(.t 54)], none⟩]) c_theorbolaw01_InstrumentCapoSounds_9)
set_option maxRecDepth 100000 in
abbrev c_theorbolaw01_InstrumentCapoSounds_11 : VC :=
  (.seq (.seq (.ops 0 [⟨(some 14), none, (.ldA 2), [(.t 3)], none⟩, ⟨(some 15), none, (.call 26), [(.t 14)], none⟩, ⟨(some 16), none, .mv, [(.t 15)], none⟩, ⟨(some 17), (some (16, false)), .mv, [(.t 1)], none⟩, ⟨(some 18), (some (16, false)), (.bin .lss), [(.t 17), (.c (.lit (.int .i64 0)))], none⟩, ⟨(some 19), none, .pick, [(.t 16), (.c (.lit (.bool true))), (.t 18)], none⟩, ⟨(some 20), none, .mv, [(.t 19)], none⟩, ⟨(some 21), (some (20, false)), .mv, [(.t 1)], none⟩, ⟨(some 22), (some (20, false)), (.bin .gtr), [(.t 21), (.c (.lit (.int .i64 18)))], none⟩, ⟨(some 23), none, .pick, [(.t 20), (.c (.lit (.bool true))), (.t 22)], none⟩, ⟨(some 24), none, .mv, [(.t 23)], none⟩, ⟨(some 25), (some (24, false)), (.fldA 0), [(.t 5)], none⟩, ⟨(some 26), (some (24, false)), .ld1, [(.t 25)], none⟩, ⟨(some 27), (some (24, false)), (.bin .lss), [(.t 26), (.c (.lit (.int .i64 1)))], none⟩, ⟨(some 28), none, .pick, [(.t 24), (.c (.lit (.bool true))), (.t 27)], none⟩, ⟨(some 29), none, .mv, [(.t 28)], none⟩, ⟨(some 30), (some (29, false)), (.fldA 0), [(.t 5)], none⟩, ⟨(some 31), (some (29, false)), .ld1, [(.t 30)], none⟩, ⟨(some 32), (some (29, false)), (.fldA 0), [(.t 3)], none⟩, ⟨(some 33), (some (29, false)), .ld1, [(.t 32)], none⟩, ⟨(some 34), (some (29, false)), .len, [(.t 33)], none⟩, ⟨(some 35), (some (29, false)), (.bin .gtr), [(.t 31), (.t 34)], none⟩, ⟨(some 36), none, .pick, [(.t 29), (.c (.lit (.bool true))), (.t 35)], none⟩, ⟨(some 37), none, .mv, [(.t 36)], none⟩, ⟨(some 38), (some (37, false)), (.fldA 1), [(.t 5)], none⟩, ⟨(some 39), (some (37, false)), .ld1, [(.t 38)], none⟩, ⟨(some 40), (some (37, false)), (.bin .lss), [(.t 39), (.c (.lit (.int .i64 0)))], none⟩, ⟨(some 41), none, .pick, [(.t 37), (.c (.lit (.bool true))), (.t 40)], none⟩, ⟨(some 42), none, .mv, [(.t 41)], none⟩, ⟨(some 43), (some (42, false)), (.fldA 1), [(.t 5)], none⟩, ⟨(some 44), (some (42, false)), .ld1, [(.t 43)], none⟩, ⟨(some 45), (some (42, false)), (.bin .gtr), [(.t 44), (.c (.lit (.int .i64 18)))], none⟩, ⟨(some 46), none, .pick, [(.t 42), (.c (.lit (.bool true))), (.t 45)], none⟩]) (.cond (.t 46) c_theorbolaw01_InstrumentCapoSounds_1 .skip)) c_theorbolaw01_InstrumentCapoSounds_10)
set_option maxRecDepth 100000 in
def c_theorbolaw01_InstrumentCapoSounds : VC :=
  (.seq (.ops 3 [⟨(some 3), none, (.box 39), [(.t 0)], none⟩, ⟨(some 5), none, (.box 41), [(.t 2)], none⟩, ⟨(some 6), none, .mv, [(.c (.lit (.bool false)))], none⟩]) c_theorbolaw01_InstrumentCapoSounds_11)
set_option maxRecDepth 100000 in
theorem k_theorbolaw01_InstrumentCapoSounds : Comp Tryd.prog nobx gtab 12 98 c_theorbolaw01_InstrumentCapoSounds [(.t 6)] := ⟨⟨Tryd.f12, _, Tryd.func12, rfl, rfl, by kernel_rfl, by kernel_rfl⟩⟩
set_option maxRecDepth 100000 in
abbrev c_theorbolaw01_InstrumentCapoTwice_1 : VC :=
  (.seq (.ops 0 [⟨(some 32), none, (.call 23), [], none⟩, ⟨(some 6), none, .mv, [(.t 32)], none⟩]) .ret)
set_option maxRecDepth 100000 in
abbrev c_theorbolaw01_InstrumentCapoTwice_2 : VC :=
  (.seq (.ops 0 [⟨(some 42), none, (.call 23), [], none⟩, ⟨(some 6), none, .mv, [(.t 42)], none⟩]) .ret)
set_option maxRecDepth 100000 in
abbrev c_theorbolaw01_InstrumentCapoTwice_3 : VC :=
  (.seq (.ops 0 [⟨(some 67), none, (.call 23), [], none⟩, ⟨(some 6), none, .mv, [(.t 67)], none⟩]) .ret)
set_option maxRecDepth 100000 in
abbrev c_theorbolaw01_InstrumentCapoTwice_4 : VC :=
  (.ops 0 [⟨(some 48), none, .mv, [(.t 9)], none⟩, ⟨(some 49), none, (.bin .add), [(.t 48), (.c (.lit (.int .i64 1)))], none⟩, ⟨(some 9), none, .mv, [(.t 49)], none⟩])
set_option maxRecDepth 100000 in
abbrev c_theorbolaw01_InstrumentCapoTwice_5 : VC :=
  (.seq (.block 1 (.seq (.ops 0 [⟨(some 50), none, (.fldA 0), [(.t 3)], none⟩, ⟨(some 51), none, .ld1, [(.t 50)], none⟩, ⟨(some 52), none, .mv, [(.t 9)], none⟩, ⟨(some 53), none, (.ixA 3), [(.t 51), (.t 52)], none⟩, ⟨(some 54), none, (.fldA 1), [(.t 53)], none⟩, ⟨(some 55), none, .ld1, [(.t 54)], none⟩, ⟨(some 56), none, (.bin .gtr), [(.t 55), (.c (.lit (.int .i64 0)))], none⟩, ⟨(some 57), none, .mv, [(.t 56)], none⟩, ⟨(some 58), (some (57, true)), (.fldA 0), [(.t 3)], none⟩, ⟨(some 59), (some (57, true)), .ld1, [(.t 58)], none⟩, ⟨(some 60), (some (57, true)), .mv, [(.t 9)], none⟩, ⟨(some 61), (some (57, true)), (.ixA 3), [(.t 59), (.t 60)], none⟩, ⟨(some 62), (some (57, true)), (.fldA 1), [(.t 61)], none⟩, ⟨(some 63), (some (57, true)), .ld1, [(.t 62)], none⟩, ⟨(some 64), (some (57, true)), .mv, [(.t 1)], none⟩, ⟨(some 65), (some (57, true)), (.bin .leq), [(.t 63), (.t 64)], none⟩, ⟨(some 66), none, .pick, [(.t 57), (.t 65), (.c (.lit (.bool false)))], none⟩]) (.cond (.t 66) c_theorbolaw01_InstrumentCapoTwice_3 .skip))) c_theorbolaw01_InstrumentCapoTwice_4)
set_option maxRecDepth 100000 in
abbrev c_theorbolaw01_InstrumentCapoTwice_6 : VC :=
  (.seq (.seq (.ops 0 [⟨(some 43), none, .mv, [(.t 9)], none⟩, ⟨(some 44), none, (.fldA 0), [(.t 3)], none⟩, ⟨(some 45), none, .ld1, [(.t 44)], none⟩, ⟨(some 46), none, .len, [(.t 45)], none⟩, ⟨(some 47), none, (.bin .lss), [(.t 43), (.t 46)], none⟩]) (.cond (.t 47) .skip (.exit 0))) c_theorbolaw01_InstrumentCapoTwice_5)
set_option maxRecDepth 100000 in
abbrev c_theorbolaw01_InstrumentCapoTwice_7 : VC :=
  (.seq (.ops 0 [⟨(some 83), none, .mv, [(.t 11)], none⟩, ⟨(some 84), none, .mv, [(.t 13)], none⟩, ⟨(some 85), none, (.bin .eql), [(.t 83), (.t 84)], none⟩, ⟨(some 86), none, .mv, [(.t 85)], none⟩, ⟨(some 87), (some (86, true)), (.ldA 2), [(.t 10)], none⟩, ⟨(some 88), (some (86, true)), (.ldA 2), [(.t 12)], none⟩, ⟨(some 89), (some (86, true)), (.call 39), [(.t 87), (.t 88)], none⟩, ⟨(some 90), none, .pick, [(.t 86), (.t 89), (.c (.lit (.bool false)))], none⟩, ⟨(some 91), none, .mv, [(.t 90)], none⟩, ⟨(some 92), (some (91, true)), (.call 23), [], none⟩, ⟨(some 93), none, .pick, [(.t 91), (.t 92), (.c (.lit (.bool false)))], none⟩, ⟨(some 6), none, .mv, [(.t 93)], none⟩]) .ret)
set_option maxRecDepth 100000 in
abbrev c_theorbolaw01_InstrumentCapoTwice_8 : VC :=
  (.seq (.ops 12 [⟨(some 75), none, (.ldA 2), [(.t 3)], none⟩, ⟨(some 76), none, (.call 28), [(.t 75)], none⟩, ⟨(some 77), none, .mv, [(.t 1)], none⟩, ⟨(some 78), none, .mv, [(.t 2)], none⟩, ⟨(some 79), none, (.bin .add), [(.t 77), (.t 78)], none⟩, ⟨(some 80), none, (.call 43), [(.t 76), (.t 79)], none⟩, ⟨(some 74), none, .mv, [(.t 80)], none⟩, ⟨(some 81), none, (.ext 0), [(.t 74)], none⟩, ⟨(some 82), none, (.ext 1), [(.t 74)], none⟩, ⟨(some 12), none, (.alloc 39 [(.sl 0 [] .exact), (.sl 0 [] .exact)]), [], none⟩, ⟨none, none, (.st 2), [(.t 12), (.t 81)], none⟩, ⟨(some 13), none, .mv, [(.t 82)], none⟩]) c_theorbolaw01_InstrumentCapoTwice_7)
set_option maxRecDepth 100000 in
abbrev c_theorbolaw01_InstrumentCapoTwice_9 : VC :=
  (.seq (.ops 9 [⟨(some 69), none, (.ldA 2), [(.t 7)], none⟩, ⟨(some 70), none, .mv, [(.t 2)], none⟩, ⟨(some 71), none, (.call 43), [(.t 69), (.t 70)], none⟩, ⟨(some 68), none, .mv, [(.t 71)], none⟩, ⟨(some 72), none, (.ext 0), [(.t 68)], none⟩, ⟨(some 73), none, (.ext 1), [(.t 68)], none⟩, ⟨(some 10), none, (.alloc 39 [(.sl 0 [] .exact), (.sl 0 [] .exact)]), [], none⟩, ⟨none, none, (.st 2), [(.t 10), (.t 72)], none⟩, ⟨(some 11), none, .mv, [(.t 73)], none⟩]) c_theorbolaw01_InstrumentCapoTwice_8)
set_option maxRecDepth 100000 in
abbrev c_theorbolaw01_InstrumentCapoTwice_10 : VC :=
  (.seq (.seq (.ops 0 [⟨(some 9), none, .mv, [(.c (.lit (.int .i64 0)))], none⟩]) (.block 0 (.loop c_theorbolaw01_InstrumentCapoTwice_6))) c_theorbolaw01_InstrumentCapoTwice_9)
set_option maxRecDepth 100000 in
abbrev c_theorbolaw01_InstrumentCapoTwice_11 : VC :=
  (.seq (.seq (.ops 0 [⟨(some 40), none, .mv, [(.t 8)], none⟩, ⟨(some 41), none, (.bin .neq), [(.t 40), (.c (.lit (.int .i64 0)))], none⟩]) (.cond (.t 41) c_theorbolaw01_InstrumentCapoTwice_2 .skip)) c_theorbolaw01_InstrumentCapoTwice_10)
set_option maxRecDepth 100000 in
abbrev c_theorbolaw01_InstrumentCapoTwice_12 : VC :=
  (.seq (.ops 10 [⟨(some 34), none, (.ldA 2), [(.t 3)], none⟩, ⟨(some 35), none, (.call 28), [(.t 34)], none⟩, ⟨(some 36), none, .mv, [(.t 1)], none⟩, ⟨(some 37), none, (.call 43), [(.t 35), (.t 36)], none⟩, ⟨(some 33), none, .mv, [(.t 37)], none⟩, ⟨(some 38), none, (.ext 0), [(.t 33)], none⟩, ⟨(some 39), none, (.ext 1), [(.t 33)], none⟩, ⟨(some 7), none, (.alloc 39 [(.sl 0 [] .exact), (.sl 0 [] .exact)]), [], none⟩, ⟨none, none, (.st 2), [(.t 7), (.t 38)], none⟩, ⟨(some 8), none, .mv, [(.t 39)], none⟩]) c_theorbolaw01_InstrumentCapoTwice_11)
set_option maxRecDepth 100000 in
abbrev c_theorbolaw01_InstrumentCapoTwice_13 : VC :=
  (.seq (.seq (.ops 0 [⟨(some 14), none, (.ldA 2), [(.t 3)], none⟩, ⟨(some 15), none, (.call 26), [(.t 14)], none⟩, ⟨(some 16), none, .mv, [(.t 15)], none⟩, ⟨(some 17), (some (16, false)), .mv, [(.t 1)], none⟩, ⟨(some 18), (some (16, false)), (.bin .lss), [(.t 17), (.c (.lit (.int .i64 0)))], none⟩, ⟨(some 19), none, .pick, [(.t 16), (.c (.lit (.bool true))), (.t 18)], none⟩, ⟨(some 20), none, .mv, [(.t 19)], none⟩, ⟨(some 21), (some (20, false)), .mv, [(.t 1)], none⟩, ⟨(some 22), (some (20, false)), (.bin .gtr), [(.t 21), (.c (.lit (.int .i64 18)))], none⟩, ⟨(some 23), none, .pick, [(.t 20), (.c (.lit (.bool true))), (.t 22)], none⟩, ⟨(some 24), none, .mv, [(.t 23)], none⟩, ⟨(some 25), (some (24, false)), .mv, [(.t 2)], none⟩, ⟨(some 26), (some (24, false)), (.bin .lss), [(.t 25), (.c (.lit (.int .i64 0)))], none⟩, ⟨(some 27), none, .pick, [(.t 24), (.c (.lit (.bool true))), (.t 26)], none⟩, ⟨(some 28), none, .mv, [(.t 27)], none⟩, ⟨(some 29), (some (28, false)), .mv, [(.t 2)], none⟩, ⟨(some 30), (some (28, false)), (.bin .gtr), [(.t 29), (.c (.lit (.int .i64 19)))], none⟩, ⟨(some 31), none, .pick, [(.t 28), (.c (.lit (.bool true))), (.t 30)], none⟩]) (.cond (.t 31) c_theorbolaw01_InstrumentCapoTwice_1 .skip)) c_theorbolaw01_InstrumentCapoTwice_12)
set_option maxRecDepth 100000 in
def c_theorbolaw01_InstrumentCapoTwice : VC :=
  (.seq (.ops 2 [⟨(some 3), none, (.box 39), [(.t 0)], none⟩, ⟨(some 6), none, .mv, [(.c (.lit (.bool false)))], none⟩]) c_theorbolaw01_InstrumentCapoTwice_13)
set_option maxRecDepth 100000 in
theorem k_theorbolaw01_InstrumentCapoTwice : Comp Tryd.prog nobx gtab 14 94 c_theorbolaw01_InstrumentCapoTwice [(.t 6)] := ⟨⟨Tryd.f14, _, Tryd.func14, rfl, rfl, by kernel_rfl, by kernel_rfl⟩⟩
set_option maxRecDepth 100000 in
abbrev c_instrument_Tune_1 : VC :=
  (.seq (.ops 0 [⟨(some 14), none, (.build [(.sl 0 [] .exact), (.sl 0 [] .exact)] []), [], none⟩, ⟨(some 15), none, .mv, [(.t 8)], none⟩, ⟨none, none, (.st 2), [(.t 6), (.t 14)], none⟩, ⟨(some 7), none, .mv, [(.t 15)], none⟩]) .ret)
set_option maxRecDepth 100000 in
abbrev c_instrument_Tune_2 : VC :=
  (.seq (.ops 0 [⟨(some 12), none, .mv, [(.t 8)], none⟩, ⟨(some 13), none, (.bin .neq), [(.t 12), (.c (.lit (.int .i64 0)))], none⟩]) (.cond (.t 13) c_instrument_Tune_1 .skip))
set_option maxRecDepth 100000 in
abbrev c_instrument_Tune_3 : VC :=
  (.seq (.ops 0 [⟨(some 25), none, (.build [(.sl 0 [] .exact), (.sl 0 [] .exact)] []), [], none⟩, ⟨none, none, (.st 2), [(.t 6), (.t 25)], none⟩, ⟨(some 7), none, .mv, [(.c (.lit (.int .i64 12)))], none⟩]) .ret)
set_option maxRecDepth 100000 in
abbrev c_instrument_Tune_4 : VC :=
  (.seq (.ops 0 [⟨(some 32), none, (.build [(.sl 0 [] .exact), (.sl 0 [] .exact)] []), [], none⟩, ⟨none, none, (.st 2), [(.t 6), (.t 32)], none⟩, ⟨(some 7), none, .mv, [(.c (.lit (.int .i64 1)))], none⟩]) .ret)
set_option maxRecDepth 100000 in
abbrev c_instrument_Tune_5 : VC :=
  (.seq (.ops 0 [⟨(some 46), none, (.ldA 2), [(.t 9)], none⟩, ⟨(some 47), none, (.call 81), [(.t 46)], none⟩, ⟨(some 48), none, (.ext 0), [(.t 47)], none⟩, ⟨(some 49), none, (.ext 1), [(.t 47)], none⟩, ⟨none, none, (.st 2), [(.t 6), (.t 48)], none⟩, ⟨(some 7), none, .mv, [(.t 49)], none⟩]) .ret)
set_option maxRecDepth 100000 in
abbrev c_instrument_Tune_6 : VC :=
  (.seq (.ops 0 [⟨(some 35), none, (.fldA 0), [(.t 9)], none⟩, ⟨(some 36), none, .ld1, [(.t 35)], none⟩, ⟨(some 37), none, .mv, [(.t 1)], none⟩, ⟨(some 38), none, (.bin .sub), [(.t 37), (.c (.lit (.int .i64 1)))], none⟩, ⟨(some 39), none, (.ixA 3), [(.t 36), (.t 38)], none⟩, ⟨(some 40), none, (.fldA 0), [(.t 39)], none⟩, ⟨(some 41), none, .ld1, [(.t 40)], none⟩, ⟨(some 42), none, .mv, [(.t 2)], none⟩, ⟨(some 43), none, (.bin .add), [(.t 41), (.t 42)], none⟩, ⟨(some 44), none, (.ixA 3), [(.t 36), (.t 38)], none⟩, ⟨(some 45), none, (.fldA 0), [(.t 44)], none⟩, ⟨none, none, (.st 1), [(.t 45), (.t 43)], none⟩]) c_instrument_Tune_5)
set_option maxRecDepth 100000 in
abbrev c_instrument_Tune_7 : VC :=
  (.seq (.ops 4 [⟨(some 33), none, (.ldA 2), [(.t 3)], none⟩, ⟨(some 34), none, (.call 80), [(.t 33)], none⟩, ⟨(some 9), none, (.alloc 39 [(.sl 0 [] .exact), (.sl 0 [] .exact)]), [], none⟩, ⟨none, none, (.st 2), [(.t 9), (.t 34)], none⟩]) c_instrument_Tune_6)
set_option maxRecDepth 100000 in
abbrev c_instrument_Tune_8 : VC :=
  (.seq (.seq (.ops 0 [⟨(some 26), none, .mv, [(.t 2)], none⟩, ⟨(some 27), none, (.bin .lss), [(.t 26), (.c (.lit (.int .i64 (-127))))], none⟩, ⟨(some 28), none, .mv, [(.t 27)], none⟩, ⟨(some 29), (some (28, false)), .mv, [(.t 2)], none⟩, ⟨(some 30), (some (28, false)), (.bin .gtr), [(.t 29), (.c (.lit (.int .i64 127)))], none⟩, ⟨(some 31), none, .pick, [(.t 28), (.c (.lit (.bool true))), (.t 30)], none⟩]) (.cond (.t 31) c_instrument_Tune_4 .skip)) c_instrument_Tune_7)
set_option maxRecDepth 100000 in
abbrev c_instrument_Tune_9 : VC :=
  (.seq (.seq (.ops 0 [⟨(some 16), none, .mv, [(.t 1)], none⟩, ⟨(some 17), none, (.bin .lss), [(.t 16), (.c (.lit (.int .i64 1)))], none⟩, ⟨(some 18), none, .mv, [(.t 17)], none⟩, ⟨(some 19), (some (18, false)), .mv, [(.t 1)], none⟩, ⟨(some 20), (some (18, false)), (.fldA 0), [(.t 3)], none⟩, ⟨(some 21), (some (18, false)), .ld1, [(.t 20)], none⟩, ⟨(some 22), (some (18, false)), .len, [(.t 21)], none⟩, ⟨(some 23), (some (18, false)), (.bin .gtr), [(.t 19), (.t 22)], none⟩, ⟨(some 24), none, .pick, [(.t 18), (.c (.lit (.bool true))), (.t 23)], none⟩]) (.cond (.t 24) c_instrument_Tune_3 .skip)) c_instrument_Tune_8)
set_option maxRecDepth 100000 in
abbrev c_instrument_Tune_10 : VC :=
  (.seq (.seq (.ops 0 [⟨(some 10), none, (.ldA 2), [(.t 3)], none⟩, ⟨(some 11), none, (.call 30), [(.t 10)], none⟩, ⟨(some 8), none, .mv, [(.t 11)], none⟩]) c_instrument_Tune_2) c_instrument_Tune_9)
set_option maxRecDepth 100000 in
def c_instrument_Tune : VC :=
  (.seq (.ops 3 [⟨(some 3), none, (.box 39), [(.t 0)], none⟩, ⟨(some 6), none, (.alloc 39 [(.sl 0 [] .exact), (.sl 0 [] .exact)]), [], none⟩, ⟨(some 7), none, .mv, [(.c (.lit (.int .i64 0)))], none⟩]) c_instrument_Tune_10)
set_option maxRecDepth 100000 in
theorem k_instrument_Tune : Comp Tryd.prog nobx gtab 45 50 c_instrument_Tune [(.c 6 2 true), (.t 7)] := ⟨⟨Tryd.f45, _, Tryd.func45, rfl, rfl, by kernel_rfl, by kernel_rfl⟩⟩
set_option maxRecDepth 100000 in
abbrev c_theorboref01_Tune_1 : VC :=
  (.seq (.ops 0 [⟨(some 14), none, (.build [(.sl 0 [] .exact), (.sl 0 [] .exact)] []), [], none⟩, ⟨(some 15), none, .mv, [(.t 8)], none⟩, ⟨none, none, (.st 2), [(.t 6), (.t 14)], none⟩, ⟨(some 7), none, .mv, [(.t 15)], none⟩]) .ret)
set_option maxRecDepth 100000 in
abbrev c_theorboref01_Tune_2 : VC :=
  (.seq (.ops 0 [⟨(some 25), none, (.build [(.sl 0 [] .exact), (.sl 0 [] .exact)] []), [], none⟩, ⟨none, none, (.st 2), [(.t 6), (.t 25)], none⟩, ⟨(some 7), none, .mv, [(.c (.lit (.int .i64 12)))], none⟩]) .ret)
set_option maxRecDepth 100000 in
abbrev c_theorboref01_Tune_3 : VC :=
  (.seq (.ops 0 [⟨(some 32), none, (.build [(.sl 0 [] .exact), (.sl 0 [] .exact)] []), [], none⟩, ⟨none, none, (.st 2), [(.t 6), (.t 32)], none⟩, ⟨(some 7), none, .mv, [(.c (.lit (.int .i64 1)))], none⟩]) .ret)
set_option maxRecDepth 100000 in
abbrev c_theorboref01_Tune_4 : VC :=
  (.seq (.ops 0 [⟨(some 50), none, (.ldA 2), [(.t 9)], none⟩, ⟨(some 51), none, (.call 77), [(.t 50)], none⟩, ⟨(some 52), none, (.ext 0), [(.t 51)], none⟩, ⟨(some 53), none, (.ext 1), [(.t 51)], none⟩, ⟨none, none, (.st 2), [(.t 6), (.t 52)], none⟩, ⟨(some 7), none, .mv, [(.t 53)], none⟩]) .ret)
set_option maxRecDepth 100000 in
abbrev c_theorboref01_Tune_5 : VC :=
  (.seq (.ops 0 [⟨(some 35), none, (.fldA 0), [(.t 9)], none⟩, ⟨(some 36), none, .ld1, [(.t 35)], (some [0])⟩, ⟨(some 37), none, .mv, [(.t 1)], none⟩, ⟨(some 38), none, (.bin .sub), [(.t 37), (.c (.lit (.int .i64 1)))], none⟩, ⟨(some 39), none, (.fldA 0), [(.t 9)], none⟩, ⟨(some 40), none, .ld1, [(.t 39)], (some [4])⟩, ⟨(some 41), none, .mv, [(.t 1)], none⟩, ⟨(some 42), none, (.bin .sub), [(.t 41), (.c (.lit (.int .i64 1)))], none⟩, ⟨(some 43), none, (.ixA 3), [(.t 40), (.t 42)], none⟩, ⟨(some 44), none, (.fldA 0), [(.t 43)], none⟩, ⟨(some 45), none, .ld1, [(.t 44)], (some [4, 5, 6, 7, 8, 9])⟩, ⟨(some 46), none, .mv, [(.t 2)], none⟩, ⟨(some 47), none, (.bin .add), [(.t 45), (.t 46)], none⟩, ⟨(some 48), none, (.ixA 3), [(.t 36), (.t 38)], none⟩, ⟨(some 49), none, (.fldA 0), [(.t 48)], none⟩, ⟨none, none, (.st 1), [(.t 49), (.t 47)], none⟩]) c_theorboref01_Tune_4)
set_option maxRecDepth 100000 in
abbrev c_theorboref01_Tune_6 : VC :=
  (.seq (.ops 4 [⟨(some 33), none, (.ldA 2), [(.t 3)], none⟩, ⟨(some 34), none, (.call 28), [(.t 33)], none⟩, ⟨(some 9), none, (.alloc 39 [(.sl 0 [] .exact), (.sl 0 [] .exact)]), [], none⟩, ⟨none, none, (.st 2), [(.t 9), (.t 34)], none⟩]) c_theorboref01_Tune_5)
set_option maxRecDepth 100000 in
abbrev c_theorboref01_Tune_7 : VC :=
  (.seq (.seq (.ops 0 [⟨(some 26), none, .mv, [(.t 2)], none⟩, ⟨(some 27), none, (.bin .lss), [(.t 26), (.c (.lit (.int .i64 (-127))))], none⟩, ⟨(some 28), none, .mv, [(.t 27)], none⟩, ⟨(some 29), (some (28, false)), .mv, [(.t 2)], none⟩, ⟨(some 30), (some (28, false)), (.bin .gtr), [(.t 29), (.c (.lit (.int .i64 127)))], none⟩, ⟨(some 31), none, .pick, [(.t 28), (.c (.lit (.bool true))), (.t 30)], none⟩]) (.cond (.t 31) c_theorboref01_Tune_3 .skip)) c_theorboref01_Tune_6)
set_option maxRecDepth 100000 in
abbrev c_theorboref01_Tune_8 : VC :=
  (.seq (.seq (.ops 0 [⟨(some 16), none, .mv, [(.t 1)], none⟩, ⟨(some 17), none, (.bin .lss), [(.t 16), (.c (.lit (.int .i64 1)))], none⟩, ⟨(some 18), none, .mv, [(.t 17)], none⟩, ⟨(some 19), (some (18, false)), .mv, [(.t 1)], none⟩, ⟨(some 20), (some (18, false)), (.fldA 0), [(.t 3)], none⟩, ⟨(some 21), (some (18, false)), .ld1, [(.t 20)], none⟩, ⟨(some 22), (some (18, false)), .len, [(.t 21)], none⟩, ⟨(some 23), (some (18, false)), (.bin .gtr), [(.t 19), (.t 22)], none⟩, ⟨(some 24), none, .pick, [(.t 18), (.c (.lit (.bool true))), (.t 23)], none⟩]) (.cond (.t 24) c_theorboref01_Tune_2 .skip)) c_theorboref01_Tune_7)
set_option maxRecDepth 100000 in
abbrev c_theorboref01_Tune_9 : VC :=
  (.seq (.seq (.ops 0 [⟨(some 12), none, .mv, [(.t 8)], none⟩, ⟨(some 13), none, (.bin .neq), [(.t 12), (.c (.lit (.int .i64 0)))], none⟩]) (.cond (.t 13) c_theorboref01_Tune_1 .skip)) c_theorboref01_Tune_8)
set_option maxRecDepth 100000 in
abbrev c_theorboref01_Tune_10 : VC :=
  (.seq (.ops 0 [⟨(some 10), none, (.ldA 2), [(.t 3)], none⟩, ⟨(some 11), none, (.call 31), [(.t 10)], none⟩, ⟨(some 8), none, .mv, [(.t 11)], none⟩]) c_theorboref01_Tune_9)
set_option maxRecDepth 100000 in
def c_theorboref01_Tune : VC :=
  (.seq (.ops 3 [⟨(some 3), none, (.box 39), [(.t 0)], none⟩, ⟨(some 6), none, (.alloc 39 [(.sl 0 [] .exact), (.sl 0 [] .exact)]), [], none⟩, ⟨(some 7), none, .mv, [(.c (.lit (.int .i64 0)))], none⟩]) c_theorboref01_Tune_10)
set_option maxRecDepth 100000 in
theorem k_theorboref01_Tune : Comp Tryd.prog nobx gtab 46 54 c_theorboref01_Tune [(.c 6 2 true), (.t 7)] := ⟨⟨Tryd.f46, _, Tryd.func46, rfl, rfl, by kernel_rfl, by kernel_rfl⟩⟩
set_option maxRecDepth 100000 in
abbrev c_instrument_Transpose_1 : VC :=
  (.seq (.ops 0 [⟨(some 13), none, (.build [(.sl 0 [] .exact), (.sl 0 [] .exact)] []), [], none⟩, ⟨(some 14), none, .mv, [(.t 6)], none⟩, ⟨none, none, (.st 2), [(.t 4), (.t 13)], none⟩, ⟨(some 5), none, .mv, [(.t 14)], none⟩]) .ret)
set_option maxRecDepth 100000 in
abbrev c_instrument_Transpose_2 : VC :=
  (.seq (.ops 0 [⟨(some 11), none, .mv, [(.t 6)], none⟩, ⟨(some 12), none, (.bin .neq), [(.t 11), (.c (.lit (.int .i64 0)))], none⟩]) (.cond (.t 12) c_instrument_Transpose_1 .skip))
set_option maxRecDepth 100000 in
abbrev c_instrument_Transpose_3 : VC :=
  (.seq (.ops 0 [⟨(some 21), none, (.build [(.sl 0 [] .exact), (.sl 0 [] .exact)] []), [], none⟩, ⟨none, none, (.st 2), [(.t 4), (.t 21)], none⟩, ⟨(some 5), none, .mv, [(.c (.lit (.int .i64 1)))], none⟩]) .ret)
set_option maxRecDepth 100000 in
abbrev c_instrument_Transpose_4 : VC :=
  (.ops 0 [⟨(some 30), none, (.fldA 0), [(.t 7)], none⟩, ⟨(some 31), none, .ld1, [(.t 30)], none⟩, ⟨(some 32), none, .mv, [(.t 8)], none⟩, ⟨(some 33), none, (.ixA 3), [(.t 31), (.t 32)], none⟩, ⟨(some 34), none, (.fldA 0), [(.t 33)], none⟩, ⟨(some 35), none, .ld1, [(.t 34)], none⟩, ⟨(some 36), none, .mv, [(.t 1)], none⟩, ⟨(some 37), none, (.bin .add), [(.t 35), (.t 36)], none⟩, ⟨(some 38), none, (.ixA 3), [(.t 31), (.t 32)], none⟩, ⟨(some 39), none, (.fldA 0), [(.t 38)], none⟩, ⟨none, none, (.st 1), [(.t 39), (.t 37)], none⟩])
set_option maxRecDepth 100000 in
abbrev c_instrument_Transpose_5 : VC :=
  (.ops 0 [⟨(some 40), none, (.bin .add), [(.t 27), (.c (.lit (.int .i64 1)))], none⟩, ⟨(some 27), none, .mv, [(.t 40)], none⟩])
set_option maxRecDepth 100000 in
abbrev c_instrument_Transpose_6 : VC :=
  (.seq (.block 1 (.seq (.ops 0 [⟨(some 29), none, .mv, [(.t 27)], none⟩, ⟨(some 8), none, .mv, [(.t 29)], none⟩]) c_instrument_Transpose_4)) c_instrument_Transpose_5)
set_option maxRecDepth 100000 in
abbrev c_instrument_Transpose_7 : VC :=
  (.seq (.cond (.t 28) .skip (.exit 0)) c_instrument_Transpose_6)
set_option maxRecDepth 100000 in
abbrev c_instrument_Transpose_8 : VC :=
  (.seq (.ops 0 [⟨(some 28), none, (.bin .lss), [(.t 27), (.t 26)], none⟩]) c_instrument_Transpose_7)
set_option maxRecDepth 100000 in
abbrev c_instrument_Transpose_9 : VC :=
  (.seq (.ops 0 [⟨(some 41), none, (.ldA 2), [(.t 7)], none⟩, ⟨(some 42), none, (.call 81), [(.t 41)], none⟩, ⟨(some 43), none, (.ext 0), [(.t 42)], none⟩, ⟨(some 44), none, (.ext 1), [(.t 42)], none⟩, ⟨none, none, (.st 2), [(.t 4), (.t 43)], none⟩, ⟨(some 5), none, .mv, [(.t 44)], none⟩]) .ret)
set_option maxRecDepth 100000 in
abbrev c_instrument_Transpose_10 : VC :=
  (.seq (.seq (.ops 0 [⟨(some 24), none, (.fldA 0), [(.t 7)], none⟩, ⟨(some 25), none, .ld1, [(.t 24)], none⟩, ⟨(some 26), none, .len, [(.t 25)], none⟩, ⟨(some 27), none, .mv, [(.c (.lit (.int .i64 0)))], none⟩]) (.block 0 (.loop c_instrument_Transpose_8))) c_instrument_Transpose_9)
set_option maxRecDepth 100000 in
abbrev c_instrument_Transpose_11 : VC :=
  (.seq (.ops 4 [⟨(some 22), none, (.ldA 2), [(.t 2)], none⟩, ⟨(some 23), none, (.call 80), [(.t 22)], none⟩, ⟨(some 7), none, (.alloc 39 [(.sl 0 [] .exact), (.sl 0 [] .exact)]), [], none⟩, ⟨none, none, (.st 2), [(.t 7), (.t 23)], none⟩]) c_instrument_Transpose_10)
set_option maxRecDepth 100000 in
abbrev c_instrument_Transpose_12 : VC :=
  (.seq (.seq (.ops 0 [⟨(some 15), none, .mv, [(.t 1)], none⟩, ⟨(some 16), none, (.bin .lss), [(.t 15), (.c (.lit (.int .i64 (-127))))], none⟩, ⟨(some 17), none, .mv, [(.t 16)], none⟩, ⟨(some 18), (some (17, false)), .mv, [(.t 1)], none⟩, ⟨(some 19), (some (17, false)), (.bin .gtr), [(.t 18), (.c (.lit (.int .i64 127)))], none⟩, ⟨(some 20), none, .pick, [(.t 17), (.c (.lit (.bool true))), (.t 19)], none⟩]) (.cond (.t 20) c_instrument_Transpose_3 .skip)) c_instrument_Transpose_11)
set_option maxRecDepth 100000 in
abbrev c_instrument_Transpose_13 : VC :=
  (.seq (.seq (.ops 0 [⟨(some 9), none, (.ldA 2), [(.t 2)], none⟩, ⟨(some 10), none, (.call 30), [(.t 9)], none⟩, ⟨(some 6), none, .mv, [(.t 10)], none⟩]) c_instrument_Transpose_2) c_instrument_Transpose_12)
set_option maxRecDepth 100000 in
def c_instrument_Transpose : VC :=
  (.seq (.ops 3 [⟨(some 2), none, (.box 39), [(.t 0)], none⟩, ⟨(some 4), none, (.alloc 39 [(.sl 0 [] .exact), (.sl 0 [] .exact)]), [], none⟩, ⟨(some 5), none, .mv, [(.c (.lit (.int .i64 0)))], none⟩]) c_instrument_Transpose_13)
set_option maxRecDepth 100000 in
theorem k_instrument_Transpose : Comp Tryd.prog nobx gtab 47 45 c_instrument_Transpose [(.c 4 2 true), (.t 5)] := ⟨⟨Tryd.f47, _, Tryd.func47, rfl, rfl, by kernel_rfl, by kernel_rfl⟩⟩
set_option maxRecDepth 100000 in
abbrev c_theorboref01_Transpose_1 : VC :=
  (.seq (.ops 0 [⟨(some 13), none, (.build [(.sl 0 [] .exact), (.sl 0 [] .exact)] []), [], none⟩, ⟨(some 14), none, .mv, [(.t 6)], none⟩, ⟨none, none, (.st 2), [(.t 4), (.t 13)], none⟩, ⟨(some 5), none, .mv, [(.t 14)], none⟩]) .ret)
set_option maxRecDepth 100000 in
abbrev c_theorboref01_Transpose_2 : VC :=
  (.seq (.ops 0 [⟨(some 21), none, (.build [(.sl 0 [] .exact), (.sl 0 [] .exact)] []), [], none⟩, ⟨none, none, (.st 2), [(.t 4), (.t 21)], none⟩, ⟨(some 5), none, .mv, [(.c (.lit (.int .i64 1)))], none⟩]) .ret)
set_option maxRecDepth 100000 in
abbrev c_theorboref01_Transpose_3 : VC :=
  (.ops 0 [⟨(some 29), none, .mv, [(.t 8)], none⟩, ⟨(some 30), none, (.bin .add), [(.t 29), (.c (.lit (.int .i64 1)))], none⟩, ⟨(some 8), none, .mv, [(.t 30)], none⟩])
set_option maxRecDepth 100000 in
abbrev c_theorboref01_Transpose_4 : VC :=
  (.seq (.block 1 (.ops 0 [⟨(some 31), none, (.fldA 0), [(.t 7)], none⟩, ⟨(some 32), none, .ld1, [(.t 31)], (some [0])⟩, ⟨(some 33), none, .mv, [(.t 8)], none⟩, ⟨(some 34), none, (.fldA 0), [(.t 7)], none⟩, ⟨(some 35), none, .ld1, [(.t 34)], (some [3])⟩, ⟨(some 36), none, .mv, [(.t 8)], none⟩, ⟨(some 37), none, (.ixA 3), [(.t 35), (.t 36)], none⟩, ⟨(some 38), none, (.fldA 0), [(.t 37)], none⟩, ⟨(some 39), none, .ld1, [(.t 38)], (some [3, 4, 5, 6, 7])⟩, ⟨(some 40), none, .mv, [(.t 1)], none⟩, ⟨(some 41), none, (.bin .add), [(.t 39), (.t 40)], none⟩, ⟨(some 42), none, (.ixA 3), [(.t 32), (.t 33)], none⟩, ⟨(some 43), none, (.fldA 0), [(.t 42)], none⟩, ⟨none, none, (.st 1), [(.t 43), (.t 41)], none⟩])) c_theorboref01_Transpose_3)
set_option maxRecDepth 100000 in
abbrev c_theorboref01_Transpose_5 : VC :=
  (.seq (.seq (.ops 0 [⟨(some 24), none, .mv, [(.t 8)], none⟩, ⟨(some 25), none, (.fldA 0), [(.t 7)], none⟩, ⟨(some 26), none, .ld1, [(.t 25)], none⟩, ⟨(some 27), none, .len, [(.t 26)], none⟩, ⟨(some 28), none, (.bin .lss), [(.t 24), (.t 27)], none⟩]) (.cond (.t 28) .skip (.exit 0))) c_theorboref01_Transpose_4)
set_option maxRecDepth 100000 in
abbrev c_theorboref01_Transpose_6 : VC :=
  (.seq (.ops 0 [⟨(some 44), none, (.ldA 2), [(.t 7)], none⟩, ⟨(some 45), none, (.call 77), [(.t 44)], none⟩, ⟨(some 46), none, (.ext 0), [(.t 45)], none⟩, ⟨(some 47), none, (.ext 1), [(.t 45)], none⟩, ⟨none, none, (.st 2), [(.t 4), (.t 46)], none⟩, ⟨(some 5), none, .mv, [(.t 47)], none⟩]) .ret)
set_option maxRecDepth 100000 in
abbrev c_theorboref01_Transpose_7 : VC :=
  (.seq (.seq (.ops 0 [⟨(some 8), none, .mv, [(.c (.lit (.int .i64 0)))], none⟩]) (.block 0 (.loop c_theorboref01_Transpose_5))) c_theorboref01_Transpose_6)
set_option maxRecDepth 100000 in
abbrev c_theorboref01_Transpose_8 : VC :=
  (.seq (.ops 4 [⟨(some 22), none, (.ldA 2), [(.t 2)], none⟩, ⟨(some 23), none, (.call 28), [(.t 22)], none⟩, ⟨(some 7), none, (.alloc 39 [(.sl 0 [] .exact), (.sl 0 [] .exact)]), [], none⟩, ⟨none, none, (.st 2), [(.t 7), (.t 23)], none⟩]) c_theorboref01_Transpose_7)
set_option maxRecDepth 100000 in
abbrev c_theorboref01_Transpose_9 : VC :=
  (.seq (.seq (.ops 0 [⟨(some 15), none, .mv, [(.t 1)], none⟩, ⟨(some 16), none, (.bin .lss), [(.t 15), (.c (.lit (.int .i64 (-127))))], none⟩, ⟨(some 17), none, .mv, [(.t 16)], none⟩, ⟨(some 18), (some (17, false)), .mv, [(.t 1)], none⟩, ⟨(some 19), (some (17, false)), (.bin .gtr), [(.t 18), (.c (.lit (.int .i64 127)))], none⟩, ⟨(some 20), none, .pick, [(.t 17), (.c (.lit (.bool true))), (.t 19)], none⟩]) (.cond (.t 20) c_theorboref01_Transpose_2 .skip)) c_theorboref01_Transpose_8)
set_option maxRecDepth 100000 in
abbrev c_theorboref01_Transpose_10 : VC :=
  (.seq (.seq (.ops 0 [⟨(some 11), none, .mv, [(.t 6)], none⟩, ⟨(some 12), none, (.bin .neq), [(.t 11), (.c (.lit (.int .i64 0)))], none⟩]) (.cond (.t 12) c_theorboref01_Transpose_1 .skip)) c_theorboref01_Transpose_9)
set_option maxRecDepth 100000 in
abbrev c_theorboref01_Transpose_11 : VC :=
  (.seq (.ops 0 [⟨(some 9), none, (.ldA 2), [(.t 2)], none⟩, ⟨(some 10), none, (.call 31), [(.t 9)], none⟩, ⟨(some 6), none, .mv, [(.t 10)], none⟩]) c_theorboref01_Transpose_10)
set_option maxRecDepth 100000 in
def c_theorboref01_Transpose : VC :=
  (.seq (.ops 3 [⟨(some 2), none, (.box 39), [(.t 0)], none⟩, ⟨(some 4), none, (.alloc 39 [(.sl 0 [] .exact), (.sl 0 [] .exact)]), [], none⟩, ⟨(some 5), none, .mv, [(.c (.lit (.int .i64 0)))], none⟩]) c_theorboref01_Transpose_11)
set_option maxRecDepth 100000 in
theorem k_theorboref01_Transpose : Comp Tryd.prog nobx gtab 48 48 c_theorboref01_Transpose [(.c 4 2 true), (.t 5)] := ⟨⟨Tryd.f48, _, Tryd.func48, rfl, rfl, by kernel_rfl, by kernel_rfl⟩⟩
set_option maxRecDepth 100000 in
abbrev c_instrument_retuned_1 : VC :=
  (.seq (.ops 0 [⟨(some 9), none, (.build [(.sl 0 [] .exact), (.sl 0 [] .exact)] []), [], none⟩, ⟨(some 10), none, .mv, [(.t 4)], none⟩, ⟨none, none, (.st 2), [(.t 2), (.t 9)], none⟩, ⟨(some 3), none, .mv, [(.t 10)], none⟩]) .ret)
set_option maxRecDepth 100000 in
abbrev c_instrument_retuned_2 : VC :=
  (.seq (.ops 0 [⟨(some 7), none, .mv, [(.t 4)], none⟩, ⟨(some 8), none, (.bin .neq), [(.t 7), (.c (.lit (.int .i64 0)))], none⟩]) (.cond (.t 8) c_instrument_retuned_1 .skip))
set_option maxRecDepth 100000 in
abbrev c_instrument_retuned_3 : VC :=
  (.seq (.ops 0 [⟨(some 11), none, (.ldA 2), [(.t 1)], none⟩, ⟨none, none, (.st 2), [(.t 2), (.t 11)], none⟩, ⟨(some 3), none, .mv, [(.c (.lit (.int .i64 0)))], none⟩]) .ret)
set_option maxRecDepth 100000 in
abbrev c_instrument_retuned_4 : VC :=
  (.seq (.seq (.ops 0 [⟨(some 5), none, (.ldA 2), [(.t 1)], none⟩, ⟨(some 6), none, (.call 30), [(.t 5)], none⟩, ⟨(some 4), none, .mv, [(.t 6)], none⟩]) c_instrument_retuned_2) c_instrument_retuned_3)
set_option maxRecDepth 100000 in
def c_instrument_retuned : VC :=
  (.seq (.ops 3 [⟨(some 1), none, (.box 39), [(.t 0)], none⟩, ⟨(some 2), none, (.alloc 39 [(.sl 0 [] .exact), (.sl 0 [] .exact)]), [], none⟩, ⟨(some 3), none, .mv, [(.c (.lit (.int .i64 0)))], none⟩]) c_instrument_retuned_4)
set_option maxRecDepth 100000 in
theorem k_instrument_retuned : Comp Tryd.prog nobx gtab 81 12 c_instrument_retuned [(.c 2 2 true), (.t 3)] := ⟨⟨Tryd.f81, _, Tryd.func81, rfl, rfl, by kernel_rfl, by kernel_rfl⟩⟩
set_option maxRecDepth 100000 in
abbrev c_theorboref01_checked_1 : VC :=
  (.seq (.ops 0 [⟨(some 9), none, (.build [(.sl 0 [] .exact), (.sl 0 [] .exact)] []), [], none⟩, ⟨(some 10), none, .mv, [(.t 4)], none⟩, ⟨none, none, (.st 2), [(.t 2), (.t 9)], none⟩, ⟨(some 3), none, .mv, [(.t 10)], none⟩]) .ret)
set_option maxRecDepth 100000 in
abbrev c_theorboref01_checked_2 : VC :=
  (.seq (.ops 0 [⟨(some 11), none, (.ldA 2), [(.t 1)], none⟩, ⟨none, none, (.st 2), [(.t 2), (.t 11)], none⟩, ⟨(some 3), none, .mv, [(.c (.lit (.int .i64 0)))], none⟩]) .ret)
set_option maxRecDepth 100000 in
abbrev c_theorboref01_checked_3 : VC :=
  (.seq (.seq (.ops 0 [⟨(some 7), none, .mv, [(.t 4)], none⟩, ⟨(some 8), none, (.bin .neq), [(.t 7), (.c (.lit (.int .i64 0)))], none⟩]) (.cond (.t 8) c_theorboref01_checked_1 .skip)) c_theorboref01_checked_2)
set_option maxRecDepth 100000 in
abbrev c_theorboref01_checked_4 : VC :=
  (.seq (.ops 0 [⟨(some 5), none, (.ldA 2), [(.t 1)], none⟩, ⟨(some 6), none, (.call 31), [(.t 5)], none⟩, ⟨(some 4), none, .mv, [(.t 6)], none⟩]) c_theorboref01_checked_3)
set_option maxRecDepth 100000 in
def c_theorboref01_checked : VC :=
  (.seq (.ops 3 [⟨(some 1), none, (.box 39), [(.t 0)], none⟩, ⟨(some 2), none, (.alloc 39 [(.sl 0 [] .exact), (.sl 0 [] .exact)]), [], none⟩, ⟨(some 3), none, .mv, [(.c (.lit (.int .i64 0)))], none⟩]) c_theorboref01_checked_4)
set_option maxRecDepth 100000 in
theorem k_theorboref01_checked : Comp Tryd.prog nobx gtab 77 12 c_theorboref01_checked [(.c 2 2 true), (.t 3)] := ⟨⟨Tryd.f77, _, Tryd.func77, rfl, rfl, by kernel_rfl, by kernel_rfl⟩⟩
set_option maxRecDepth 100000 in
abbrev c_theorbolaw01_InstrumentTunes_1 : VC :=
  (.seq (.ops 0 [⟨(some 18), none, (.call 23), [], none⟩, ⟨(some 6), none, .mv, [(.t 18)], none⟩]) .ret)
set_option maxRecDepth 100000 in
abbrev c_theorbolaw01_InstrumentTunes_2 : VC :=
  (.seq (.ops 0 [⟨(some 47), none, (.ldA 2), [(.t 8)], none⟩, ⟨(some 48), none, (.ldA 2), [(.t 10)], none⟩, ⟨(some 49), none, (.call 34), [(.t 47), (.t 48)], none⟩, ⟨(some 50), none, .mv, [(.t 49)], none⟩, ⟨(some 51), (some (50, true)), .mv, [(.t 9)], none⟩, ⟨(some 52), (some (50, true)), .mv, [(.t 11)], none⟩, ⟨(some 53), (some (50, true)), (.bin .eql), [(.t 51), (.t 52)], none⟩, ⟨(some 54), none, .pick, [(.t 50), (.t 53), (.c (.lit (.bool false)))], none⟩, ⟨(some 55), none, .mv, [(.t 54)], none⟩, ⟨(some 56), (some (55, true)), (.ldA 2), [(.t 12)], none⟩, ⟨(some 57), (some (55, true)), (.ldA 2), [(.t 14)], none⟩, ⟨(some 58), (some (55, true)), (.call 34), [(.t 56), (.t 57)], none⟩, ⟨(some 59), none, .pick, [(.t 55), (.t 58), (.c (.lit (.bool false)))], none⟩, ⟨(some 60), none, .mv, [(.t 59)], none⟩, ⟨(some 61), (some (60, true)), .mv, [(.t 13)], none⟩, ⟨(some 62), (some (60, true)), .mv, [(.t 15)], none⟩, ⟨(some 63), (some (60, true)), (.bin .eql), [(.t 61), (.t 62)], none⟩, ⟨(some 64), none, .pick, [(.t 60), (.t 63), (.c (.lit (.bool false)))], none⟩, ⟨(some 65), none, .mv, [(.t 64)], none⟩, ⟨(some 66), (some (65, true)), (.ldA 2), [(.t 7)], none⟩, ⟨(some 67), (some (65, true)), (.ldA 2), [(.t 3)], none⟩, ⟨(some 68), (some (65, true)), (.call 34), [(.t 66), (.t 67)], none⟩, ⟨(some 69), none, .pick, [(.t 65), (.t 68), (.c (.lit (.bool false)))], none⟩, ⟨(some 70), none, .mv, [(.t 69)], none⟩, ⟨(some 71), (some (70, true)), (.call 23), [], none⟩, ⟨(some 72), none, .pick, [(.t 70), (.t 71), (.c (.lit (.bool false)))], none⟩, ⟨(some 6), none, .mv, [(.t 72)], none⟩]) .ret)
set_option maxRecDepth 100000 in
abbrev c_theorbolaw01_InstrumentTunes_3 : VC :=
  (.seq (.ops 9 [⟨(some 42), none, (.ldA 2), [(.t 3)], none⟩, ⟨(some 43), none, .mv, [(.t 2)], none⟩, ⟨(some 44), none, (.call 48), [(.t 42), (.t 43)], none⟩, ⟨(some 41), none, .mv, [(.t 44)], none⟩, ⟨(some 45), none, (.ext 0), [(.t 41)], none⟩, ⟨(some 46), none, (.ext 1), [(.t 41)], none⟩, ⟨(some 14), none, (.alloc 39 [(.sl 0 [] .exact), (.sl 0 [] .exact)]), [], none⟩, ⟨none, none, (.st 2), [(.t 14), (.t 45)], none⟩, ⟨(some 15), none, .mv, [(.t 46)], none⟩]) c_theorbolaw01_InstrumentTunes_2)
set_option maxRecDepth 100000 in
abbrev c_theorbolaw01_InstrumentTunes_4 : VC :=
  (.seq (.ops 9 [⟨(some 36), none, (.ldA 2), [(.t 7)], none⟩, ⟨(some 37), none, .mv, [(.t 2)], none⟩, ⟨(some 38), none, (.call 47), [(.t 36), (.t 37)], none⟩, ⟨(some 35), none, .mv, [(.t 38)], none⟩, ⟨(some 39), none, (.ext 0), [(.t 35)], none⟩, ⟨(some 40), none, (.ext 1), [(.t 35)], none⟩, ⟨(some 12), none, (.alloc 39 [(.sl 0 [] .exact), (.sl 0 [] .exact)]), [], none⟩, ⟨none, none, (.st 2), [(.t 12), (.t 39)], none⟩, ⟨(some 13), none, .mv, [(.t 40)], none⟩]) c_theorbolaw01_InstrumentTunes_3)
set_option maxRecDepth 100000 in
abbrev c_theorbolaw01_InstrumentTunes_5 : VC :=
  (.seq (.ops 10 [⟨(some 29), none, (.ldA 2), [(.t 3)], none⟩, ⟨(some 30), none, .mv, [(.t 1)], none⟩, ⟨(some 31), none, .mv, [(.t 2)], none⟩, ⟨(some 32), none, (.call 46), [(.t 29), (.t 30), (.t 31)], none⟩, ⟨(some 28), none, .mv, [(.t 32)], none⟩, ⟨(some 33), none, (.ext 0), [(.t 28)], none⟩, ⟨(some 34), none, (.ext 1), [(.t 28)], none⟩, ⟨(some 10), none, (.alloc 39 [(.sl 0 [] .exact), (.sl 0 [] .exact)]), [], none⟩, ⟨none, none, (.st 2), [(.t 10), (.t 33)], none⟩, ⟨(some 11), none, .mv, [(.t 34)], none⟩]) c_theorbolaw01_InstrumentTunes_4)
set_option maxRecDepth 100000 in
abbrev c_theorbolaw01_InstrumentTunes_6 : VC :=
  (.seq (.ops 10 [⟨(some 22), none, (.ldA 2), [(.t 7)], none⟩, ⟨(some 23), none, .mv, [(.t 1)], none⟩, ⟨(some 24), none, .mv, [(.t 2)], none⟩, ⟨(some 25), none, (.call 45), [(.t 22), (.t 23), (.t 24)], none⟩, ⟨(some 21), none, .mv, [(.t 25)], none⟩, ⟨(some 26), none, (.ext 0), [(.t 21)], none⟩, ⟨(some 27), none, (.ext 1), [(.t 21)], none⟩, ⟨(some 8), none, (.alloc 39 [(.sl 0 [] .exact), (.sl 0 [] .exact)]), [], none⟩, ⟨none, none, (.st 2), [(.t 8), (.t 26)], none⟩, ⟨(some 9), none, .mv, [(.t 27)], none⟩]) c_theorbolaw01_InstrumentTunes_5)
set_option maxRecDepth 100000 in
abbrev c_theorbolaw01_InstrumentTunes_7 : VC :=
  (.seq (.ops 4 [⟨(some 19), none, (.ldA 2), [(.t 3)], none⟩, ⟨(some 20), none, (.call 28), [(.t 19)], none⟩, ⟨(some 7), none, (.alloc 39 [(.sl 0 [] .exact), (.sl 0 [] .exact)]), [], none⟩, ⟨none, none, (.st 2), [(.t 7), (.t 20)], none⟩]) c_theorbolaw01_InstrumentTunes_6)
set_option maxRecDepth 100000 in
abbrev c_theorbolaw01_InstrumentTunes_8 : VC :=
  (.seq (.seq (.ops 0 [⟨(some 16), none, (.ldA 2), [(.t 3)], none⟩, ⟨(some 17), none, (.call 26), [(.t 16)], none⟩]) (.cond (.t 17) c_theorbolaw01_InstrumentTunes_1 .skip)) c_theorbolaw01_InstrumentTunes_7)
set_option maxRecDepth 100000 in
def c_theorbolaw01_InstrumentTunes : VC :=
  (.seq (.ops 2 [⟨(some 3), none, (.box 39), [(.t 0)], none⟩, ⟨(some 6), none, .mv, [(.c (.lit (.bool false)))], none⟩]) c_theorbolaw01_InstrumentTunes_8)
set_option maxRecDepth 100000 in
theorem k_theorbolaw01_InstrumentTunes : Comp Tryd.prog nobx gtab 13 73 c_theorbolaw01_InstrumentTunes [(.t 6)] := ⟨⟨Tryd.f13, _, Tryd.func13, rfl, rfl, by kernel_rfl, by kernel_rfl⟩⟩
set_option maxRecDepth 100000 in
abbrev c_theorbolaw01_InstrumentTunesBack_1 : VC :=
  (.seq (.ops 0 [⟨(some 24), none, (.call 23), [], none⟩, ⟨(some 6), none, .mv, [(.t 24)], none⟩]) .ret)
set_option maxRecDepth 100000 in
abbrev c_theorbolaw01_InstrumentTunesBack_2 : VC :=
  (.seq (.ops 0 [⟨(some 6), none, .mv, [(.c (.lit (.bool false)))], none⟩]) .ret)
set_option maxRecDepth 100000 in
abbrev c_theorbolaw01_InstrumentTunesBack_3 : VC :=
  (.seq (.ops 0 [⟨(some 6), none, .mv, [(.c (.lit (.bool false)))], none⟩]) .ret)
set_option maxRecDepth 100000 in
abbrev c_theorbolaw01_InstrumentTunesBack_4 : VC :=
  (.seq (.ops 0 [⟨(some 84), none, .mv, [(.t 14)], none⟩, ⟨(some 85), none, .mv, [(.t 16)], none⟩, ⟨(some 86), none, (.bin .neq), [(.t 84), (.t 85)], none⟩, ⟨(some 87), none, .mv, [(.t 86)], none⟩, ⟨(some 88), (some (87, false)), .mv, [(.t 14)], none⟩, ⟨(some 89), (some (87, false)), (.bin .eql), [(.t 88), (.c (.lit (.int .i64 0)))], none⟩, ⟨(some 90), (some (87, false)), .mv, [(.t 89)], none⟩, ⟨(some 91), (some (90, true)), .mv, [(.t 11)], none⟩, ⟨(some 92), (some (90, true)), .mv, [(.t 1)], none⟩, ⟨(some 93), (some (90, true)), (.bin .eql), [(.t 91), (.t 92)], none⟩, ⟨(some 94), (some (87, false)), .pick, [(.t 90), (.t 93), (.c (.lit (.bool false)))], none⟩, ⟨(some 95), (some (87, false)), .mv, [(.t 94)], none⟩, ⟨(some 96), (some (95, true)), .mv, [(.t 15)], none⟩, ⟨(some 97), (some (95, true)), .mv, [(.t 13)], none⟩, ⟨(some 98), (some (95, true)), .mv, [(.t 2)], none⟩, ⟨(some 99), (some (95, true)), (.bin .add), [(.t 97), (.t 98)], none⟩, ⟨(some 100), (some (95, true)), (.bin .neq), [(.t 96), (.t 99)], none⟩, ⟨(some 101), (some (87, false)), .pick, [(.t 95), (.t 100), (.c (.lit (.bool false)))], none⟩, ⟨(some 102), none, .pick, [(.t 87), (.c (.lit (.bool true))), (.t 101)], none⟩, ⟨(some 103), none, .mv, [(.t 102)], none⟩, ⟨(some 104), (some (103, false)), .mv, [(.t 14)], none⟩, ⟨(some 105), (some (103, false)), (.bin .eql), [(.t 104), (.c (.lit (.int .i64 0)))], none⟩, ⟨(some 106), (some (103, false)), .mv, [(.t 105)], none⟩, ⟨(some 107), (some (106, true)), .mv, [(.t 11)], none⟩, ⟨(some 108), (some (106, true)), .mv, [(.t 1)], none⟩, ⟨(some 109), (some (106, true)), (.bin .neq), [(.t 107), (.t 108)], none⟩, ⟨(some 110), (some (103, false)), .pick, [(.t 106), (.t 109), (.c (.lit (.bool false)))], none⟩, ⟨(some 111), (some (103, false)), .mv, [(.t 110)], none⟩, ⟨(some 112), (some (111, true)), .mv, [(.t 15)], none⟩, ⟨(some 113), (some (111, true)), .mv, [(.t 13)], none⟩, ⟨(some 114), (some (111, true)), (.bin .neq), [(.t 112), (.t 113)], none⟩, ⟨(some 115), (some (103, false)), .pick, [(.t 111), (.t 114), (.c (.lit (.bool false)))], none⟩, ⟨(some 116), none, .pick, [(.t 103), (.c (.lit (.bool true))), (.t 115)], none⟩]) (.cond (.t 116) c_theorbolaw01_InstrumentTunesBack_3 .skip))
set_option maxRecDepth 100000 in
abbrev c_theorbolaw01_InstrumentTunesBack_5 : VC :=
  (.seq (.ops 0 [⟨(some 77), none, (.ldA 2), [(.t 7)], none⟩, ⟨(some 78), none, .mv, [(.t 11)], none⟩, ⟨(some 79), none, .mv, [(.t 12)], none⟩, ⟨(some 80), none, (.build [(.lit (.int .i64 0)), (.lit (.int .i64 0))] [(0, 1), (1, 1)]), [(.t 78), (.t 79)], none⟩, ⟨(some 81), none, (.call 27), [(.t 77), (.t 80)], none⟩, ⟨(some 76), none, .mv, [(.t 81)], none⟩, ⟨(some 82), none, (.ext 0), [(.t 76)], none⟩, ⟨(some 83), none, (.ext 1), [(.t 76)], none⟩, ⟨(some 15), none, .mv, [(.t 82)], none⟩, ⟨(some 16), none, .mv, [(.t 83)], none⟩]) c_theorbolaw01_InstrumentTunesBack_4)
set_option maxRecDepth 100000 in
abbrev c_theorbolaw01_InstrumentTunesBack_6 : VC :=
  (.ops 0 [⟨(some 65), none, .mv, [(.t 12)], none⟩, ⟨(some 66), none, (.bin .add), [(.t 65), (.c (.lit (.int .i64 1)))], none⟩, ⟨(some 12), none, .mv, [(.t 66)], none⟩])
set_option maxRecDepth 100000 in
abbrev c_theorbolaw01_InstrumentTunesBack_7 : VC :=
  (.seq (.block 3 (.seq (.ops 0 [⟨(some 68), none, (.ldA 2), [(.t 3)], none⟩, ⟨(some 69), none, (.call 28), [(.t 68)], none⟩, ⟨(some 70), none, .mv, [(.t 11)], none⟩, ⟨(some 71), none, .mv, [(.t 12)], none⟩, ⟨(some 72), none, (.build [(.lit (.int .i64 0)), (.lit (.int .i64 0))] [(0, 1), (1, 1)]), [(.t 70), (.t 71)], none⟩, ⟨(some 73), none, (.call 27), [(.t 69), (.t 72)], none⟩, ⟨(some 67), none, .mv, [(.t 73)], none⟩, ⟨(some 74), none, (.ext 0), [(.t 67)], none⟩, ⟨(some 75), none, (.ext 1), [(.t 67)], none⟩, ⟨(some 13), none, .mv, [(.t 74)], none⟩, ⟨(some 14), none, .mv, [(.t 75)], none⟩]) c_theorbolaw01_InstrumentTunesBack_5)) c_theorbolaw01_InstrumentTunesBack_6)
set_option maxRecDepth 100000 in
abbrev c_theorbolaw01_InstrumentTunesBack_8 : VC :=
  (.seq (.seq (.ops 0 [⟨(some 63), none, .mv, [(.t 12)], none⟩, ⟨(some 64), none, (.bin .leq), [(.t 63), (.c (.lit (.int .i64 19)))], none⟩]) (.cond (.t 64) .skip (.exit 2))) c_theorbolaw01_InstrumentTunesBack_7)
set_option maxRecDepth 100000 in
abbrev c_theorbolaw01_InstrumentTunesBack_9 : VC :=
  (.ops 0 [⟨(some 61), none, .mv, [(.t 11)], none⟩, ⟨(some 62), none, (.bin .add), [(.t 61), (.c (.lit (.int .i64 1)))], none⟩, ⟨(some 11), none, .mv, [(.t 62)], none⟩])
set_option maxRecDepth 100000 in
abbrev c_theorbolaw01_InstrumentTunesBack_10 : VC :=
  (.seq (.block 1 (.seq (.ops 0 [⟨(some 12), none, .mv, [(.c (.lit (.int .i64 (-1))))], none⟩]) (.block 2 (.loop c_theorbolaw01_InstrumentTunesBack_8)))) c_theorbolaw01_InstrumentTunesBack_9)
set_option maxRecDepth 100000 in
abbrev c_theorbolaw01_InstrumentTunesBack_11 : VC :=
  (.seq (.seq (.ops 0 [⟨(some 52), none, .mv, [(.t 11)], none⟩, ⟨(some 53), none, (.fldA 0), [(.t 3)], none⟩, ⟨(some 54), none, .ld1, [(.t 53)], none⟩, ⟨(some 55), none, .len, [(.t 54)], none⟩, ⟨(some 56), none, (.bin .leq), [(.t 52), (.t 55)], none⟩, ⟨(some 57), none, .mv, [(.t 56)], none⟩, ⟨(some 58), (some (57, true)), .mv, [(.t 11)], none⟩, ⟨(some 59), (some (57, true)), (.bin .leq), [(.t 58), (.c (.lit (.int .i64 14)))], none⟩, ⟨(some 60), none, .pick, [(.t 57), (.t 59), (.c (.lit (.bool false)))], none⟩]) (.cond (.t 60) .skip (.exit 0))) c_theorbolaw01_InstrumentTunesBack_10)
set_option maxRecDepth 100000 in
abbrev c_theorbolaw01_InstrumentTunesBack_12 : VC :=
  (.seq (.ops 0 [⟨(some 11), none, .mv, [(.c (.lit (.int .i64 1)))], none⟩]) (.block 0 (.loop c_theorbolaw01_InstrumentTunesBack_11)))
set_option maxRecDepth 100000 in
abbrev c_theorbolaw01_InstrumentTunesBack_13 : VC :=
  (.seq (.seq (.ops 0 [⟨(some 43), none, .mv, [(.t 10)], none⟩, ⟨(some 44), none, (.bin .neq), [(.t 43), (.c (.lit (.int .i64 0)))], none⟩, ⟨(some 45), none, .mv, [(.t 44)], none⟩, ⟨(some 46), (some (45, false)), (.ldA 2), [(.t 9)], (some [0, 1, 2])⟩, ⟨(some 47), (some (45, false)), (.ldA 2), [(.t 3)], (some [0, 1, 2])⟩, ⟨(some 48), (some (45, false)), (.call 28), [(.t 47)], (some [0, 1, 2, 4])⟩, ⟨(some 49), (some (45, false)), (.call 39), [(.t 46), (.t 48)], none⟩, ⟨(some 50), (some (45, false)), (.un .not), [(.t 49)], none⟩, ⟨(some 51), none, .pick, [(.t 45), (.c (.lit (.bool true))), (.t 50)], none⟩]) (.cond (.t 51) c_theorbolaw01_InstrumentTunesBack_2 .skip)) c_theorbolaw01_InstrumentTunesBack_12)
set_option maxRecDepth 100000 in
abbrev c_theorbolaw01_InstrumentTunesBack_14 : VC :=
  (.seq (.ops 11 [⟨(some 36), none, (.ldA 2), [(.t 7)], none⟩, ⟨(some 37), none, .mv, [(.t 1)], none⟩, ⟨(some 38), none, .mv, [(.t 2)], none⟩, ⟨(some 39), none, (.un .neg), [(.t 38)], none⟩, ⟨(some 40), none, (.call 45), [(.t 36), (.t 37), (.t 39)], none⟩, ⟨(some 35), none, .mv, [(.t 40)], none⟩, ⟨(some 41), none, (.ext 0), [(.t 35)], none⟩, ⟨(some 42), none, (.ext 1), [(.t 35)], none⟩, ⟨(some 9), none, (.alloc 39 [(.sl 0 [] .exact), (.sl 0 [] .exact)]), [], none⟩, ⟨none, none, (.st 2), [(.t 9), (.t 41)], none⟩, ⟨(some 10), none, .mv, [(.t 42)], none⟩]) c_theorbolaw01_InstrumentTunesBack_13)
set_option maxRecDepth 100000 in
abbrev c_theorbolaw01_InstrumentTunesBack_15 : VC :=
  (.ops 0 [⟨(some 134), none, .mv, [(.t 19)], none⟩, ⟨(some 135), none, (.bin .add), [(.t 134), (.c (.lit (.int .i64 1)))], none⟩, ⟨(some 19), none, .mv, [(.t 135)], none⟩])
set_option maxRecDepth 100000 in
abbrev c_theorbolaw01_InstrumentTunesBack_16 : VC :=
  (.seq (.block 5 (.ops 0 [⟨(some 137), none, (.ldA 2), [(.t 17)], none⟩, ⟨(some 138), none, .mv, [(.t 19)], none⟩, ⟨(some 139), none, .mv, [(.t 2)], none⟩, ⟨(some 140), none, (.call 45), [(.t 137), (.t 138), (.t 139)], none⟩, ⟨(some 136), none, .mv, [(.t 140)], none⟩, ⟨(some 141), none, (.ext 0), [(.t 136)], none⟩, ⟨(some 142), none, (.ext 1), [(.t 136)], none⟩, ⟨none, none, (.st 2), [(.t 17), (.t 141)], none⟩, ⟨(some 18), none, .mv, [(.t 142)], none⟩])) c_theorbolaw01_InstrumentTunesBack_15)
set_option maxRecDepth 100000 in
abbrev c_theorbolaw01_InstrumentTunesBack_17 : VC :=
  (.seq (.seq (.ops 0 [⟨(some 121), none, .mv, [(.t 19)], none⟩, ⟨(some 122), none, (.fldA 0), [(.t 3)], none⟩, ⟨(some 123), none, .ld1, [(.t 122)], none⟩, ⟨(some 124), none, .len, [(.t 123)], none⟩, ⟨(some 125), none, (.bin .leq), [(.t 121), (.t 124)], none⟩, ⟨(some 126), none, .mv, [(.t 125)], none⟩, ⟨(some 127), (some (126, true)), .mv, [(.t 19)], none⟩, ⟨(some 128), (some (126, true)), (.bin .leq), [(.t 127), (.c (.lit (.int .i64 14)))], none⟩, ⟨(some 129), none, .pick, [(.t 126), (.t 128), (.c (.lit (.bool false)))], none⟩, ⟨(some 130), none, .mv, [(.t 129)], none⟩, ⟨(some 131), (some (130, true)), .mv, [(.t 18)], none⟩, ⟨(some 132), (some (130, true)), (.bin .eql), [(.t 131), (.c (.lit (.int .i64 0)))], none⟩, ⟨(some 133), none, .pick, [(.t 130), (.t 132), (.c (.lit (.bool false)))], none⟩]) (.cond (.t 133) .skip (.exit 4))) c_theorbolaw01_InstrumentTunesBack_16)
set_option maxRecDepth 100000 in
abbrev c_theorbolaw01_InstrumentTunesBack_18 : VC :=
  (.seq (.ops 0 [⟨(some 145), none, (.call 23), [], none⟩, ⟨(some 6), none, .mv, [(.t 145)], none⟩]) .ret)
set_option maxRecDepth 100000 in
abbrev c_theorbolaw01_InstrumentTunesBack_19 : VC :=
  (.cond (.t 144) c_theorbolaw01_InstrumentTunesBack_18 .skip)
set_option maxRecDepth 100000 in
abbrev c_theorbolaw01_InstrumentTunesBack_20 : VC :=
  (.seq (.ops 0 [⟨(some 153), none, .mv, [(.t 21)], none⟩, ⟨(some 154), none, (.bin .eql), [(.t 153), (.c (.lit (.int .i64 0)))], none⟩, ⟨(some 155), none, .mv, [(.t 154)], none⟩, ⟨(some 156), (some (155, true)), (.ldA 2), [(.t 20)], none⟩, ⟨(some 157), (some (155, true)), (.ldA 2), [(.t 17)], none⟩, ⟨(some 158), (some (155, true)), (.call 39), [(.t 156), (.t 157)], none⟩, ⟨(some 159), none, .pick, [(.t 155), (.t 158), (.c (.lit (.bool false)))], none⟩, ⟨(some 160), none, .mv, [(.t 159)], none⟩, ⟨(some 161), (some (160, true)), (.call 23), [], none⟩, ⟨(some 162), none, .pick, [(.t 160), (.t 161), (.c (.lit (.bool false)))], none⟩, ⟨(some 6), none, .mv, [(.t 162)], none⟩]) .ret)
set_option maxRecDepth 100000 in
abbrev c_theorbolaw01_InstrumentTunesBack_21 : VC :=
  (.seq (.ops 10 [⟨(some 147), none, (.ldA 2), [(.t 3)], none⟩, ⟨(some 148), none, (.call 28), [(.t 147)], none⟩, ⟨(some 149), none, .mv, [(.t 2)], none⟩, ⟨(some 150), none, (.call 47), [(.t 148), (.t 149)], none⟩, ⟨(some 146), none, .mv, [(.t 150)], none⟩, ⟨(some 151), none, (.ext 0), [(.t 146)], none⟩, ⟨(some 152), none, (.ext 1), [(.t 146)], none⟩, ⟨(some 20), none, (.alloc 39 [(.sl 0 [] .exact), (.sl 0 [] .exact)]), [], none⟩, ⟨none, none, (.st 2), [(.t 20), (.t 151)], none⟩, ⟨(some 21), none, .mv, [(.t 152)], none⟩]) c_theorbolaw01_InstrumentTunesBack_20)
set_option maxRecDepth 100000 in
abbrev c_theorbolaw01_InstrumentTunesBack_22 : VC :=
  (.seq (.seq (.ops 0 [⟨(some 143), none, .mv, [(.t 18)], none⟩, ⟨(some 144), none, (.bin .neq), [(.t 143), (.c (.lit (.int .i64 0)))], none⟩]) c_theorbolaw01_InstrumentTunesBack_19) c_theorbolaw01_InstrumentTunesBack_21)
set_option maxRecDepth 100000 in
abbrev c_theorbolaw01_InstrumentTunesBack_23 : VC :=
  (.seq (.seq (.ops 0 [⟨(some 19), none, .mv, [(.c (.lit (.int .i64 1)))], none⟩]) (.block 4 (.loop c_theorbolaw01_InstrumentTunesBack_17))) c_theorbolaw01_InstrumentTunesBack_22)
set_option maxRecDepth 100000 in
abbrev c_theorbolaw01_InstrumentTunesBack_24 : VC :=
  (.seq (.ops 0 [⟨(some 119), none, (.ldA 2), [(.t 17)], none⟩, ⟨(some 120), none, (.call 30), [(.t 119)], none⟩, ⟨(some 18), none, .mv, [(.t 120)], none⟩]) c_theorbolaw01_InstrumentTunesBack_23)
set_option maxRecDepth 100000 in
abbrev c_theorbolaw01_InstrumentTunesBack_25 : VC :=
  (.seq (.ops 4 [⟨(some 117), none, (.ldA 2), [(.t 3)], none⟩, ⟨(some 118), none, (.call 28), [(.t 117)], none⟩, ⟨(some 17), none, (.alloc 39 [(.sl 0 [] .exact), (.sl 0 [] .exact)]), [], none⟩, ⟨none, none, (.st 2), [(.t 17), (.t 118)], none⟩]) c_theorbolaw01_InstrumentTunesBack_24)
set_option maxRecDepth 100000 in
abbrev c_theorbolaw01_InstrumentTunesBack_26 : VC :=
  (.seq (.seq (.ops 0 [⟨(some 33), none, .mv, [(.t 8)], none⟩, ⟨(some 34), none, (.bin .eql), [(.t 33), (.c (.lit (.int .i64 0)))], none⟩]) (.cond (.t 34) c_theorbolaw01_InstrumentTunesBack_14 .skip)) c_theorbolaw01_InstrumentTunesBack_25)
set_option maxRecDepth 100000 in
abbrev c_theorbolaw01_InstrumentTunesBack_27 : VC :=
  (.seq (.ops 11 [⟨(some 26), none, (.ldA 2), [(.t 3)], none⟩, ⟨(some 27), none, (.call 28), [(.t 26)], none⟩, ⟨(some 28), none, .mv, [(.t 1)], none⟩, ⟨(some 29), none, .mv, [(.t 2)], none⟩, ⟨(some 30), none, (.call 45), [(.t 27), (.t 28), (.t 29)], none⟩, ⟨(some 25), none, .mv, [(.t 30)], none⟩, ⟨(some 31), none, (.ext 0), [(.t 25)], none⟩, ⟨(some 32), none, (.ext 1), [(.t 25)], none⟩, ⟨(some 7), none, (.alloc 39 [(.sl 0 [] .exact), (.sl 0 [] .exact)]), [], none⟩, ⟨none, none, (.st 2), [(.t 7), (.t 31)], none⟩, ⟨(some 8), none, .mv, [(.t 32)], none⟩]) c_theorbolaw01_InstrumentTunesBack_26)
set_option maxRecDepth 100000 in
abbrev c_theorbolaw01_InstrumentTunesBack_28 : VC :=
  (.seq (.seq (.ops 0 [⟨(some 22), none, (.ldA 2), [(.t 3)], none⟩, ⟨(some 23), none, (.call 26), [(.t 22)], none⟩]) (.cond (.t 23) c_theorbolaw01_InstrumentTunesBack_1 .skip)) c_theorbolaw01_InstrumentTunesBack_27)
set_option maxRecDepth 100000 in
def c_theorbolaw01_InstrumentTunesBack : VC :=
  (.seq (.ops 2 [⟨(some 3), none, (.box 39), [(.t 0)], none⟩, ⟨(some 6), none, .mv, [(.c (.lit (.bool false)))], none⟩]) c_theorbolaw01_InstrumentTunesBack_28)
set_option maxRecDepth 100000 in
theorem k_theorbolaw01_InstrumentTunesBack : Comp Tryd.prog nobx gtab 15 163 c_theorbolaw01_InstrumentTunesBack [(.t 6)] := ⟨⟨Tryd.f15, _, Tryd.func15, rfl, rfl, by kernel_rfl, by kernel_rfl⟩⟩
set_option maxRecDepth 100000 in
abbrev c_theorbolaw01_InstrumentFinds_1 : VC :=
  (.seq (.ops 0 [⟨(some 14), none, (.call 23), [], none⟩, ⟨(some 4), none, .mv, [(.t 14)], none⟩]) .ret)
set_option maxRecDepth 100000 in
abbrev c_theorbolaw01_InstrumentFinds_2 : VC :=
  (.seq (.ops 0 [⟨(some 24), none, (.ldA 2), [(.t 2)], none⟩, ⟨(some 25), none, (.call 31), [(.t 24)], none⟩, ⟨(some 26), none, (.bin .neq), [(.t 25), (.c (.lit (.int .i64 0)))], none⟩, ⟨(some 27), none, .mv, [(.t 26)], none⟩, ⟨(some 28), (some (27, false)), (.fldA 0), [(.t 3)], none⟩, ⟨(some 29), (some (27, false)), .ld1, [(.t 28)], none⟩, ⟨(some 30), (some (27, false)), (.bin .lss), [(.t 29), (.c (.lit (.int .i64 1)))], none⟩, ⟨(some 31), none, .pick, [(.t 27), (.c (.lit (.bool true))), (.t 30)], none⟩, ⟨(some 32), none, .mv, [(.t 31)], none⟩, ⟨(some 33), (some (32, false)), (.fldA 0), [(.t 3)], none⟩, ⟨(some 34), (some (32, false)), .ld1, [(.t 33)], (some [0, 1, 2, 3, 4, 5, 6, 7, 8, 9])⟩, ⟨(some 35), (some (32, false)), (.fldA 0), [(.t 2)], none⟩, ⟨(some 36), (some (32, false)), .ld1, [(.t 35)], (some [0, 1, 2, 3, 4, 5, 6, 7, 8, 11])⟩, ⟨(some 37), (some (32, false)), .len, [(.t 36)], none⟩, ⟨(some 38), (some (32, false)), (.bin .gtr), [(.t 34), (.t 37)], none⟩, ⟨(some 39), none, .pick, [(.t 32), (.c (.lit (.bool true))), (.t 38)], none⟩, ⟨(some 40), none, .mv, [(.t 39)], none⟩, ⟨(some 41), (some (40, false)), (.fldA 1), [(.t 3)], none⟩, ⟨(some 42), (some (40, false)), .ld1, [(.t 41)], none⟩, ⟨(some 43), (some (40, false)), (.bin .lss), [(.t 42), (.c (.lit (.int .i64 0)))], none⟩, ⟨(some 44), none, .pick, [(.t 40), (.c (.lit (.bool true))), (.t 43)], none⟩, ⟨(some 45), none, .mv, [(.t 44)], none⟩, ⟨(some 46), (some (45, false)), (.fldA 1), [(.t 3)], none⟩, ⟨(some 47), (some (45, false)), .ld1, [(.t 46)], (some [0, 1, 2, 3, 4, 5, 6, 7, 8, 9, 10, 11, 12, 13, 14, 15, 16, 17, 18, 19, 20, 21, 22])⟩, ⟨(some 48), (some (45, false)), (.fldA 0), [(.t 2)], none⟩, ⟨(some 49), (some (45, false)), .ld1, [(.t 48)], (some [0, 1, 2, 3, 4, 5, 6, 7, 8, 9, 10, 11, 12, 13, 14, 15, 16, 17, 18, 19, 20, 21, 24])⟩, ⟨(some 50), (some (45, false)), (.fldA 0), [(.t 3)], none⟩, ⟨(some 51), (some (45, false)), .ld1, [(.t 50)], (some [0, 1, 2, 3, 4, 5, 6, 7, 8, 9, 10, 11, 12, 13, 14, 15, 16, 17, 18, 19, 20, 21, 26])⟩, ⟨(some 52), (some (45, false)), (.bin .sub), [(.t 51), (.c (.lit (.int .i64 1)))], none⟩, ⟨(some 53), (some (45, false)), (.ixA 3), [(.t 49), (.t 52)], none⟩, ⟨(some 54), (some (45, false)), (.fldA 1), [(.t 53)], none⟩, ⟨(some 55), (some (45, false)), .ld1, [(.t 54)], (some [0, 1, 2, 3, 4, 5, 6, 7, 8, 9, 10, 11, 12, 13, 14, 15, 16, 17, 18, 19, 20, 21, 24, 25, 26, 27, 28, 29, 30])⟩, ⟨(some 56), (some (45, false)), (.bin .gtr), [(.t 47), (.t 55)], none⟩, ⟨(some 57), none, .pick, [(.t 45), (.c (.lit (.bool true))), (.t 56)], none⟩, ⟨(some 58), none, .mv, [(.t 57)], none⟩, ⟨(some 59), (some (58, true)), (.call 23), [], none⟩, ⟨(some 60), none, .pick, [(.t 58), (.t 59), (.c (.lit (.bool false)))], none⟩, ⟨(some 4), none, .mv, [(.t 60)], none⟩]) .ret)
set_option maxRecDepth 100000 in
abbrev c_theorbolaw01_InstrumentFinds_3 : VC :=
  (.seq (.ops 0 [⟨(some 4), none, .mv, [(.c (.lit (.bool false)))], none⟩]) .ret)
set_option maxRecDepth 100000 in
abbrev c_theorbolaw01_InstrumentFinds_4 : VC :=
  (.ops 0 [⟨(some 109), none, .mv, [(.t 8)], none⟩, ⟨(some 110), none, .mv, [(.t 109)], none⟩, ⟨(some 111), (some (110, false)), .mv, [(.t 7)], none⟩, ⟨(some 112), (some (110, false)), .mv, [(.t 9)], none⟩, ⟨(some 113), (some (110, false)), (.ixA 2), [(.t 111), (.t 112)], none⟩, ⟨(some 114), (some (110, false)), (.ldA 2), [(.t 113)], (some [0, 1, 2, 3, 4])⟩, ⟨(some 115), (some (110, false)), (.ldA 2), [(.t 3)], (some [0, 1])⟩, ⟨(some 116), (some (110, false)), (.eqP [(0, 0), (1, 0)] false), [(.t 114), (.t 115)], none⟩, ⟨(some 117), none, .pick, [(.t 110), (.c (.lit (.bool true))), (.t 116)], none⟩, ⟨(some 8), none, .mv, [(.t 117)], none⟩])
set_option maxRecDepth 100000 in
abbrev c_theorbolaw01_InstrumentFinds_5 : VC :=
  (.seq (.seq (.ops 0 [⟨(some 84), none, .mv, [(.t 10)], none⟩, ⟨(some 85), none, .mv, [(.t 5)], none⟩, ⟨(some 86), none, (.bin .neq), [(.t 84), (.t 85)], none⟩, ⟨(some 87), none, .mv, [(.t 86)], none⟩, ⟨(some 88), (some (87, false)), .mv, [(.t 11)], none⟩, ⟨(some 89), (some (87, false)), (.bin .neq), [(.t 88), (.c (.lit (.int .i64 0)))], none⟩, ⟨(some 90), none, .pick, [(.t 87), (.c (.lit (.bool true))), (.t 89)], none⟩, ⟨(some 91), none, .mv, [(.t 90)], none⟩, ⟨(some 92), (some (91, false)), .mv, [(.t 9)], none⟩, ⟨(some 93), (some (91, false)), (.bin .gtr), [(.t 92), (.c (.lit (.int .i64 0)))], none⟩, ⟨(some 94), (some (91, false)), .mv, [(.t 93)], none⟩, ⟨(some 95), (some (94, true)), .mv, [(.t 7)], none⟩, ⟨(some 96), (some (94, true)), .mv, [(.t 9)], none⟩, ⟨(some 97), (some (94, true)), (.ixA 2), [(.t 95), (.t 96)], none⟩, ⟨(some 98), (some (94, true)), (.fldA 0), [(.t 97)], none⟩, ⟨(some 99), (some (94, true)), .ld1, [(.t 98)], (some [0, 1, 2, 3, 4, 5, 6, 7, 8, 9, 10, 11, 12, 13, 14])⟩, ⟨(some 100), (some (94, true)), .mv, [(.t 7)], none⟩, ⟨(some 101), (some (94, true)), .mv, [(.t 9)], none⟩, ⟨(some 102), (some (94, true)), (.bin .sub), [(.t 101), (.c (.lit (.int .i64 1)))], none⟩, ⟨(some 103), (some (94, true)), (.ixA 2), [(.t 100), (.t 102)], none⟩, ⟨(some 104), (some (94, true)), (.fldA 0), [(.t 103)], none⟩, ⟨(some 105), (some (94, true)), .ld1, [(.t 104)], (some [0, 1, 2, 3, 4, 5, 6, 7, 8, 9, 10, 16, 17, 18, 19, 20])⟩, ⟨(some 106), (some (94, true)), (.bin .leq), [(.t 99), (.t 105)], none⟩, ⟨(some 107), (some (91, false)), .pick, [(.t 94), (.t 106), (.c (.lit (.bool false)))], none⟩, ⟨(some 108), none, .pick, [(.t 91), (.c (.lit (.bool true))), (.t 107)], none⟩]) (.cond (.t 108) c_theorbolaw01_InstrumentFinds_3 .skip)) c_theorbolaw01_InstrumentFinds_4)
set_option maxRecDepth 100000 in
abbrev c_theorbolaw01_InstrumentFinds_6 : VC :=
  (.ops 0 [⟨(some 72), none, .mv, [(.t 9)], none⟩, ⟨(some 73), none, (.bin .add), [(.t 72), (.c (.lit (.int .i64 1)))], none⟩, ⟨(some 9), none, .mv, [(.t 73)], none⟩])
set_option maxRecDepth 100000 in
abbrev c_theorbolaw01_InstrumentFinds_7 : VC :=
  (.seq (.block 1 (.seq (.ops 0 [⟨(some 75), none, (.ldA 2), [(.t 2)], (some [])⟩, ⟨(some 76), none, (.call 28), [(.t 75)], (some [0])⟩, ⟨(some 77), none, .mv, [(.t 7)], none⟩, ⟨(some 78), none, .mv, [(.t 9)], none⟩, ⟨(some 79), none, (.ixA 2), [(.t 77), (.t 78)], none⟩, ⟨(some 80), none, (.ldA 2), [(.t 79)], (some [2, 3, 4])⟩, ⟨(some 81), none, (.call 27), [(.t 76), (.t 80)], none⟩, ⟨(some 74), none, .mv, [(.t 81)], none⟩, ⟨(some 82), none, (.ext 0), [(.t 74)], none⟩, ⟨(some 83), none, (.ext 1), [(.t 74)], none⟩, ⟨(some 10), none, .mv, [(.t 82)], none⟩, ⟨(some 11), none, .mv, [(.t 83)], none⟩]) c_theorbolaw01_InstrumentFinds_5)) c_theorbolaw01_InstrumentFinds_6)
set_option maxRecDepth 100000 in
abbrev c_theorbolaw01_InstrumentFinds_8 : VC :=
  (.seq (.seq (.ops 0 [⟨(some 68), none, .mv, [(.t 9)], none⟩, ⟨(some 69), none, .mv, [(.t 7)], none⟩, ⟨(some 70), none, .len, [(.t 69)], none⟩, ⟨(some 71), none, (.bin .lss), [(.t 68), (.t 70)], none⟩]) (.cond (.t 71) .skip (.exit 0))) c_theorbolaw01_InstrumentFinds_7)
set_option maxRecDepth 100000 in
abbrev c_theorbolaw01_InstrumentFinds_9 : VC :=
  (.seq (.ops 0 [⟨(some 118), none, .mv, [(.t 6)], none⟩, ⟨(some 119), none, (.bin .eql), [(.t 118), (.c (.lit (.int .i64 0)))], none⟩, ⟨(some 120), none, .mv, [(.t 119)], none⟩, ⟨(some 121), (some (120, true)), .mv, [(.t 8)], none⟩, ⟨(some 122), none, .pick, [(.t 120), (.t 121), (.c (.lit (.bool false)))], none⟩, ⟨(some 123), none, .mv, [(.t 122)], none⟩, ⟨(some 124), (some (123, true)), (.call 23), [], none⟩, ⟨(some 125), none, .pick, [(.t 123), (.t 124), (.c (.lit (.bool false)))], none⟩, ⟨(some 4), none, .mv, [(.t 125)], none⟩]) .ret)
set_option maxRecDepth 100000 in
abbrev c_theorbolaw01_InstrumentFinds_10 : VC :=
  (.seq (.seq (.ops 0 [⟨(some 9), none, .mv, [(.c (.lit (.int .i64 0)))], none⟩]) (.block 0 (.loop c_theorbolaw01_InstrumentFinds_8))) c_theorbolaw01_InstrumentFinds_9)
set_option maxRecDepth 100000 in
abbrev c_theorbolaw01_InstrumentFinds_11 : VC :=
  (.seq (.ops 0 [⟨(some 8), none, .mv, [(.c (.lit (.bool false)))], none⟩]) c_theorbolaw01_InstrumentFinds_10)
set_option maxRecDepth 100000 in
abbrev c_theorbolaw01_InstrumentFinds_12 : VC :=
  (.seq (.ops 0 [⟨(some 62), none, (.ldA 2), [(.t 2)], none⟩, ⟨(some 63), none, (.call 28), [(.t 62)], none⟩, ⟨(some 64), none, .mv, [(.t 5)], none⟩, ⟨(some 65), none, (.call 40), [(.t 63), (.t 64)], none⟩, ⟨(some 61), none, .mv, [(.t 65)], none⟩, ⟨(some 66), none, (.ext 0), [(.t 61)], none⟩, ⟨(some 67), none, (.ext 1), [(.t 61)], none⟩, ⟨(some 7), none, .mv, [(.t 66)], none⟩, ⟨(some 6), none, .mv, [(.t 67)], none⟩]) c_theorbolaw01_InstrumentFinds_11)
set_option maxRecDepth 100000 in
abbrev c_theorbolaw01_InstrumentFinds_13 : VC :=
  (.seq (.seq (.ops 0 [⟨(some 22), none, .mv, [(.t 6)], none⟩, ⟨(some 23), none, (.bin .neq), [(.t 22), (.c (.lit (.int .i64 0)))], none⟩]) (.cond (.t 23) c_theorbolaw01_InstrumentFinds_2 .skip)) c_theorbolaw01_InstrumentFinds_12)
set_option maxRecDepth 100000 in
abbrev c_theorbolaw01_InstrumentFinds_14 : VC :=
  (.seq (.ops 0 [⟨(some 16), none, (.ldA 2), [(.t 2)], (some [])⟩, ⟨(some 17), none, (.call 28), [(.t 16)], (some [0])⟩, ⟨(some 18), none, (.ldA 2), [(.t 3)], (some [])⟩, ⟨(some 19), none, (.call 27), [(.t 17), (.t 18)], none⟩, ⟨(some 15), none, .mv, [(.t 19)], none⟩, ⟨(some 20), none, (.ext 0), [(.t 15)], none⟩, ⟨(some 21), none, (.ext 1), [(.t 15)], none⟩, ⟨(some 5), none, .mv, [(.t 20)], none⟩, ⟨(some 6), none, .mv, [(.t 21)], none⟩]) c_theorbolaw01_InstrumentFinds_13)
set_option maxRecDepth 100000 in
abbrev c_theorbolaw01_InstrumentFinds_15 : VC :=
  (.seq (.seq (.ops 0 [⟨(some 12), none, (.ldA 2), [(.t 2)], none⟩, ⟨(some 13), none, (.call 26), [(.t 12)], none⟩]) (.cond (.t 13) c_theorbolaw01_InstrumentFinds_1 .skip)) c_theorbolaw01_InstrumentFinds_14)
set_option maxRecDepth 100000 in
def c_theorbolaw01_InstrumentFinds : VC :=
  (.seq (.ops 3 [⟨(some 2), none, (.box 39), [(.t 0)], none⟩, ⟨(some 3), none, (.box 41), [(.t 1)], none⟩, ⟨(some 4), none, .mv, [(.c (.lit (.bool false)))], none⟩]) c_theorbolaw01_InstrumentFinds_15)
set_option maxRecDepth 100000 in
theorem k_theorbolaw01_InstrumentFinds : Comp Tryd.prog nobx gtab 10 126 c_theorbolaw01_InstrumentFinds [(.t 4)] := ⟨⟨Tryd.f10, _, Tryd.func10, rfl, rfl, by kernel_rfl, by kernel_rfl⟩⟩
end Go.Proofs.YtbdhjpdjbogggaaDoor
