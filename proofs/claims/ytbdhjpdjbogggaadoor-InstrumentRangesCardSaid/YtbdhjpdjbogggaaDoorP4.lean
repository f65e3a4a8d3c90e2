/- Functions of the program, as code on values by numbers: printed by a program from the program that was given, and held against it here. -/
import Derived.Test.YtbdhjpdjbogggaaDoorG0
namespace Go.Proofs.YtbdhjpdjbogggaaDoor
open Go.RowKit

set_option maxRecDepth 100000 in
abbrev c_instrument_Places_p1 : VC :=
  (.seq (.ops 0 [⟨(some 15), none, .mv, [(.t 6)], none⟩, ⟨(some 4), none, .mv, [(.c (.sl 0 [] .exact))], none⟩, ⟨(some 5), none, .mv, [(.t 15)], none⟩]) .ret)
set_option maxRecDepth 100000 in
abbrev c_instrument_Places_p2 : VC :=
  (.seq (.ops 0 [⟨(some 13), none, .mv, [(.t 6)], none⟩, ⟨(some 14), none, (.bin .neq), [(.t 13), (.c (.lit (.int .i64 0)))], none⟩]) (.cond (.t 14) c_instrument_Places_p1 .skip))
set_option maxRecDepth 100000 in
abbrev c_instrument_Places_p3 : VC :=
  (.seq (.ops 0 [⟨(some 4), none, .mv, [(.c (.sl 0 [] .exact))], none⟩, ⟨(some 5), none, .mv, [(.c (.lit (.int .i64 10)))], none⟩]) .ret)
set_option maxRecDepth 100000 in
abbrev c_instrument_Places_p4 : VC :=
  (.ops 8 [⟨(some 42), none, .mv, [(.t 7)], none⟩, ⟨(some 43), none, .mv, [(.t 8)], none⟩, ⟨(some 44), none, (.bin .add), [(.t 43), (.c (.lit (.int .i64 1)))], none⟩, ⟨(some 45), none, .mv, [(.t 10)], none⟩, ⟨(some 46), none, (.build [(.lit (.int .i64 0)), (.lit (.int .i64 0))] [(0, 1), (1, 1)]), [(.t 44), (.t 45)], none⟩, ⟨(some 47), none, (.mksl 1 2 [(.lit (.int .i64 0)), (.lit (.int .i64 0))] [(0, 2)]), [(.t 46)], none⟩, ⟨(some 48), none, (.app 41 2 16), [(.t 42), (.t 47)], none⟩, ⟨(some 7), none, .mv, [(.t 48)], none⟩])
set_option maxRecDepth 100000 in
abbrev c_instrument_Places_p5 : VC :=
  (.ops 0 [⟨(some 34), none, .mv, [(.t 10)], none⟩, ⟨(some 35), none, (.bin .add), [(.t 34), (.c (.lit (.int .i64 1)))], none⟩, ⟨(some 10), none, .mv, [(.t 35)], none⟩])
set_option maxRecDepth 100000 in
abbrev c_instrument_Places_p6 : VC :=
  (.seq (.block 3 (.seq (.ops 0 [⟨(some 36), none, (.ldA 2), [(.t 2)], none⟩, ⟨(some 37), none, (.ldA 3), [(.t 9)], none⟩, ⟨(some 38), none, .mv, [(.t 10)], none⟩, ⟨(some 39), none, (.call 67), [(.t 36), (.t 37), (.t 38)], none⟩, ⟨(some 40), none, .mv, [(.t 1)], none⟩, ⟨(some 41), none, (.bin .eql), [(.t 39), (.t 40)], none⟩]) (.cond (.t 41) c_instrument_Places_p4 .skip))) c_instrument_Places_p5)
set_option maxRecDepth 100000 in
abbrev c_instrument_Places_p7 : VC :=
  (.seq (.seq (.ops 0 [⟨(some 30), none, .mv, [(.t 10)], none⟩, ⟨(some 31), none, (.fldA 1), [(.t 9)], none⟩, ⟨(some 32), none, .ld1, [(.t 31)], none⟩, ⟨(some 33), none, (.bin .leq), [(.t 30), (.t 32)], none⟩]) (.cond (.t 33) .skip (.exit 2))) c_instrument_Places_p6)
set_option maxRecDepth 100000 in
abbrev c_instrument_Places_p8 : VC :=
  (.seq (.ops 0 [⟨(some 10), none, .mv, [(.c (.lit (.int .i64 0)))], none⟩]) (.block 2 (.loop c_instrument_Places_p7)))
set_option maxRecDepth 100000 in
abbrev c_instrument_Places_p9 : VC :=
  (.ops 0 [⟨(some 49), none, (.bin .add), [(.t 25), (.c (.lit (.int .i64 1)))], none⟩, ⟨(some 25), none, .mv, [(.t 49)], none⟩])
set_option maxRecDepth 100000 in
abbrev c_instrument_Places_p10 : VC :=
  (.seq (.block 1 (.seq (.ops 6 [⟨(some 27), none, .mv, [(.t 25)], none⟩, ⟨(some 28), none, (.ixA 3), [(.t 23), (.t 25)], none⟩, ⟨(some 29), none, (.ldA 3), [(.t 28)], none⟩, ⟨(some 9), none, (.alloc 59 [(.lit (.int .i64 0)), (.lit (.int .i64 0)), (.lit (.bool false))]), [], none⟩, ⟨(some 8), none, .mv, [(.t 27)], none⟩, ⟨none, none, (.st 3), [(.t 9), (.t 29)], none⟩]) c_instrument_Places_p8)) c_instrument_Places_p9)
set_option maxRecDepth 100000 in
abbrev c_instrument_Places_p11 : VC :=
  (.seq (.cond (.t 26) .skip (.exit 0)) c_instrument_Places_p10)
set_option maxRecDepth 100000 in
abbrev c_instrument_Places_p12 : VC :=
  (.seq (.ops 0 [⟨(some 26), none, (.bin .lss), [(.t 25), (.t 24)], none⟩]) c_instrument_Places_p11)
set_option maxRecDepth 100000 in
abbrev c_instrument_Places_p13 : VC :=
  (.seq (.ops 0 [⟨(some 50), none, .mv, [(.t 7)], none⟩, ⟨(some 4), none, .mv, [(.t 50)], none⟩, ⟨(some 5), none, .mv, [(.c (.lit (.int .i64 0)))], none⟩]) .ret)
set_option maxRecDepth 100000 in
abbrev c_instrument_Places_p14 : VC :=
  (.seq (.seq (.ops 0 [⟨(some 22), none, (.fldA 0), [(.t 2)], none⟩, ⟨(some 23), none, .ld1, [(.t 22)], none⟩, ⟨(some 24), none, .len, [(.t 23)], none⟩, ⟨(some 25), none, .mv, [(.c (.lit (.int .i64 0)))], none⟩]) (.block 0 (.loop c_instrument_Places_p12))) c_instrument_Places_p13)
set_option maxRecDepth 100000 in
abbrev c_instrument_Places_p15 : VC :=
  (.seq (.ops 0 [⟨(some 7), none, .mv, [(.c (.sl 0 [] .exact))], none⟩]) c_instrument_Places_p14)
set_option maxRecDepth 100000 in
abbrev c_instrument_Places_p16 : VC :=
  (.seq (.seq (.ops 0 [⟨(some 16), none, .mv, [(.t 1)], none⟩, ⟨(some 17), none, (.bin .lss), [(.t 16), (.c (.lit (.int .i64 0)))], none⟩, ⟨(some 18), none, .mv, [(.t 17)], none⟩, ⟨(some 19), (some (18, false)), .mv, [(.t 1)], none⟩, ⟨(some 20), (some (18, false)), (.bin .gtr), [(.t 19), (.c (.lit (.int .i64 127)))], none⟩, ⟨(some 21), none, .pick, [(.t 18), (.c (.lit (.bool true))), (.t 20)], none⟩]) (.cond (.t 21) c_instrument_Places_p3 .skip)) c_instrument_Places_p15)
set_option maxRecDepth 100000 in
abbrev c_instrument_Places_p17 : VC :=
  (.seq (.seq (.ops 0 [⟨(some 11), none, (.ldA 2), [(.t 2)], none⟩, ⟨(some 12), none, (.call 30), [(.t 11)], none⟩, ⟨(some 6), none, .mv, [(.t 12)], none⟩]) c_instrument_Places_p2) c_instrument_Places_p16)
set_option maxRecDepth 100000 in
def c_instrument_Places : VC :=
  (.seq (.ops 3 [⟨(some 2), none, (.box 39), [(.t 0)], none⟩, ⟨(some 4), none, .mv, [(.c (.sl 0 [] .exact))], none⟩, ⟨(some 5), none, .mv, [(.c (.lit (.int .i64 0)))], none⟩]) c_instrument_Places_p17)
set_option maxRecDepth 100000 in
theorem k_instrument_Places : Comp Tryd.prog nobx gtab 40 51 c_instrument_Places [(.t 4), (.t 5)] := ⟨⟨Tryd.f40, _, Tryd.func40, rfl, rfl, by kernel_rfl, by kernel_rfl⟩⟩
set_option maxRecDepth 100000 in
abbrev c_instrument_Compass_p1 : VC :=
  (.seq (.ops 0 [⟨(some 12), none, .mv, [(.t 5)], none⟩, ⟨(some 2), none, .mv, [(.c (.lit (.int .i64 0)))], none⟩, ⟨(some 3), none, .mv, [(.c (.lit (.int .i64 0)))], none⟩, ⟨(some 4), none, .mv, [(.t 12)], none⟩]) .ret)
set_option maxRecDepth 100000 in
abbrev c_instrument_Compass_p2 : VC :=
  (.seq (.ops 0 [⟨(some 10), none, .mv, [(.t 5)], none⟩, ⟨(some 11), none, (.bin .neq), [(.t 10), (.c (.lit (.int .i64 0)))], none⟩]) (.cond (.t 11) c_instrument_Compass_p1 .skip))
set_option maxRecDepth 100000 in
abbrev c_instrument_Compass_p3 : VC :=
  (.ops 0 [⟨(some 24), none, .mv, [(.t 3)], none⟩, ⟨(some 25), none, (.ldA 2), [(.t 1)], none⟩, ⟨(some 26), none, (.ldA 3), [(.t 7)], none⟩, ⟨(some 27), none, (.fldA 1), [(.t 7)], none⟩, ⟨(some 28), none, .ld1, [(.t 27)], none⟩, ⟨(some 29), none, (.call 67), [(.t 25), (.t 26), (.t 28)], none⟩, ⟨(some 30), none, .mx, [(.t 24), (.t 29)], none⟩, ⟨(some 3), none, .mv, [(.t 30)], none⟩])
set_option maxRecDepth 100000 in
abbrev c_instrument_Compass_p4 : VC :=
  (.seq (.ops 0 [⟨(some 20), none, .mv, [(.t 2)], none⟩, ⟨(some 21), none, (.fldA 0), [(.t 7)], none⟩, ⟨(some 22), none, .ld1, [(.t 21)], none⟩, ⟨(some 23), none, .mn, [(.t 20), (.t 22)], none⟩, ⟨(some 2), none, .mv, [(.t 23)], none⟩]) c_instrument_Compass_p3)
set_option maxRecDepth 100000 in
abbrev c_instrument_Compass_p5 : VC :=
  (.ops 0 [⟨(some 31), none, (.bin .add), [(.t 16), (.c (.lit (.int .i64 1)))], none⟩, ⟨(some 16), none, .mv, [(.t 31)], none⟩])
set_option maxRecDepth 100000 in
abbrev c_instrument_Compass_p6 : VC :=
  (.seq (.block 1 (.seq (.ops 4 [⟨(some 18), none, (.ixA 3), [(.t 14), (.t 16)], none⟩, ⟨(some 19), none, (.ldA 3), [(.t 18)], none⟩, ⟨(some 7), none, (.alloc 59 [(.lit (.int .i64 0)), (.lit (.int .i64 0)), (.lit (.bool false))]), [], none⟩, ⟨none, none, (.st 3), [(.t 7), (.t 19)], none⟩]) c_instrument_Compass_p4)) c_instrument_Compass_p5)
set_option maxRecDepth 100000 in
abbrev c_instrument_Compass_p7 : VC :=
  (.seq (.cond (.t 17) .skip (.exit 0)) c_instrument_Compass_p6)
set_option maxRecDepth 100000 in
abbrev c_instrument_Compass_p8 : VC :=
  (.seq (.ops 0 [⟨(some 17), none, (.bin .lss), [(.t 16), (.t 15)], none⟩]) c_instrument_Compass_p7)
set_option maxRecDepth 100000 in
abbrev c_instrument_Compass_p9 : VC :=
  (.seq (.ops 0 [⟨(some 32), none, .mv, [(.t 2)], none⟩, ⟨(some 33), none, .mv, [(.t 3)], none⟩, ⟨(some 2), none, .mv, [(.t 32)], none⟩, ⟨(some 3), none, .mv, [(.t 33)], none⟩, ⟨(some 4), none, .mv, [(.c (.lit (.int .i64 0)))], none⟩]) .ret)
set_option maxRecDepth 100000 in
abbrev c_instrument_Compass_p10 : VC :=
  (.seq (.seq (.ops 0 [⟨(some 13), none, (.fldA 0), [(.t 1)], none⟩, ⟨(some 14), none, .ld1, [(.t 13)], none⟩, ⟨(some 15), none, .len, [(.t 14)], none⟩, ⟨(some 16), none, .mv, [(.c (.lit (.int .i64 0)))], none⟩]) (.block 0 (.loop c_instrument_Compass_p8))) c_instrument_Compass_p9)
set_option maxRecDepth 100000 in
abbrev c_instrument_Compass_p11 : VC :=
  (.seq (.ops 0 [⟨(some 2), none, .mv, [(.c (.lit (.int .i64 127)))], none⟩]) c_instrument_Compass_p10)
set_option maxRecDepth 100000 in
abbrev c_instrument_Compass_p12 : VC :=
  (.seq (.seq (.ops 0 [⟨(some 8), none, (.ldA 2), [(.t 1)], none⟩, ⟨(some 9), none, (.call 30), [(.t 8)], none⟩, ⟨(some 5), none, .mv, [(.t 9)], none⟩]) c_instrument_Compass_p2) c_instrument_Compass_p11)
set_option maxRecDepth 100000 in
def c_instrument_Compass : VC :=
  (.seq (.ops 4 [⟨(some 1), none, (.box 39), [(.t 0)], none⟩, ⟨(some 2), none, .mv, [(.c (.lit (.int .i64 0)))], none⟩, ⟨(some 3), none, .mv, [(.c (.lit (.int .i64 0)))], none⟩, ⟨(some 4), none, .mv, [(.c (.lit (.int .i64 0)))], none⟩]) c_instrument_Compass_p12)
set_option maxRecDepth 100000 in
theorem k_instrument_Compass : Comp Tryd.prog nobx gtab 49 34 c_instrument_Compass [(.t 2), (.t 3), (.t 4)] := ⟨⟨Tryd.f49, _, Tryd.func49, rfl, rfl, by kernel_rfl, by kernel_rfl⟩⟩
set_option maxRecDepth 100000 in
abbrev c_theorboref01_Compass_p1 : VC :=
  (.seq (.ops 0 [⟨(some 14), none, .mv, [(.t 5)], none⟩, ⟨(some 2), none, .mv, [(.c (.lit (.int .i64 0)))], none⟩, ⟨(some 3), none, .mv, [(.c (.lit (.int .i64 0)))], none⟩, ⟨(some 4), none, .mv, [(.t 14)], none⟩]) .ret)
set_option maxRecDepth 100000 in
abbrev c_theorboref01_Compass_p2 : VC :=
  (.ops 0 [⟨(some 40), none, .mv, [(.t 7)], none⟩, ⟨(some 41), none, (.ldA 2), [(.t 1)], none⟩, ⟨(some 42), none, .mv, [(.t 8)], none⟩, ⟨(some 43), none, .mv, [(.t 9)], none⟩, ⟨(some 44), none, (.build [(.lit (.int .i64 0)), (.lit (.int .i64 0))] [(0, 1), (1, 1)]), [(.t 42), (.t 43)], none⟩, ⟨(some 45), none, (.call 68), [(.t 41), (.t 44)], none⟩, ⟨(some 46), none, .mx, [(.t 40), (.t 45)], none⟩, ⟨(some 7), none, .mv, [(.t 46)], none⟩])
set_option maxRecDepth 100000 in
abbrev c_theorboref01_Compass_p3 : VC :=
  (.ops 0 [⟨(some 31), none, .mv, [(.t 9)], none⟩, ⟨(some 32), none, (.bin .add), [(.t 31), (.c (.lit (.int .i64 1)))], none⟩, ⟨(some 9), none, .mv, [(.t 32)], none⟩])
set_option maxRecDepth 100000 in
abbrev c_theorboref01_Compass_p4 : VC :=
  (.seq (.block 3 (.seq (.ops 0 [⟨(some 33), none, .mv, [(.t 6)], none⟩, ⟨(some 34), none, (.ldA 2), [(.t 1)], none⟩, ⟨(some 35), none, .mv, [(.t 8)], none⟩, ⟨(some 36), none, .mv, [(.t 9)], none⟩, ⟨(some 37), none, (.build [(.lit (.int .i64 0)), (.lit (.int .i64 0))] [(0, 1), (1, 1)]), [(.t 35), (.t 36)], none⟩, ⟨(some 38), none, (.call 68), [(.t 34), (.t 37)], none⟩, ⟨(some 39), none, .mn, [(.t 33), (.t 38)], none⟩, ⟨(some 6), none, .mv, [(.t 39)], none⟩]) c_theorboref01_Compass_p2)) c_theorboref01_Compass_p3)
set_option maxRecDepth 100000 in
abbrev c_theorboref01_Compass_p5 : VC :=
  (.seq (.seq (.ops 0 [⟨(some 22), none, .mv, [(.t 9)], none⟩, ⟨(some 23), none, (.fldA 0), [(.t 1)], none⟩, ⟨(some 24), none, .ld1, [(.t 23)], none⟩, ⟨(some 25), none, .mv, [(.t 8)], none⟩, ⟨(some 26), none, (.bin .sub), [(.t 25), (.c (.lit (.int .i64 1)))], none⟩, ⟨(some 27), none, (.ixA 3), [(.t 24), (.t 26)], none⟩, ⟨(some 28), none, (.fldA 1), [(.t 27)], none⟩, ⟨(some 29), none, .ld1, [(.t 28)], none⟩, ⟨(some 30), none, (.bin .leq), [(.t 22), (.t 29)], none⟩]) (.cond (.t 30) .skip (.exit 2))) c_theorboref01_Compass_p4)
set_option maxRecDepth 100000 in
abbrev c_theorboref01_Compass_p6 : VC :=
  (.ops 0 [⟨(some 20), none, .mv, [(.t 8)], none⟩, ⟨(some 21), none, (.bin .add), [(.t 20), (.c (.lit (.int .i64 1)))], none⟩, ⟨(some 8), none, .mv, [(.t 21)], none⟩])
set_option maxRecDepth 100000 in
abbrev c_theorboref01_Compass_p7 : VC :=
  (.seq (.block 1 (.seq (.ops 0 [⟨(some 9), none, .mv, [(.c (.lit (.int .i64 0)))], none⟩]) (.block 2 (.loop c_theorboref01_Compass_p5)))) c_theorboref01_Compass_p6)
set_option maxRecDepth 100000 in
abbrev c_theorboref01_Compass_p8 : VC :=
  (.seq (.seq (.ops 0 [⟨(some 15), none, .mv, [(.t 8)], none⟩, ⟨(some 16), none, (.fldA 0), [(.t 1)], none⟩, ⟨(some 17), none, .ld1, [(.t 16)], none⟩, ⟨(some 18), none, .len, [(.t 17)], none⟩, ⟨(some 19), none, (.bin .leq), [(.t 15), (.t 18)], none⟩]) (.cond (.t 19) .skip (.exit 0))) c_theorboref01_Compass_p7)
set_option maxRecDepth 100000 in
abbrev c_theorboref01_Compass_p9 : VC :=
  (.seq (.ops 0 [⟨(some 47), none, .mv, [(.t 6)], none⟩, ⟨(some 48), none, .mv, [(.t 7)], none⟩, ⟨(some 2), none, .mv, [(.t 47)], none⟩, ⟨(some 3), none, .mv, [(.t 48)], none⟩, ⟨(some 4), none, .mv, [(.c (.lit (.int .i64 0)))], none⟩]) .ret)
set_option maxRecDepth 100000 in
abbrev c_theorboref01_Compass_p10 : VC :=
  (.seq (.seq (.ops 0 [⟨(some 8), none, .mv, [(.c (.lit (.int .i64 1)))], none⟩]) (.block 0 (.loop c_theorboref01_Compass_p8))) c_theorboref01_Compass_p9)
set_option maxRecDepth 100000 in
abbrev c_theorboref01_Compass_p11 : VC :=
  (.seq (.ops 0 [⟨(some 6), none, .mv, [(.c (.lit (.int .i64 127)))], none⟩, ⟨(some 7), none, .mv, [(.c (.lit (.int .i64 0)))], none⟩]) c_theorboref01_Compass_p10)
set_option maxRecDepth 100000 in
abbrev c_theorboref01_Compass_p12 : VC :=
  (.seq (.seq (.ops 0 [⟨(some 12), none, .mv, [(.t 5)], none⟩, ⟨(some 13), none, (.bin .neq), [(.t 12), (.c (.lit (.int .i64 0)))], none⟩]) (.cond (.t 13) c_theorboref01_Compass_p1 .skip)) c_theorboref01_Compass_p11)
set_option maxRecDepth 100000 in
abbrev c_theorboref01_Compass_p13 : VC :=
  (.seq (.ops 0 [⟨(some 10), none, (.ldA 2), [(.t 1)], none⟩, ⟨(some 11), none, (.call 31), [(.t 10)], none⟩, ⟨(some 5), none, .mv, [(.t 11)], none⟩]) c_theorboref01_Compass_p12)
set_option maxRecDepth 100000 in
def c_theorboref01_Compass : VC :=
  (.seq (.ops 4 [⟨(some 1), none, (.box 39), [(.t 0)], none⟩, ⟨(some 2), none, .mv, [(.c (.lit (.int .i64 0)))], none⟩, ⟨(some 3), none, .mv, [(.c (.lit (.int .i64 0)))], none⟩, ⟨(some 4), none, .mv, [(.c (.lit (.int .i64 0)))], none⟩]) c_theorboref01_Compass_p13)
set_option maxRecDepth 100000 in
theorem k_theorboref01_Compass : Comp Tryd.prog nobx gtab 50 49 c_theorboref01_Compass [(.t 2), (.t 3), (.t 4)] := ⟨⟨Tryd.f50, _, Tryd.func50, rfl, rfl, by kernel_rfl, by kernel_rfl⟩⟩
set_option maxRecDepth 100000 in
abbrev c_instrument_Rank_p1 : VC :=
  (.seq (.ops 0 [⟨(some 11), none, .mv, [(.t 4)], none⟩, ⟨(some 2), none, .mv, [(.c (.sl 0 [] .exact))], none⟩, ⟨(some 3), none, .mv, [(.t 11)], none⟩]) .ret)
set_option maxRecDepth 100000 in
abbrev c_instrument_Rank_p2 : VC :=
  (.seq (.ops 0 [⟨(some 9), none, .mv, [(.t 4)], none⟩, ⟨(some 10), none, (.bin .neq), [(.t 9), (.c (.lit (.int .i64 0)))], none⟩]) (.cond (.t 10) c_instrument_Rank_p1 .skip))
set_option maxRecDepth 100000 in
abbrev c_instrument_Rank_p3 : VC :=
  (.ops 0 [⟨(some 21), none, .mv, [(.t 5)], none⟩, ⟨(some 22), none, .mv, [(.t 6)], none⟩, ⟨(some 23), none, .mv, [(.t 6)], none⟩, ⟨(some 24), none, (.bin .add), [(.t 23), (.c (.lit (.int .i64 1)))], none⟩, ⟨(some 25), none, (.ixA 1), [(.t 21), (.t 22)], none⟩, ⟨none, none, (.st 1), [(.t 25), (.t 24)], none⟩])
set_option maxRecDepth 100000 in
abbrev c_instrument_Rank_p4 : VC :=
  (.ops 0 [⟨(some 26), none, (.bin .add), [(.t 18), (.c (.lit (.int .i64 1)))], none⟩, ⟨(some 18), none, .mv, [(.t 26)], none⟩])
set_option maxRecDepth 100000 in
abbrev c_instrument_Rank_p5 : VC :=
  (.seq (.block 1 (.seq (.ops 0 [⟨(some 20), none, .mv, [(.t 18)], none⟩, ⟨(some 6), none, .mv, [(.t 20)], none⟩]) c_instrument_Rank_p3)) c_instrument_Rank_p4)
set_option maxRecDepth 100000 in
abbrev c_instrument_Rank_p6 : VC :=
  (.seq (.ops 0 [⟨(some 19), none, (.bin .lss), [(.t 18), (.t 17)], none⟩]) (.seq (.cond (.t 19) .skip (.exit 0)) c_instrument_Rank_p5))
set_option maxRecDepth 100000 in
abbrev c_instrument_Rank_p7 : VC :=
  (.seq (.ops 0 [⟨(some 30), none, .mv, [(.t 5)], none⟩, ⟨(some 2), none, .mv, [(.t 30)], none⟩, ⟨(some 3), none, .mv, [(.c (.lit (.int .i64 0)))], none⟩]) .ret)
set_option maxRecDepth 100000 in
abbrev c_instrument_Rank_p8 : VC :=
  (.seq (.ops 0 [⟨(some 27), none, .mv, [(.t 5)], none⟩, ⟨(some 28), none, (.mkfn 83), [(.t 1)], none⟩, ⟨(some 29), none, (.call 82), [(.t 27), (.t 28)], none⟩]) c_instrument_Rank_p7)
set_option maxRecDepth 100000 in
abbrev c_instrument_Rank_p9 : VC :=
  (.seq (.seq (.ops 0 [⟨(some 16), none, .mv, [(.t 5)], none⟩, ⟨(some 17), none, .len, [(.t 16)], none⟩, ⟨(some 18), none, .mv, [(.c (.lit (.int .i64 0)))], none⟩]) (.block 0 (.loop c_instrument_Rank_p6))) c_instrument_Rank_p8)
set_option maxRecDepth 100000 in
abbrev c_instrument_Rank_p10 : VC :=
  (.seq (.ops 5 [⟨(some 12), none, (.fldA 0), [(.t 1)], none⟩, ⟨(some 13), none, .ld1, [(.t 12)], none⟩, ⟨(some 14), none, .len, [(.t 13)], none⟩, ⟨(some 15), none, (.mk 3 1 8 [(.lit (.int .i64 0))]), [(.t 14), (.t 14)], none⟩, ⟨(some 5), none, .mv, [(.t 15)], none⟩]) c_instrument_Rank_p9)
set_option maxRecDepth 100000 in
abbrev c_instrument_Rank_p11 : VC :=
  (.seq (.seq (.ops 0 [⟨(some 7), none, (.ldA 2), [(.t 1)], none⟩, ⟨(some 8), none, (.call 30), [(.t 7)], none⟩, ⟨(some 4), none, .mv, [(.t 8)], none⟩]) c_instrument_Rank_p2) c_instrument_Rank_p10)
set_option maxRecDepth 100000 in
def c_instrument_Rank : VC :=
  (.seq (.ops 3 [⟨(some 1), none, (.box 39), [(.t 0)], none⟩, ⟨(some 2), none, .mv, [(.c (.sl 0 [] .exact))], none⟩, ⟨(some 3), none, .mv, [(.c (.lit (.int .i64 0)))], none⟩]) c_instrument_Rank_p11)
set_option maxRecDepth 100000 in
theorem k_instrument_Rank : Comp Tryd.prog nobx gtab 51 31 c_instrument_Rank [(.t 2), (.t 3)] := ⟨⟨Tryd.f51, _, Tryd.func51, rfl, rfl, by kernel_rfl, by kernel_rfl⟩⟩
set_option maxRecDepth 100000 in
abbrev c_theorboref01_Rank_p1 : VC :=
  (.seq (.ops 0 [⟨(some 12), none, .mv, [(.t 4)], none⟩, ⟨(some 2), none, .mv, [(.c (.sl 0 [] .exact))], none⟩, ⟨(some 3), none, .mv, [(.t 12)], none⟩]) .ret)
set_option maxRecDepth 100000 in
abbrev c_theorboref01_Rank_p2 : VC :=
  (.ops 5 [⟨(some 33), none, .mv, [(.t 5)], none⟩, ⟨(some 34), none, .mv, [(.t 7)], none⟩, ⟨(some 35), none, (.mksl 1 1 [(.lit (.int .i64 0))] [(0, 1)]), [(.t 34)], none⟩, ⟨(some 36), none, (.app 3 1 8), [(.t 33), (.t 35)], none⟩, ⟨(some 5), none, .mv, [(.t 36)], none⟩])
set_option maxRecDepth 100000 in
abbrev c_theorboref01_Rank_p3 : VC :=
  (.ops 0 [⟨(some 22), none, .mv, [(.t 7)], none⟩, ⟨(some 23), none, (.bin .add), [(.t 22), (.c (.lit (.int .i64 1)))], none⟩, ⟨(some 7), none, .mv, [(.t 23)], none⟩])
set_option maxRecDepth 100000 in
abbrev c_theorboref01_Rank_p4 : VC :=
  (.seq (.block 3 (.seq (.ops 0 [⟨(some 24), none, (.fldA 0), [(.t 1)], none⟩, ⟨(some 25), none, .ld1, [(.t 24)], none⟩, ⟨(some 26), none, .mv, [(.t 7)], none⟩, ⟨(some 27), none, (.bin .sub), [(.t 26), (.c (.lit (.int .i64 1)))], none⟩, ⟨(some 28), none, (.ixA 3), [(.t 25), (.t 27)], none⟩, ⟨(some 29), none, (.fldA 0), [(.t 28)], none⟩, ⟨(some 30), none, .ld1, [(.t 29)], none⟩, ⟨(some 31), none, .mv, [(.t 6)], none⟩, ⟨(some 32), none, (.bin .eql), [(.t 30), (.t 31)], none⟩]) (.cond (.t 32) c_theorboref01_Rank_p2 .skip))) c_theorboref01_Rank_p3)
set_option maxRecDepth 100000 in
abbrev c_theorboref01_Rank_p5 : VC :=
  (.seq (.seq (.ops 0 [⟨(some 17), none, .mv, [(.t 7)], none⟩, ⟨(some 18), none, (.fldA 0), [(.t 1)], none⟩, ⟨(some 19), none, .ld1, [(.t 18)], none⟩, ⟨(some 20), none, .len, [(.t 19)], none⟩, ⟨(some 21), none, (.bin .leq), [(.t 17), (.t 20)], none⟩]) (.cond (.t 21) .skip (.exit 2))) c_theorboref01_Rank_p4)
set_option maxRecDepth 100000 in
abbrev c_theorboref01_Rank_p6 : VC :=
  (.ops 0 [⟨(some 15), none, .mv, [(.t 6)], none⟩, ⟨(some 16), none, (.bin .sub), [(.t 15), (.c (.lit (.int .i64 1)))], none⟩, ⟨(some 6), none, .mv, [(.t 16)], none⟩])
set_option maxRecDepth 100000 in
abbrev c_theorboref01_Rank_p7 : VC :=
  (.seq (.block 1 (.seq (.ops 0 [⟨(some 7), none, .mv, [(.c (.lit (.int .i64 1)))], none⟩]) (.block 2 (.loop c_theorboref01_Rank_p5)))) c_theorboref01_Rank_p6)
set_option maxRecDepth 100000 in
abbrev c_theorboref01_Rank_p8 : VC :=
  (.seq (.seq (.ops 0 [⟨(some 13), none, .mv, [(.t 6)], none⟩, ⟨(some 14), none, (.bin .geq), [(.t 13), (.c (.lit (.int .i64 0)))], none⟩]) (.cond (.t 14) .skip (.exit 0))) c_theorboref01_Rank_p7)
set_option maxRecDepth 100000 in
abbrev c_theorboref01_Rank_p9 : VC :=
  (.seq (.ops 0 [⟨(some 37), none, .mv, [(.t 5)], none⟩, ⟨(some 2), none, .mv, [(.t 37)], none⟩, ⟨(some 3), none, .mv, [(.c (.lit (.int .i64 0)))], none⟩]) .ret)
set_option maxRecDepth 100000 in
abbrev c_theorboref01_Rank_p10 : VC :=
  (.seq (.seq (.ops 0 [⟨(some 6), none, .mv, [(.c (.lit (.int .i64 127)))], none⟩]) (.block 0 (.loop c_theorboref01_Rank_p8))) c_theorboref01_Rank_p9)
set_option maxRecDepth 100000 in
abbrev c_theorboref01_Rank_p11 : VC :=
  (.seq (.ops 0 [⟨(some 5), none, .mv, [(.c (.sl 0 [] .exact))], none⟩]) c_theorboref01_Rank_p10)
set_option maxRecDepth 100000 in
abbrev c_theorboref01_Rank_p12 : VC :=
  (.seq (.seq (.ops 0 [⟨(some 10), none, .mv, [(.t 4)], none⟩, ⟨(some 11), none, (.bin .neq), [(.t 10), (.c (.lit (.int .i64 0)))], none⟩]) (.cond (.t 11) c_theorboref01_Rank_p1 .skip)) c_theorboref01_Rank_p11)
set_option maxRecDepth 100000 in
abbrev c_theorboref01_Rank_p13 : VC :=
  (.seq (.ops 0 [⟨(some 8), none, (.ldA 2), [(.t 1)], none⟩, ⟨(some 9), none, (.call 31), [(.t 8)], none⟩, ⟨(some 4), none, .mv, [(.t 9)], none⟩]) c_theorboref01_Rank_p12)
set_option maxRecDepth 100000 in
def c_theorboref01_Rank : VC :=
  (.seq (.ops 3 [⟨(some 1), none, (.box 39), [(.t 0)], none⟩, ⟨(some 2), none, .mv, [(.c (.sl 0 [] .exact))], none⟩, ⟨(some 3), none, .mv, [(.c (.lit (.int .i64 0)))], none⟩]) c_theorboref01_Rank_p13)
set_option maxRecDepth 100000 in
theorem k_theorboref01_Rank : Comp Tryd.prog nobx gtab 52 38 c_theorboref01_Rank [(.t 2), (.t 3)] := ⟨⟨Tryd.f52, _, Tryd.func52, rfl, rfl, by kernel_rfl, by kernel_rfl⟩⟩
set_option maxRecDepth 100000 in
abbrev c_theorbolaw01_SameInts_p1 : VC :=
  (.seq (.ops 0 [⟨(some 4), none, .mv, [(.c (.lit (.bool false)))], none⟩]) .ret)
set_option maxRecDepth 100000 in
abbrev c_theorbolaw01_SameInts_p2 : VC :=
  (.seq (.ops 0 [⟨(some 4), none, .mv, [(.c (.lit (.bool false)))], none⟩]) .ret)
set_option maxRecDepth 100000 in
abbrev c_theorbolaw01_SameInts_p3 : VC :=
  (.ops 0 [⟨(some 15), none, .mv, [(.t 5)], none⟩, ⟨(some 16), none, (.bin .add), [(.t 15), (.c (.lit (.int .i64 1)))], none⟩, ⟨(some 5), none, .mv, [(.t 16)], none⟩])
set_option maxRecDepth 100000 in
abbrev c_theorbolaw01_SameInts_p4 : VC :=
  (.seq (.block 1 (.seq (.ops 0 [⟨(some 17), none, .mv, [(.t 0)], none⟩, ⟨(some 18), none, .mv, [(.t 5)], none⟩, ⟨(some 19), none, (.ixA 1), [(.t 17), (.t 18)], none⟩, ⟨(some 20), none, .ld1, [(.t 19)], (some [0, 1, 2])⟩, ⟨(some 21), none, .mv, [(.t 1)], none⟩, ⟨(some 22), none, .mv, [(.t 5)], none⟩, ⟨(some 23), none, (.ixA 1), [(.t 21), (.t 22)], none⟩, ⟨(some 24), none, .ld1, [(.t 23)], (some [4, 5, 6])⟩, ⟨(some 25), none, (.bin .neq), [(.t 20), (.t 24)], none⟩]) (.cond (.t 25) c_theorbolaw01_SameInts_p2 .skip))) c_theorbolaw01_SameInts_p3)
set_option maxRecDepth 100000 in
abbrev c_theorbolaw01_SameInts_p5 : VC :=
  (.seq (.seq (.ops 0 [⟨(some 11), none, .mv, [(.t 5)], none⟩, ⟨(some 12), none, .mv, [(.t 0)], none⟩, ⟨(some 13), none, .len, [(.t 12)], none⟩, ⟨(some 14), none, (.bin .lss), [(.t 11), (.t 13)], none⟩]) (.cond (.t 14) .skip (.exit 0))) c_theorbolaw01_SameInts_p4)
set_option maxRecDepth 100000 in
abbrev c_theorbolaw01_SameInts_p6 : VC :=
  (.seq (.ops 0 [⟨(some 4), none, .mv, [(.c (.lit (.bool true)))], none⟩]) .ret)
set_option maxRecDepth 100000 in
abbrev c_theorbolaw01_SameInts_p7 : VC :=
  (.seq (.seq (.ops 0 [⟨(some 5), none, .mv, [(.c (.lit (.int .i64 0)))], none⟩]) (.block 0 (.loop c_theorbolaw01_SameInts_p5))) c_theorbolaw01_SameInts_p6)
set_option maxRecDepth 100000 in
abbrev c_theorbolaw01_SameInts_p8 : VC :=
  (.seq (.seq (.ops 0 [⟨(some 6), none, .mv, [(.t 0)], none⟩, ⟨(some 7), none, .len, [(.t 6)], none⟩, ⟨(some 8), none, .mv, [(.t 1)], none⟩, ⟨(some 9), none, .len, [(.t 8)], none⟩, ⟨(some 10), none, (.bin .neq), [(.t 7), (.t 9)], none⟩]) (.cond (.t 10) c_theorbolaw01_SameInts_p1 .skip)) c_theorbolaw01_SameInts_p7)
set_option maxRecDepth 100000 in
def c_theorbolaw01_SameInts : VC :=
  (.seq (.ops 0 [⟨(some 4), none, .mv, [(.c (.lit (.bool false)))], none⟩]) c_theorbolaw01_SameInts_p8)
set_option maxRecDepth 100000 in
theorem k_theorbolaw01_SameInts : Comp Tryd.prog nobx gtab 53 26 c_theorbolaw01_SameInts [(.t 4)] := ⟨⟨Tryd.f53, _, Tryd.func53, rfl, rfl, by kernel_rfl, by kernel_rfl⟩⟩
set_option maxRecDepth 100000 in
abbrev c_instrument_Rank_1_p1 : VC :=
  (.seq (.ops 0 [⟨(some 6), none, (.fldA 0), [(.t 2)], none⟩, ⟨(some 7), none, .ld1, [(.t 6)], (some [0])⟩, ⟨(some 8), none, .mv, [(.t 1)], none⟩, ⟨(some 9), none, (.bin .sub), [(.t 8), (.c (.lit (.int .i64 1)))], none⟩, ⟨(some 10), none, (.ixA 3), [(.t 7), (.t 9)], none⟩, ⟨(some 11), none, (.fldA 0), [(.t 10)], none⟩, ⟨(some 12), none, .ld1, [(.t 11)], (some [0, 1, 2, 3, 4, 5])⟩, ⟨(some 13), none, (.fldA 0), [(.t 2)], none⟩, ⟨(some 14), none, .ld1, [(.t 13)], (some [7])⟩, ⟨(some 15), none, .mv, [(.t 0)], none⟩, ⟨(some 16), none, (.bin .sub), [(.t 15), (.c (.lit (.int .i64 1)))], none⟩, ⟨(some 17), none, (.ixA 3), [(.t 14), (.t 16)], none⟩, ⟨(some 18), none, (.fldA 0), [(.t 17)], none⟩, ⟨(some 19), none, .ld1, [(.t 18)], (some [7, 8, 9, 10, 11, 12])⟩, ⟨(some 20), none, (.bin .sub), [(.t 12), (.t 19)], none⟩, ⟨(some 5), none, .mv, [(.t 20)], none⟩]) .ret)
set_option maxRecDepth 100000 in
def c_instrument_Rank_1 : VC :=
  (.seq (.ops 0 [⟨(some 5), none, .mv, [(.c (.lit (.int .i64 0)))], none⟩]) c_instrument_Rank_1_p1)
set_option maxRecDepth 100000 in
theorem k_instrument_Rank_1 : Comp Tryd.prog nobx gtab 83 21 c_instrument_Rank_1 [(.t 5)] := ⟨⟨Tryd.f83, _, Tryd.func83, rfl, rfl, by kernel_rfl, by kernel_rfl⟩⟩
set_option maxRecDepth 100000 in
def c_slices_SortStableFunc_int_int : VC :=
  (.ops 0 [⟨(some 4), none, .mv, [(.t 0)], none⟩, ⟨(some 5), none, .mv, [(.t 0)], none⟩, ⟨(some 6), none, .len, [(.t 5)], none⟩, ⟨(some 7), none, .mv, [(.t 1)], none⟩, ⟨(some 8), none, (.call 96), [(.t 4), (.t 6), (.t 7)], none⟩])
set_option maxRecDepth 100000 in
theorem k_slices_SortStableFunc_int_int : Comp Tryd.prog nobx gtab 82 9 c_slices_SortStableFunc_int_int [] := ⟨⟨Tryd.f82, _, Tryd.func82, rfl, rfl, by kernel_rfl, by kernel_rfl⟩⟩
set_option maxRecDepth 100000 in
abbrev c_slices_stableCmpFunc_int_p1 : VC :=
  (.ops 0 [⟨(some 20), none, .mv, [(.t 8)], none⟩, ⟨(some 21), none, .mv, [(.t 6)], none⟩, ⟨(some 22), none, (.bin .add), [(.t 20), (.t 21)], none⟩, ⟨(some 8), none, .mv, [(.t 22)], none⟩])
set_option maxRecDepth 100000 in
abbrev c_slices_stableCmpFunc_int_p2 : VC :=
  (.seq (.ops 0 [⟨(some 19), none, .mv, [(.t 8)], none⟩, ⟨(some 7), none, .mv, [(.t 19)], none⟩]) c_slices_stableCmpFunc_int_p1)
set_option maxRecDepth 100000 in
abbrev c_slices_stableCmpFunc_int_p3 : VC :=
  (.block 1 (.seq (.ops 0 [⟨(some 14), none, .mv, [(.t 0)], none⟩, ⟨(some 15), none, .mv, [(.t 7)], none⟩, ⟨(some 16), none, .mv, [(.t 8)], none⟩, ⟨(some 17), none, .mv, [(.t 2)], none⟩, ⟨(some 18), none, (.call 105), [(.t 14), (.t 15), (.t 16), (.t 17)], none⟩]) c_slices_stableCmpFunc_int_p2))
set_option maxRecDepth 100000 in
abbrev c_slices_stableCmpFunc_int_p4 : VC :=
  (.seq (.seq (.ops 0 [⟨(some 11), none, .mv, [(.t 8)], none⟩, ⟨(some 12), none, .mv, [(.t 1)], none⟩, ⟨(some 13), none, (.bin .leq), [(.t 11), (.t 12)], none⟩]) (.cond (.t 13) .skip (.exit 0))) c_slices_stableCmpFunc_int_p3)
set_option maxRecDepth 100000 in
abbrev c_slices_stableCmpFunc_int_p5 : VC :=
  (.ops 0 [⟨(some 45), none, .mv, [(.t 8)], none⟩, ⟨(some 46), none, .mv, [(.t 6)], none⟩, ⟨(some 47), none, (.bin .mul), [(.c (.lit (.int .i64 2))), (.t 46)], none⟩, ⟨(some 48), none, (.bin .add), [(.t 45), (.t 47)], none⟩, ⟨(some 8), none, .mv, [(.t 48)], none⟩])
set_option maxRecDepth 100000 in
abbrev c_slices_stableCmpFunc_int_p6 : VC :=
  (.seq (.ops 0 [⟨(some 44), none, .mv, [(.t 8)], none⟩, ⟨(some 7), none, .mv, [(.t 44)], none⟩]) c_slices_stableCmpFunc_int_p5)
set_option maxRecDepth 100000 in
abbrev c_slices_stableCmpFunc_int_p7 : VC :=
  (.block 5 (.seq (.ops 0 [⟨(some 36), none, .mv, [(.t 0)], none⟩, ⟨(some 37), none, .mv, [(.t 7)], none⟩, ⟨(some 38), none, .mv, [(.t 7)], none⟩, ⟨(some 39), none, .mv, [(.t 6)], none⟩, ⟨(some 40), none, (.bin .add), [(.t 38), (.t 39)], none⟩, ⟨(some 41), none, .mv, [(.t 8)], none⟩, ⟨(some 42), none, .mv, [(.t 2)], none⟩, ⟨(some 43), none, (.call 106), [(.t 36), (.t 37), (.t 40), (.t 41), (.t 42)], none⟩]) c_slices_stableCmpFunc_int_p6))
set_option maxRecDepth 100000 in
abbrev c_slices_stableCmpFunc_int_p8 : VC :=
  (.seq (.seq (.ops 0 [⟨(some 33), none, .mv, [(.t 8)], none⟩, ⟨(some 34), none, .mv, [(.t 1)], none⟩, ⟨(some 35), none, (.bin .leq), [(.t 33), (.t 34)], none⟩]) (.cond (.t 35) .skip (.exit 4))) c_slices_stableCmpFunc_int_p7)
set_option maxRecDepth 100000 in
abbrev c_slices_stableCmpFunc_int_p9 : VC :=
  (.ops 0 [⟨(some 55), none, .mv, [(.t 0)], none⟩, ⟨(some 56), none, .mv, [(.t 7)], none⟩, ⟨(some 57), none, .mv, [(.t 9)], none⟩, ⟨(some 58), none, .mv, [(.t 1)], none⟩, ⟨(some 59), none, .mv, [(.t 2)], none⟩, ⟨(some 60), none, (.call 106), [(.t 55), (.t 56), (.t 57), (.t 58), (.t 59)], none⟩])
set_option maxRecDepth 100000 in
abbrev c_slices_stableCmpFunc_int_p10 : VC :=
  (.seq (.ops 0 [⟨(some 52), none, .mv, [(.t 9)], none⟩, ⟨(some 53), none, .mv, [(.t 1)], none⟩, ⟨(some 54), none, (.bin .lss), [(.t 52), (.t 53)], none⟩]) (.cond (.t 54) c_slices_stableCmpFunc_int_p9 .skip))
set_option maxRecDepth 100000 in
abbrev c_slices_stableCmpFunc_int_p11 : VC :=
  (.ops 0 [⟨(some 61), none, .mv, [(.t 6)], none⟩, ⟨(some 62), none, (.bin .mul), [(.t 61), (.c (.lit (.int .i64 2)))], none⟩, ⟨(some 6), none, .mv, [(.t 62)], none⟩])
set_option maxRecDepth 100000 in
abbrev c_slices_stableCmpFunc_int_p12 : VC :=
  (.seq (.seq (.ops 0 [⟨(some 49), none, .mv, [(.t 7)], none⟩, ⟨(some 50), none, .mv, [(.t 6)], none⟩, ⟨(some 51), none, (.bin .add), [(.t 49), (.t 50)], none⟩, ⟨(some 9), none, .mv, [(.t 51)], none⟩]) c_slices_stableCmpFunc_int_p10) c_slices_stableCmpFunc_int_p11)
set_option maxRecDepth 100000 in
abbrev c_slices_stableCmpFunc_int_p13 : VC :=
  (.seq (.block 4 (.loop c_slices_stableCmpFunc_int_p8)) c_slices_stableCmpFunc_int_p12)
set_option maxRecDepth 100000 in
abbrev c_slices_stableCmpFunc_int_p14 : VC :=
  (.block 3 (.seq (.ops 0 [⟨(some 31), none, .mv, [(.t 6)], none⟩, ⟨(some 32), none, (.bin .mul), [(.c (.lit (.int .i64 2))), (.t 31)], none⟩, ⟨(some 7), none, .mv, [(.c (.lit (.int .i64 0)))], none⟩, ⟨(some 8), none, .mv, [(.t 32)], none⟩]) c_slices_stableCmpFunc_int_p13))
set_option maxRecDepth 100000 in
abbrev c_slices_stableCmpFunc_int_p15 : VC :=
  (.seq (.seq (.ops 0 [⟨(some 28), none, .mv, [(.t 6)], none⟩, ⟨(some 29), none, .mv, [(.t 1)], none⟩, ⟨(some 30), none, (.bin .lss), [(.t 28), (.t 29)], none⟩]) (.cond (.t 30) .skip (.exit 2))) c_slices_stableCmpFunc_int_p14)
set_option maxRecDepth 100000 in
abbrev c_slices_stableCmpFunc_int_p16 : VC :=
  (.seq (.ops 0 [⟨(some 23), none, .mv, [(.t 0)], none⟩, ⟨(some 24), none, .mv, [(.t 7)], none⟩, ⟨(some 25), none, .mv, [(.t 1)], none⟩, ⟨(some 26), none, .mv, [(.t 2)], none⟩, ⟨(some 27), none, (.call 105), [(.t 23), (.t 24), (.t 25), (.t 26)], none⟩]) (.block 2 (.loop c_slices_stableCmpFunc_int_p15)))
set_option maxRecDepth 100000 in
abbrev c_slices_stableCmpFunc_int_p17 : VC :=
  (.seq (.block 0 (.loop c_slices_stableCmpFunc_int_p4)) c_slices_stableCmpFunc_int_p16)
set_option maxRecDepth 100000 in
abbrev c_slices_stableCmpFunc_int_p18 : VC :=
  (.seq (.ops 0 [⟨(some 10), none, .mv, [(.t 6)], none⟩, ⟨(some 7), none, .mv, [(.c (.lit (.int .i64 0)))], none⟩, ⟨(some 8), none, .mv, [(.t 10)], none⟩]) c_slices_stableCmpFunc_int_p17)
set_option maxRecDepth 100000 in
def c_slices_stableCmpFunc_int : VC :=
  (.seq (.ops 0 [⟨(some 6), none, .mv, [(.c (.lit (.int .i64 20)))], none⟩]) c_slices_stableCmpFunc_int_p18)
set_option maxRecDepth 100000 in
theorem k_slices_stableCmpFunc_int : Comp Tryd.prog nobx gtab 96 63 c_slices_stableCmpFunc_int [] := ⟨⟨Tryd.f96, _, Tryd.func96, rfl, rfl, by kernel_rfl, by kernel_rfl⟩⟩
set_option maxRecDepth 100000 in
abbrev c_slices_insertionSortCmpFunc_int_p1 : VC :=
  (.ops 0 [⟨(some 35), none, .mv, [(.t 9)], none⟩, ⟨(some 36), none, (.bin .sub), [(.t 35), (.c (.lit (.int .i64 1)))], none⟩, ⟨(some 9), none, .mv, [(.t 36)], none⟩])
set_option maxRecDepth 100000 in
abbrev c_slices_insertionSortCmpFunc_int_p2 : VC :=
  (.seq (.block 3 (.ops 0 [⟨(some 37), none, .mv, [(.t 0)], none⟩, ⟨(some 38), none, .mv, [(.t 9)], none⟩, ⟨(some 39), none, .mv, [(.t 0)], none⟩, ⟨(some 40), none, .mv, [(.t 9)], none⟩, ⟨(some 41), none, (.bin .sub), [(.t 40), (.c (.lit (.int .i64 1)))], none⟩, ⟨(some 42), none, .mv, [(.t 0)], none⟩, ⟨(some 43), none, .mv, [(.t 9)], none⟩, ⟨(some 44), none, (.bin .sub), [(.t 43), (.c (.lit (.int .i64 1)))], none⟩, ⟨(some 45), none, (.ixA 1), [(.t 42), (.t 44)], none⟩, ⟨(some 46), none, .ld1, [(.t 45)], (some [5, 6, 7, 8])⟩, ⟨(some 47), none, .mv, [(.t 0)], none⟩, ⟨(some 48), none, .mv, [(.t 9)], none⟩, ⟨(some 49), none, (.ixA 1), [(.t 47), (.t 48)], none⟩, ⟨(some 50), none, .ld1, [(.t 49)], (some [10, 11, 12])⟩, ⟨(some 51), none, (.ixA 1), [(.t 37), (.t 38)], none⟩, ⟨none, none, (.st 1), [(.t 51), (.t 46)], none⟩, ⟨(some 52), none, (.ixA 1), [(.t 39), (.t 41)], none⟩, ⟨none, none, (.st 1), [(.t 52), (.t 50)], none⟩])) c_slices_insertionSortCmpFunc_int_p1)
set_option maxRecDepth 100000 in
abbrev c_slices_insertionSortCmpFunc_int_p3 : VC :=
  (.seq (.seq (.ops 0 [⟨(some 18), none, .mv, [(.t 9)], none⟩, ⟨(some 19), none, .mv, [(.t 1)], none⟩, ⟨(some 20), none, (.bin .gtr), [(.t 18), (.t 19)], none⟩, ⟨(some 21), none, .mv, [(.t 20)], none⟩, ⟨(some 22), (some (21, true)), .mv, [(.t 3)], none⟩, ⟨(some 23), (some (21, true)), .mv, [(.t 0)], none⟩, ⟨(some 24), (some (21, true)), .mv, [(.t 9)], none⟩, ⟨(some 25), (some (21, true)), (.ixA 1), [(.t 23), (.t 24)], none⟩, ⟨(some 26), (some (21, true)), .ld1, [(.t 25)], (some [0, 1, 2, 3, 5, 6, 7])⟩, ⟨(some 27), (some (21, true)), .mv, [(.t 0)], none⟩, ⟨(some 28), (some (21, true)), .mv, [(.t 9)], none⟩, ⟨(some 29), (some (21, true)), (.bin .sub), [(.t 28), (.c (.lit (.int .i64 1)))], none⟩, ⟨(some 30), (some (21, true)), (.ixA 1), [(.t 27), (.t 29)], none⟩, ⟨(some 31), (some (21, true)), .ld1, [(.t 30)], (some [0, 1, 2, 3, 9, 10, 11, 12])⟩, ⟨(some 32), (some (21, true)), .callv, [(.t 22), (.t 26), (.t 31)], none⟩, ⟨(some 33), (some (21, true)), (.bin .lss), [(.t 32), (.c (.lit (.int .i64 0)))], none⟩, ⟨(some 34), none, .pick, [(.t 21), (.t 33), (.c (.lit (.bool false)))], none⟩]) (.cond (.t 34) .skip (.exit 2))) c_slices_insertionSortCmpFunc_int_p2)
set_option maxRecDepth 100000 in
abbrev c_slices_insertionSortCmpFunc_int_p4 : VC :=
  (.ops 0 [⟨(some 15), none, .mv, [(.t 8)], none⟩, ⟨(some 16), none, (.bin .add), [(.t 15), (.c (.lit (.int .i64 1)))], none⟩, ⟨(some 8), none, .mv, [(.t 16)], none⟩])
set_option maxRecDepth 100000 in
abbrev c_slices_insertionSortCmpFunc_int_p5 : VC :=
  (.seq (.block 1 (.seq (.ops 0 [⟨(some 17), none, .mv, [(.t 8)], none⟩, ⟨(some 9), none, .mv, [(.t 17)], none⟩]) (.block 2 (.loop c_slices_insertionSortCmpFunc_int_p3)))) c_slices_insertionSortCmpFunc_int_p4)
set_option maxRecDepth 100000 in
abbrev c_slices_insertionSortCmpFunc_int_p6 : VC :=
  (.seq (.seq (.ops 0 [⟨(some 12), none, .mv, [(.t 8)], none⟩, ⟨(some 13), none, .mv, [(.t 2)], none⟩, ⟨(some 14), none, (.bin .lss), [(.t 12), (.t 13)], none⟩]) (.cond (.t 14) .skip (.exit 0))) c_slices_insertionSortCmpFunc_int_p5)
set_option maxRecDepth 100000 in
def c_slices_insertionSortCmpFunc_int : VC :=
  (.seq (.ops 0 [⟨(some 10), none, .mv, [(.t 1)], none⟩, ⟨(some 11), none, (.bin .add), [(.t 10), (.c (.lit (.int .i64 1)))], none⟩, ⟨(some 8), none, .mv, [(.t 11)], none⟩]) (.block 0 (.loop c_slices_insertionSortCmpFunc_int_p6)))
set_option maxRecDepth 100000 in
theorem k_slices_insertionSortCmpFunc_int : Comp Tryd.prog nobx gtab 105 53 c_slices_insertionSortCmpFunc_int [] := ⟨⟨Tryd.f105, _, Tryd.func105, rfl, rfl, by kernel_rfl, by kernel_rfl⟩⟩
set_option maxRecDepth 100000 in
abbrev c_instrument_stopped_p1 : VC :=
  (.seq (.ops 0 [⟨(some 9), none, (.fldA 0), [(.t 4)], none⟩, ⟨(some 10), none, .ld1, [(.t 9)], none⟩, ⟨(some 6), none, .mv, [(.t 10)], none⟩]) .ret)
set_option maxRecDepth 100000 in
abbrev c_instrument_stopped_p2 : VC :=
  (.seq (.ops 0 [⟨(some 11), none, (.fldA 0), [(.t 4)], none⟩, ⟨(some 12), none, .ld1, [(.t 11)], (some [0])⟩, ⟨(some 13), none, (.fldA 1), [(.t 3)], none⟩, ⟨(some 14), none, .ld1, [(.t 13)], (some [2])⟩, ⟨(some 15), none, .mv, [(.t 2)], none⟩, ⟨(some 16), none, (.bin .sub), [(.t 15), (.c (.lit (.int .i64 1)))], none⟩, ⟨(some 17), none, (.ixA 1), [(.t 14), (.t 16)], none⟩, ⟨(some 18), none, .ld1, [(.t 17)], (some [2, 3, 4, 5, 6])⟩, ⟨(some 19), none, (.bin .add), [(.t 12), (.t 18)], none⟩, ⟨(some 6), none, .mv, [(.t 19)], none⟩]) .ret)
set_option maxRecDepth 100000 in
abbrev c_instrument_stopped_p3 : VC :=
  (.seq (.seq (.ops 0 [⟨(some 7), none, .mv, [(.t 2)], none⟩, ⟨(some 8), none, (.bin .eql), [(.t 7), (.c (.lit (.int .i64 0)))], none⟩]) (.cond (.t 8) c_instrument_stopped_p1 .skip)) c_instrument_stopped_p2)
set_option maxRecDepth 100000 in
def c_instrument_stopped : VC :=
  (.seq (.ops 3 [⟨(some 3), none, (.box 39), [(.t 0)], none⟩, ⟨(some 4), none, (.box 59), [(.t 1)], none⟩, ⟨(some 6), none, .mv, [(.c (.lit (.int .i64 0)))], none⟩]) c_instrument_stopped_p3)
set_option maxRecDepth 100000 in
theorem k_instrument_stopped : Comp Tryd.prog nobx gtab 67 20 c_instrument_stopped [(.t 6)] := ⟨⟨Tryd.f67, _, Tryd.func67, rfl, rfl, by kernel_rfl, by kernel_rfl⟩⟩
set_option maxRecDepth 100000 in
abbrev c_theorboref01_Sound_p1 : VC :=
  (.ops 0 [⟨(some 17), none, .mv, [(.t 5)], none⟩, ⟨(some 18), none, (.fldA 1), [(.t 2)], none⟩, ⟨(some 19), none, .ld1, [(.t 18)], none⟩, ⟨(some 20), none, (.fldA 1), [(.t 3)], none⟩, ⟨(some 21), none, .ld1, [(.t 20)], none⟩, ⟨(some 22), none, (.bin .sub), [(.t 21), (.c (.lit (.int .i64 1)))], none⟩, ⟨(some 23), none, (.ixA 1), [(.t 19), (.t 22)], none⟩, ⟨(some 24), none, .ld1, [(.t 23)], none⟩, ⟨(some 25), none, (.bin .add), [(.t 17), (.t 24)], none⟩, ⟨(some 5), none, .mv, [(.t 25)], none⟩])
set_option maxRecDepth 100000 in
abbrev c_theorboref01_Sound_p2 : VC :=
  (.seq (.ops 0 [⟨(some 26), none, .mv, [(.t 5)], none⟩, ⟨(some 4), none, .mv, [(.t 26)], none⟩]) .ret)
set_option maxRecDepth 100000 in
abbrev c_theorboref01_Sound_p3 : VC :=
  (.seq (.seq (.ops 0 [⟨(some 14), none, (.fldA 1), [(.t 3)], none⟩, ⟨(some 15), none, .ld1, [(.t 14)], none⟩, ⟨(some 16), none, (.bin .gtr), [(.t 15), (.c (.lit (.int .i64 0)))], none⟩]) (.cond (.t 16) c_theorboref01_Sound_p1 .skip)) c_theorboref01_Sound_p2)
set_option maxRecDepth 100000 in
abbrev c_theorboref01_Sound_p4 : VC :=
  (.seq (.ops 0 [⟨(some 6), none, (.fldA 0), [(.t 2)], none⟩, ⟨(some 7), none, .ld1, [(.t 6)], none⟩, ⟨(some 8), none, (.fldA 0), [(.t 3)], none⟩, ⟨(some 9), none, .ld1, [(.t 8)], none⟩, ⟨(some 10), none, (.bin .sub), [(.t 9), (.c (.lit (.int .i64 1)))], none⟩, ⟨(some 11), none, (.ixA 3), [(.t 7), (.t 10)], none⟩, ⟨(some 12), none, (.fldA 0), [(.t 11)], none⟩, ⟨(some 13), none, .ld1, [(.t 12)], none⟩, ⟨(some 5), none, .mv, [(.t 13)], none⟩]) c_theorboref01_Sound_p3)
set_option maxRecDepth 100000 in
def c_theorboref01_Sound : VC :=
  (.seq (.ops 3 [⟨(some 2), none, (.box 39), [(.t 0)], none⟩, ⟨(some 3), none, (.box 41), [(.t 1)], none⟩, ⟨(some 4), none, .mv, [(.c (.lit (.int .i64 0)))], none⟩]) c_theorboref01_Sound_p4)
set_option maxRecDepth 100000 in
theorem k_theorboref01_Sound : Comp Tryd.prog nobx gtab 68 27 c_theorboref01_Sound [(.t 4)] := ⟨⟨Tryd.f68, _, Tryd.func68, rfl, rfl, by kernel_rfl, by kernel_rfl⟩⟩
set_option maxRecDepth 100000 in
abbrev c_theorbolaw01_InstrumentRanges_p1 : VC :=
  (.seq (.ops 0 [⟨(some 13), none, (.call 23), [], none⟩, ⟨(some 2), none, .mv, [(.t 13)], none⟩]) .ret)
set_option maxRecDepth 100000 in
abbrev c_theorbolaw01_InstrumentRanges_p2 : VC :=
  (.seq (.ops 0 [⟨(some 2), none, .mv, [(.c (.lit (.bool false)))], none⟩]) .ret)
set_option maxRecDepth 100000 in
abbrev c_theorbolaw01_InstrumentRanges_p3 : VC :=
  (.seq (.ops 0 [⟨(some 2), none, .mv, [(.c (.lit (.bool false)))], none⟩]) .ret)
set_option maxRecDepth 100000 in
abbrev c_theorbolaw01_InstrumentRanges_p4 : VC :=
  (.seq (.ops 0 [⟨(some 71), none, .mv, [(.t 9)], none⟩, ⟨(some 72), none, .mv, [(.t 10)], none⟩, ⟨(some 73), none, (.call 53), [(.t 71), (.t 72)], none⟩, ⟨(some 74), none, .mv, [(.t 73)], none⟩, ⟨(some 75), (some (74, true)), .mv, [(.t 5)], none⟩, ⟨(some 76), (some (74, true)), .mv, [(.t 8)], none⟩, ⟨(some 77), (some (74, true)), (.bin .eql), [(.t 75), (.t 76)], none⟩, ⟨(some 78), none, .pick, [(.t 74), (.t 77), (.c (.lit (.bool false)))], none⟩, ⟨(some 79), none, .mv, [(.t 78)], none⟩, ⟨(some 80), (some (79, true)), (.call 23), [], none⟩, ⟨(some 81), none, .pick, [(.t 79), (.t 80), (.c (.lit (.bool false)))], none⟩, ⟨(some 2), none, .mv, [(.t 81)], none⟩]) .ret)
set_option maxRecDepth 100000 in
abbrev c_theorbolaw01_InstrumentRanges_p5 : VC :=
  (.seq (.ops 0 [⟨(some 67), none, (.ldA 2), [(.t 1)], none⟩, ⟨(some 68), none, (.call 55), [(.t 67)], none⟩, ⟨(some 66), none, .mv, [(.t 68)], none⟩, ⟨(some 69), none, (.ext 0), [(.t 66)], none⟩, ⟨(some 70), none, (.ext 1), [(.t 66)], none⟩, ⟨(some 10), none, .mv, [(.t 69)], none⟩, ⟨(some 8), none, .mv, [(.t 70)], none⟩]) c_theorbolaw01_InstrumentRanges_p4)
set_option maxRecDepth 100000 in
abbrev c_theorbolaw01_InstrumentRanges_p6 : VC :=
  (.seq (.ops 0 [⟨(some 61), none, (.ldA 2), [(.t 1)], none⟩, ⟨(some 62), none, (.call 28), [(.t 61)], none⟩, ⟨(some 63), none, (.call 54), [(.t 62)], none⟩, ⟨(some 60), none, .mv, [(.t 63)], none⟩, ⟨(some 64), none, (.ext 0), [(.t 60)], none⟩, ⟨(some 65), none, (.ext 1), [(.t 60)], none⟩, ⟨(some 9), none, .mv, [(.t 64)], none⟩, ⟨(some 5), none, .mv, [(.t 65)], none⟩]) c_theorbolaw01_InstrumentRanges_p5)
set_option maxRecDepth 100000 in
abbrev c_theorbolaw01_InstrumentRanges_p7 : VC :=
  (.seq (.seq (.ops 0 [⟨(some 51), none, .mv, [(.t 9)], none⟩, ⟨(some 52), none, .mv, [(.t 10)], none⟩, ⟨(some 53), none, (.call 53), [(.t 51), (.t 52)], none⟩, ⟨(some 54), none, (.un .not), [(.t 53)], none⟩, ⟨(some 55), none, .mv, [(.t 54)], none⟩, ⟨(some 56), (some (55, false)), .mv, [(.t 5)], none⟩, ⟨(some 57), (some (55, false)), .mv, [(.t 8)], none⟩, ⟨(some 58), (some (55, false)), (.bin .neq), [(.t 56), (.t 57)], none⟩, ⟨(some 59), none, .pick, [(.t 55), (.c (.lit (.bool true))), (.t 58)], none⟩]) (.cond (.t 59) c_theorbolaw01_InstrumentRanges_p3 .skip)) c_theorbolaw01_InstrumentRanges_p6)
set_option maxRecDepth 100000 in
abbrev c_theorbolaw01_InstrumentRanges_p8 : VC :=
  (.seq (.ops 0 [⟨(some 47), none, (.ldA 2), [(.t 1)], none⟩, ⟨(some 48), none, (.call 52), [(.t 47)], none⟩, ⟨(some 46), none, .mv, [(.t 48)], none⟩, ⟨(some 49), none, (.ext 0), [(.t 46)], none⟩, ⟨(some 50), none, (.ext 1), [(.t 46)], none⟩, ⟨(some 10), none, .mv, [(.t 49)], none⟩, ⟨(some 8), none, .mv, [(.t 50)], none⟩]) c_theorbolaw01_InstrumentRanges_p7)
set_option maxRecDepth 100000 in
abbrev c_theorbolaw01_InstrumentRanges_p9 : VC :=
  (.seq (.ops 0 [⟨(some 41), none, (.ldA 2), [(.t 1)], none⟩, ⟨(some 42), none, (.call 28), [(.t 41)], none⟩, ⟨(some 43), none, (.call 51), [(.t 42)], none⟩, ⟨(some 40), none, .mv, [(.t 43)], none⟩, ⟨(some 44), none, (.ext 0), [(.t 40)], none⟩, ⟨(some 45), none, (.ext 1), [(.t 40)], none⟩, ⟨(some 9), none, .mv, [(.t 44)], none⟩, ⟨(some 5), none, .mv, [(.t 45)], none⟩]) c_theorbolaw01_InstrumentRanges_p8)
set_option maxRecDepth 100000 in
abbrev c_theorbolaw01_InstrumentRanges_p10 : VC :=
  (.seq (.seq (.ops 0 [⟨(some 27), none, .mv, [(.t 3)], none⟩, ⟨(some 28), none, .mv, [(.t 6)], none⟩, ⟨(some 29), none, (.bin .neq), [(.t 27), (.t 28)], none⟩, ⟨(some 30), none, .mv, [(.t 29)], none⟩, ⟨(some 31), (some (30, false)), .mv, [(.t 4)], none⟩, ⟨(some 32), (some (30, false)), .mv, [(.t 7)], none⟩, ⟨(some 33), (some (30, false)), (.bin .neq), [(.t 31), (.t 32)], none⟩, ⟨(some 34), none, .pick, [(.t 30), (.c (.lit (.bool true))), (.t 33)], none⟩, ⟨(some 35), none, .mv, [(.t 34)], none⟩, ⟨(some 36), (some (35, false)), .mv, [(.t 5)], none⟩, ⟨(some 37), (some (35, false)), .mv, [(.t 8)], none⟩, ⟨(some 38), (some (35, false)), (.bin .neq), [(.t 36), (.t 37)], none⟩, ⟨(some 39), none, .pick, [(.t 35), (.c (.lit (.bool true))), (.t 38)], none⟩]) (.cond (.t 39) c_theorbolaw01_InstrumentRanges_p2 .skip)) c_theorbolaw01_InstrumentRanges_p9)
set_option maxRecDepth 100000 in
abbrev c_theorbolaw01_InstrumentRanges_p11 : VC :=
  (.seq (.ops 0 [⟨(some 22), none, (.ldA 2), [(.t 1)], none⟩, ⟨(some 23), none, (.call 50), [(.t 22)], none⟩, ⟨(some 21), none, .mv, [(.t 23)], none⟩, ⟨(some 24), none, (.ext 0), [(.t 21)], none⟩, ⟨(some 25), none, (.ext 1), [(.t 21)], none⟩, ⟨(some 26), none, (.ext 2), [(.t 21)], none⟩, ⟨(some 6), none, .mv, [(.t 24)], none⟩, ⟨(some 7), none, .mv, [(.t 25)], none⟩, ⟨(some 8), none, .mv, [(.t 26)], none⟩]) c_theorbolaw01_InstrumentRanges_p10)
set_option maxRecDepth 100000 in
abbrev c_theorbolaw01_InstrumentRanges_p12 : VC :=
  (.seq (.ops 0 [⟨(some 15), none, (.ldA 2), [(.t 1)], none⟩, ⟨(some 16), none, (.call 28), [(.t 15)], none⟩, ⟨(some 17), none, (.call 49), [(.t 16)], none⟩, ⟨(some 14), none, .mv, [(.t 17)], none⟩, ⟨(some 18), none, (.ext 0), [(.t 14)], none⟩, ⟨(some 19), none, (.ext 1), [(.t 14)], none⟩, ⟨(some 20), none, (.ext 2), [(.t 14)], none⟩, ⟨(some 3), none, .mv, [(.t 18)], none⟩, ⟨(some 4), none, .mv, [(.t 19)], none⟩, ⟨(some 5), none, .mv, [(.t 20)], none⟩]) c_theorbolaw01_InstrumentRanges_p11)
set_option maxRecDepth 100000 in
abbrev c_theorbolaw01_InstrumentRanges_p13 : VC :=
  (.seq (.seq (.ops 0 [⟨(some 11), none, (.ldA 2), [(.t 1)], none⟩, ⟨(some 12), none, (.call 26), [(.t 11)], none⟩]) (.cond (.t 12) c_theorbolaw01_InstrumentRanges_p1 .skip)) c_theorbolaw01_InstrumentRanges_p12)
set_option maxRecDepth 100000 in
def c_theorbolaw01_InstrumentRanges : VC :=
  (.seq (.ops 2 [⟨(some 1), none, (.box 39), [(.t 0)], none⟩, ⟨(some 2), none, .mv, [(.c (.lit (.bool false)))], none⟩]) c_theorbolaw01_InstrumentRanges_p13)
set_option maxRecDepth 100000 in
theorem k_theorbolaw01_InstrumentRanges : Comp Tryd.prog nobx gtab 16 82 c_theorbolaw01_InstrumentRanges [(.t 2)] := ⟨⟨Tryd.f16, _, Tryd.func16, rfl, rfl, by kernel_rfl, by kernel_rfl⟩⟩
end Go.Proofs.YtbdhjpdjbogggaaDoor
