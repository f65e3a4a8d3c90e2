/- Functions of the program, as code on values by numbers: printed by a program from the program that was given, and held against it here. -/
import Derived.Test.YtojjdkoglhecbaaG0
namespace Go.Proofs.Ytojjdkoglhecbaa
open Go.RowKit

set_option maxRecDepth 100000 in
abbrev c_cmp_isNaN_int_a_p1 : VC :=
  (.seq (.ops 0 [⟨(some 3), none, .mv, [(.t 0)], none⟩, ⟨(some 4), none, .mv, [(.t 0)], none⟩, ⟨(some 5), none, (.bin .neq), [(.t 3), (.t 4)], none⟩, ⟨(some 2), none, .mv, [(.t 5)], none⟩]) .ret)
set_option maxRecDepth 100000 in
def c_cmp_isNaN_int_a : VC :=
  (.seq (.ops 0 [⟨(some 2), none, .mv, [(.c (.lit (.bool false)))], none⟩]) c_cmp_isNaN_int_a_p1)
set_option maxRecDepth 100000 in
theorem k_cmp_isNaN_int_a : Comp Try.prog allbx gtab 128 6 c_cmp_isNaN_int_a [(.t 2)] := ⟨⟨Try.f128, _, Try.func128, rfl, rfl, by kernel_rfl, by kernel_rfl⟩⟩
set_option maxRecDepth 100000 in
abbrev c_slices_IndexFunc_api_Place_api_Place_a_p1 : VC :=
  (.seq (.ops 0 [⟨(some 17), none, .mv, [(.t 5)], none⟩, ⟨(some 4), none, .mv, [(.t 17)], none⟩]) .ret)
set_option maxRecDepth 100000 in
abbrev c_slices_IndexFunc_api_Place_api_Place_a_p2 : VC :=
  (.cond (.t 16) c_slices_IndexFunc_api_Place_api_Place_a_p1 .skip)
set_option maxRecDepth 100000 in
abbrev c_slices_IndexFunc_api_Place_api_Place_a_p3 : VC :=
  (.seq (.ops 0 [⟨(some 11), none, .mv, [(.t 1)], none⟩, ⟨(some 12), none, .mv, [(.t 0)], none⟩, ⟨(some 13), none, .mv, [(.t 5)], none⟩, ⟨(some 14), none, (.ixA 2), [(.t 12), (.t 13)], none⟩, ⟨(some 15), none, (.ldA 2), [(.t 14)], none⟩, ⟨(some 16), none, .callv, [(.t 11), (.t 15)], none⟩]) c_slices_IndexFunc_api_Place_api_Place_a_p2)
set_option maxRecDepth 100000 in
abbrev c_slices_IndexFunc_api_Place_api_Place_a_p4 : VC :=
  (.ops 0 [⟨(some 18), none, (.bin .add), [(.t 8), (.c (.lit (.int .i64 1)))], none⟩, ⟨(some 8), none, .mv, [(.t 18)], none⟩])
set_option maxRecDepth 100000 in
abbrev c_slices_IndexFunc_api_Place_api_Place_a_p5 : VC :=
  (.seq (.block 1 (.seq (.ops 0 [⟨(some 10), none, .mv, [(.t 8)], none⟩, ⟨(some 5), none, .mv, [(.t 10)], none⟩]) c_slices_IndexFunc_api_Place_api_Place_a_p3)) c_slices_IndexFunc_api_Place_api_Place_a_p4)
set_option maxRecDepth 100000 in
abbrev c_slices_IndexFunc_api_Place_api_Place_a_p6 : VC :=
  (.seq (.cond (.t 9) .skip (.exit 0)) c_slices_IndexFunc_api_Place_api_Place_a_p5)
set_option maxRecDepth 100000 in
abbrev c_slices_IndexFunc_api_Place_api_Place_a_p7 : VC :=
  (.seq (.ops 0 [⟨(some 9), none, (.bin .lss), [(.t 8), (.t 7)], none⟩]) c_slices_IndexFunc_api_Place_api_Place_a_p6)
set_option maxRecDepth 100000 in
abbrev c_slices_IndexFunc_api_Place_api_Place_a_p8 : VC :=
  (.block 0 (.loop c_slices_IndexFunc_api_Place_api_Place_a_p7))
set_option maxRecDepth 100000 in
abbrev c_slices_IndexFunc_api_Place_api_Place_a_p9 : VC :=
  (.seq (.ops 0 [⟨(some 4), none, .mv, [(.c (.lit (.int .i64 (-1))))], none⟩]) .ret)
set_option maxRecDepth 100000 in
abbrev c_slices_IndexFunc_api_Place_api_Place_a_p10 : VC :=
  (.seq (.seq (.ops 0 [⟨(some 6), none, .mv, [(.t 0)], none⟩, ⟨(some 7), none, .len, [(.t 6)], none⟩, ⟨(some 8), none, .mv, [(.c (.lit (.int .i64 0)))], none⟩]) c_slices_IndexFunc_api_Place_api_Place_a_p8) c_slices_IndexFunc_api_Place_api_Place_a_p9)
set_option maxRecDepth 100000 in
def c_slices_IndexFunc_api_Place_api_Place_a : VC :=
  (.seq (.ops 0 [⟨(some 4), none, .mv, [(.c (.lit (.int .i64 0)))], none⟩]) c_slices_IndexFunc_api_Place_api_Place_a_p10)
set_option maxRecDepth 100000 in
theorem k_slices_IndexFunc_api_Place_api_Place_a : Comp Try.prog allbx gtab 129 19 c_slices_IndexFunc_api_Place_api_Place_a [(.t 4)] := ⟨⟨Try.f129, _, Try.func129, rfl, rfl, by kernel_rfl, by kernel_rfl⟩⟩
set_option maxRecDepth 100000 in
abbrev c_hand_down_1_a_p1 : VC :=
  (.seq (.ops 0 [⟨(some 4), none, (.fldA 0), [(.t 2)], none⟩, ⟨(some 5), none, .ld1, [(.t 4)], none⟩, ⟨(some 6), none, .ld1, [(.t 1)], none⟩, ⟨(some 7), none, (.bin .eql), [(.t 5), (.t 6)], none⟩, ⟨(some 3), none, .mv, [(.t 7)], none⟩]) .ret)
set_option maxRecDepth 100000 in
def c_hand_down_1_a : VC :=
  (.seq (.ops 2 [⟨(some 2), none, (.box 92), [(.t 0)], none⟩, ⟨(some 3), none, .mv, [(.c (.lit (.bool false)))], none⟩]) c_hand_down_1_a_p1)
set_option maxRecDepth 100000 in
theorem k_hand_down_1_a : Comp Try.prog allbx gtab 130 8 c_hand_down_1_a [(.t 3)] := ⟨⟨Try.f130, _, Try.func130, rfl, rfl, by kernel_rfl, by kernel_rfl⟩⟩
set_option maxRecDepth 100000 in
abbrev c_hand_net_settle_1_a_p1 : VC :=
  (.ops 0 [⟨(some 31), none, .mv, [(.t 8)], none⟩, ⟨none, none, (.st 1), [(.t 5), (.t 31)], none⟩])
set_option maxRecDepth 100000 in
abbrev c_hand_net_settle_1_a_p2 : VC :=
  (.seq (.ops 0 [⟨(some 24), none, .ld1, [(.t 5)], none⟩, ⟨(some 25), none, (.bin .eql), [(.t 24), (.c (.lit (.int .i64 (-1))))], none⟩, ⟨(some 26), none, .mv, [(.t 25)], none⟩, ⟨(some 27), (some (26, false)), .mv, [(.t 8)], none⟩, ⟨(some 28), (some (26, false)), .ld1, [(.t 5)], none⟩, ⟨(some 29), (some (26, false)), (.bin .lss), [(.t 27), (.t 28)], none⟩, ⟨(some 30), none, .pick, [(.t 26), (.c (.lit (.bool true))), (.t 29)], none⟩]) (.cond (.t 30) c_hand_net_settle_1_a_p1 .skip))
set_option maxRecDepth 100000 in
def c_hand_net_settle_1_a : VC :=
  (.seq (.ops 0 [⟨(some 9), none, .ld1, [(.t 2)], (some [])⟩, ⟨(some 10), none, .mv, [(.t 1)], none⟩, ⟨(some 11), none, (.bin .add), [(.t 9), (.t 10)], none⟩, ⟨(some 12), none, .ld1, [(.t 3)], (some [])⟩, ⟨(some 13), none, .nilck, [(.t 12)], none⟩, ⟨(some 14), none, (.fldA 13), [(.t 13)], none⟩, ⟨(some 15), none, .ld1, [(.t 14)], (some [3, 4, 5])⟩, ⟨(some 16), none, .ld1, [(.t 4)], (some [])⟩, ⟨(some 17), none, (.bin .add), [(.t 16), (.c (.lit (.int .i64 1)))], none⟩, ⟨(some 18), none, (.ixA 1), [(.t 15), (.t 17)], none⟩, ⟨(some 19), none, .ld1, [(.t 18)], (some [3, 4, 5, 6, 7, 8, 9])⟩, ⟨(some 20), none, .mv, [(.t 0)], none⟩, ⟨(some 21), none, (.ixA 1), [(.t 19), (.t 20)], none⟩, ⟨(some 22), none, .ld1, [(.t 21)], (some [3, 4, 5, 6, 7, 8, 9, 10, 11, 12])⟩, ⟨(some 23), none, (.bin .add), [(.t 11), (.t 22)], none⟩, ⟨(some 8), none, .mv, [(.t 23)], none⟩]) c_hand_net_settle_1_a_p2)
set_option maxRecDepth 100000 in
theorem k_hand_net_settle_1_a : Comp Try.prog allbx gtab 131 32 c_hand_net_settle_1_a [] := ⟨⟨Try.f131, _, Try.func131, rfl, rfl, by kernel_rfl, by kernel_rfl⟩⟩
set_option maxRecDepth 100000 in
abbrev c_hand_spans_1_a_p1 : VC :=
  (.seq (.ops 0 [⟨(some 5), none, .mv, [(.t 0)], none⟩, ⟨(some 6), none, .ld1, [(.t 1)], none⟩, ⟨(some 7), none, (.bin .gtr), [(.t 5), (.t 6)], none⟩, ⟨(some 8), none, .mv, [(.t 7)], none⟩, ⟨(some 9), (some (8, true)), .mv, [(.t 0)], none⟩, ⟨(some 10), (some (8, true)), .ld1, [(.t 2)], none⟩, ⟨(some 11), (some (8, true)), (.bin .lss), [(.t 9), (.t 10)], none⟩, ⟨(some 12), none, .pick, [(.t 8), (.t 11), (.c (.lit (.bool false)))], none⟩, ⟨(some 4), none, .mv, [(.t 12)], none⟩]) .ret)
set_option maxRecDepth 100000 in
def c_hand_spans_1_a : VC :=
  (.seq (.ops 0 [⟨(some 4), none, .mv, [(.c (.lit (.bool false)))], none⟩]) c_hand_spans_1_a_p1)
set_option maxRecDepth 100000 in
theorem k_hand_spans_1_a : Comp Try.prog allbx gtab 132 13 c_hand_spans_1_a [(.t 4)] := ⟨⟨Try.f132, _, Try.func132, rfl, rfl, by kernel_rfl, by kernel_rfl⟩⟩
set_option maxRecDepth 100000 in
abbrev c_hand_spans_2_a_p1 : VC :=
  (.seq (.ops 0 [⟨(some 4), none, (.fldA 1), [(.t 2)], none⟩, ⟨(some 5), none, .ld1, [(.t 4)], none⟩, ⟨(some 6), none, .ld1, [(.t 1)], none⟩, ⟨(some 7), none, (.bin .lss), [(.t 5), (.t 6)], none⟩, ⟨(some 3), none, .mv, [(.t 7)], none⟩]) .ret)
set_option maxRecDepth 100000 in
def c_hand_spans_2_a : VC :=
  (.seq (.ops 2 [⟨(some 2), none, (.box 92), [(.t 0)], none⟩, ⟨(some 3), none, .mv, [(.c (.lit (.bool false)))], none⟩]) c_hand_spans_2_a_p1)
set_option maxRecDepth 100000 in
theorem k_hand_spans_2_a : Comp Try.prog allbx gtab 133 8 c_hand_spans_2_a [(.t 3)] := ⟨⟨Try.f133, _, Try.func133, rfl, rfl, by kernel_rfl, by kernel_rfl⟩⟩
set_option maxRecDepth 100000 in
abbrev c_hand_lister_node_a_p1 : VC :=
  (.ops 0 [⟨(some 43), none, .ld1, [(.t 7)], (some [])⟩, ⟨(some 44), none, .nilck, [(.t 43)], none⟩, ⟨(some 45), none, (.fldA 1), [(.t 44)], none⟩, ⟨(some 46), none, .ld1, [(.t 3)], (some [])⟩, ⟨(some 47), none, .nilck, [(.t 46)], none⟩, ⟨(some 48), none, (.fldA 0), [(.t 47)], none⟩, ⟨(some 49), none, .ld1, [(.t 48)], (some [3, 4, 5])⟩, ⟨(some 50), none, .nilck, [(.t 49)], none⟩, ⟨(some 51), none, (.fldA 12), [(.t 50)], none⟩, ⟨(some 52), none, .ld1, [(.t 51)], (some [3, 4, 5, 6, 7, 8])⟩, ⟨(some 53), none, .ld1, [(.t 4)], (some [])⟩, ⟨(some 54), none, (.ixA 1), [(.t 52), (.t 53)], none⟩, ⟨(some 55), none, .ld1, [(.t 54)], (some [3, 4, 5, 6, 7, 8, 9, 10, 11])⟩, ⟨(some 56), none, .ld1, [(.t 5)], (some [])⟩, ⟨(some 57), none, (.ixA 1), [(.t 55), (.t 56)], none⟩, ⟨(some 58), none, .ld1, [(.t 57)], (some [3, 4, 5, 6, 7, 8, 9, 10, 11, 12, 13, 14])⟩, ⟨(some 59), none, (.build [(.lit (.int .i64 0)), (.lit (.int .i64 0)), (.lit (.int .i64 0))] [(0, 1), (1, 1), (2, 1)]), [(.t 58), (.c (.lit (.int .i64 (-1)))), (.c (.lit (.int .i64 0)))], none⟩, ⟨(some 60), none, (.call 111), [(.t 45), (.t 59)], none⟩])
set_option maxRecDepth 100000 in
abbrev c_hand_lister_node_a_p2 : VC :=
  (.ops 0 [⟨(some 61), none, .ld1, [(.t 3)], (some [])⟩, ⟨(some 62), none, .nilck, [(.t 61)], none⟩, ⟨(some 63), none, (.fldA 0), [(.t 62)], none⟩, ⟨(some 64), none, .ld1, [(.t 63)], (some [0, 1, 2])⟩, ⟨(some 65), none, .ld1, [(.t 4)], (some [])⟩, ⟨(some 66), none, .ld1, [(.t 5)], (some [])⟩, ⟨(some 67), none, (.mkfn 138), [(.t 7), (.t 3), (.t 4), (.t 5)], none⟩, ⟨(some 68), none, (.call 88), [(.t 64), (.t 65), (.t 66), (.t 67)], none⟩])
set_option maxRecDepth 100000 in
abbrev c_hand_lister_node_a_p3 : VC :=
  (.seq (.seq (.ops 0 [⟨(some 32), none, .ld1, [(.t 4)], (some [])⟩, ⟨(some 33), none, .ld1, [(.t 3)], (some [])⟩, ⟨(some 34), none, .nilck, [(.t 33)], none⟩, ⟨(some 35), none, (.fldA 0), [(.t 34)], none⟩, ⟨(some 36), none, .ld1, [(.t 35)], (some [1, 2, 3])⟩, ⟨(some 37), none, .nilck, [(.t 36)], none⟩, ⟨(some 38), none, (.fldA 10), [(.t 37)], none⟩, ⟨(some 39), none, .ld1, [(.t 38)], (some [1, 2, 3, 4, 5, 6])⟩, ⟨(some 40), none, .len, [(.t 39)], none⟩, ⟨(some 41), none, (.bin .sub), [(.t 40), (.c (.lit (.int .i64 1)))], none⟩, ⟨(some 42), none, (.bin .eql), [(.t 32), (.t 41)], none⟩]) (.cond (.t 42) c_hand_lister_node_a_p1 .skip)) c_hand_lister_node_a_p2)
set_option maxRecDepth 100000 in
abbrev c_hand_lister_node_a_p4 : VC :=
  (.seq (.ops 0 [⟨(some 22), none, .ld1, [(.t 3)], (some [])⟩, ⟨(some 23), none, .nilck, [(.t 22)], none⟩, ⟨(some 24), none, (.fldA 1), [(.t 23)], none⟩, ⟨(some 25), none, .ld1, [(.t 24)], (some [0, 1, 2])⟩, ⟨(some 26), none, .ld1, [(.t 4)], (some [])⟩, ⟨(some 27), none, (.ixA 1), [(.t 25), (.t 26)], none⟩, ⟨(some 28), none, .ld1, [(.t 27)], (some [0, 1, 2, 3, 4, 5])⟩, ⟨(some 29), none, .ld1, [(.t 5)], (some [])⟩, ⟨(some 30), none, .ld1, [(.t 7)], (some [])⟩, ⟨(some 31), none, (.ixA 1), [(.t 28), (.t 29)], none⟩, ⟨none, none, (.st 1), [(.t 31), (.t 30)], none⟩]) c_hand_lister_node_a_p3)
set_option maxRecDepth 100000 in
abbrev c_hand_lister_node_a_p5 : VC :=
  (.seq (.ops 5 [⟨(some 19), none, (.build [(.sl 0 [] .exact), (.lit .nilFunc)] [(1, 1)]), [(.c (.fn 110 []))], none⟩, ⟨(some 20), none, (.build [(.sl 0 [] .exact), (.sl 0 [] .exact), (.lit .nilFunc), (.lit (.bool false))] [(1, 2)]), [(.t 19)], none⟩, ⟨(some 21), none, (.box 159), [(.t 20)], none⟩, ⟨(some 7), none, (.alloc 150 [(.lit (.pointer none))]), [], none⟩, ⟨none, none, (.st 1), [(.t 7), (.t 21)], none⟩]) c_hand_lister_node_a_p4)
set_option maxRecDepth 100000 in
abbrev c_hand_lister_node_a_p6 : VC :=
  (.seq (.ops 0 [⟨(some 69), none, .ld1, [(.t 3)], (some [])⟩, ⟨(some 70), none, .nilck, [(.t 69)], none⟩, ⟨(some 71), none, (.fldA 1), [(.t 70)], none⟩, ⟨(some 72), none, .ld1, [(.t 71)], (some [0, 1, 2])⟩, ⟨(some 73), none, .ld1, [(.t 4)], (some [])⟩, ⟨(some 74), none, (.ixA 1), [(.t 72), (.t 73)], none⟩, ⟨(some 75), none, .ld1, [(.t 74)], (some [0, 1, 2, 3, 4, 5])⟩, ⟨(some 76), none, .ld1, [(.t 5)], (some [])⟩, ⟨(some 77), none, (.ixA 1), [(.t 75), (.t 76)], none⟩, ⟨(some 78), none, .ld1, [(.t 77)], none⟩, ⟨(some 6), none, .mv, [(.t 78)], none⟩]) .ret)
set_option maxRecDepth 100000 in
abbrev c_hand_lister_node_a_p7 : VC :=
  (.seq (.seq (.ops 0 [⟨(some 8), none, .ld1, [(.t 3)], (some [])⟩, ⟨(some 9), none, .nilck, [(.t 8)], none⟩, ⟨(some 10), none, (.fldA 1), [(.t 9)], none⟩, ⟨(some 11), none, .ld1, [(.t 10)], (some [0, 1, 2])⟩, ⟨(some 12), none, .ld1, [(.t 4)], (some [])⟩, ⟨(some 13), none, (.ixA 1), [(.t 11), (.t 12)], none⟩, ⟨(some 14), none, .ld1, [(.t 13)], (some [0, 1, 2, 3, 4, 5])⟩, ⟨(some 15), none, .ld1, [(.t 5)], (some [])⟩, ⟨(some 16), none, (.ixA 1), [(.t 14), (.t 15)], none⟩, ⟨(some 17), none, .ld1, [(.t 16)], none⟩, ⟨(some 18), none, (.eqQ false), [(.t 17)], none⟩]) (.cond (.t 18) c_hand_lister_node_a_p5 .skip)) c_hand_lister_node_a_p6)
set_option maxRecDepth 100000 in
def c_hand_lister_node_a : VC :=
  (.seq (.ops 4 [⟨(some 3), none, (.box 110), [(.t 0)], none⟩, ⟨(some 4), none, (.box 3), [(.t 1)], none⟩, ⟨(some 5), none, (.box 3), [(.t 2)], none⟩, ⟨(some 6), none, .mv, [(.c (.lit (.pointer none)))], none⟩]) c_hand_lister_node_a_p7)
set_option maxRecDepth 100000 in
theorem k_hand_lister_node_a : Comp Try.prog allbx gtab 134 79 c_hand_lister_node_a [(.t 6)] := ⟨⟨Try.f134, _, Try.func134, rfl, rfl, by kernel_rfl, by kernel_rfl⟩⟩
set_option maxRecDepth 100000 in
abbrev c_hand_queue_hand_way_pop_a_p1 : VC :=
  (.seq (.ops 0 [⟨(some 14), none, (.ldA 3), [(.t 2)], none⟩, ⟨none, none, (.st 3), [(.t 2), (.t 14)], none⟩, ⟨(some 3), none, .mv, [(.c (.lit (.bool false)))], none⟩]) .ret)
set_option maxRecDepth 100000 in
abbrev c_hand_queue_hand_way_pop_a_p2 : VC :=
  (.ops 0 [⟨(some 83), none, .mv, [(.t 7)], none⟩, ⟨(some 6), none, .mv, [(.t 83)], none⟩])
set_option maxRecDepth 100000 in
abbrev c_hand_queue_hand_way_pop_a_p3 : VC :=
  (.ops 0 [⟨(some 62), none, .mv, [(.t 7)], none⟩, ⟨(some 63), none, (.bin .add), [(.t 62), (.c (.lit (.int .i64 1)))], none⟩, ⟨(some 7), none, .mv, [(.t 63)], none⟩])
set_option maxRecDepth 100000 in
abbrev c_hand_queue_hand_way_pop_a_p4 : VC :=
  (.seq (.block 3 (.seq (.ops 0 [⟨(some 64), none, .mv, [(.t 0)], none⟩, ⟨(some 65), none, .nilck, [(.t 64)], none⟩, ⟨(some 66), none, (.fldA 1), [(.t 65)], none⟩, ⟨(some 67), none, .ld1, [(.t 66)], (some [0, 1, 2])⟩, ⟨(some 68), none, .mv, [(.t 0)], none⟩, ⟨(some 69), none, .nilck, [(.t 68)], none⟩, ⟨(some 70), none, (.fldA 0), [(.t 69)], none⟩, ⟨(some 71), none, .ld1, [(.t 70)], (some [4, 5, 6])⟩, ⟨(some 72), none, .mv, [(.t 7)], none⟩, ⟨(some 73), none, (.ixA 3), [(.t 71), (.t 72)], none⟩, ⟨(some 74), none, (.ldA 3), [(.t 73)], (some [4, 5, 6, 7, 8, 9])⟩, ⟨(some 75), none, .mv, [(.t 0)], none⟩, ⟨(some 76), none, .nilck, [(.t 75)], none⟩, ⟨(some 77), none, (.fldA 0), [(.t 76)], none⟩, ⟨(some 78), none, .ld1, [(.t 77)], (some [11, 12, 13])⟩, ⟨(some 79), none, .mv, [(.t 6)], none⟩, ⟨(some 80), none, (.ixA 3), [(.t 78), (.t 79)], none⟩, ⟨(some 81), none, (.ldA 3), [(.t 80)], (some [11, 12, 13, 14, 15, 16])⟩, ⟨(some 82), none, .callv, [(.t 67), (.t 74), (.t 81)], none⟩]) (.cond (.t 82) c_hand_queue_hand_way_pop_a_p2 .skip))) c_hand_queue_hand_way_pop_a_p3)
set_option maxRecDepth 100000 in
abbrev c_hand_queue_hand_way_pop_a_p5 : VC :=
  (.seq (.seq (.ops 0 [⟨(some 52), none, .mv, [(.t 7)], none⟩, ⟨(some 53), none, .mv, [(.t 5)], none⟩, ⟨(some 54), none, (.bin .mul), [(.c (.lit (.int .i64 2))), (.t 53)], none⟩, ⟨(some 55), none, (.bin .add), [(.t 54), (.c (.lit (.int .i64 2)))], none⟩, ⟨(some 56), none, (.bin .leq), [(.t 52), (.t 55)], none⟩, ⟨(some 57), none, .mv, [(.t 56)], none⟩, ⟨(some 58), (some (57, true)), .mv, [(.t 7)], none⟩, ⟨(some 59), (some (57, true)), .mv, [(.t 4)], none⟩, ⟨(some 60), (some (57, true)), (.bin .lss), [(.t 58), (.t 59)], none⟩, ⟨(some 61), none, .pick, [(.t 57), (.t 60), (.c (.lit (.bool false)))], none⟩]) (.cond (.t 61) .skip (.exit 2))) c_hand_queue_hand_way_pop_a_p4)
set_option maxRecDepth 100000 in
abbrev c_hand_queue_hand_way_pop_a_p6 : VC :=
  (.seq (.ops 0 [⟨(some 87), none, (.ldA 3), [(.t 2)], none⟩, ⟨none, none, (.st 3), [(.t 2), (.t 87)], none⟩, ⟨(some 3), none, .mv, [(.c (.lit (.bool true)))], none⟩]) .ret)
set_option maxRecDepth 100000 in
abbrev c_hand_queue_hand_way_pop_a_p7 : VC :=
  (.ops 0 [⟨(some 114), none, .mv, [(.t 6)], none⟩, ⟨(some 5), none, .mv, [(.t 114)], none⟩])
set_option maxRecDepth 100000 in
abbrev c_hand_queue_hand_way_pop_a_p8 : VC :=
  (.seq (.ops 0 [⟨(some 88), none, .mv, [(.t 0)], none⟩, ⟨(some 89), none, .nilck, [(.t 88)], none⟩, ⟨(some 90), none, (.fldA 0), [(.t 89)], none⟩, ⟨(some 91), none, .ld1, [(.t 90)], (some [0, 1, 2])⟩, ⟨(some 92), none, .mv, [(.t 5)], none⟩, ⟨(some 93), none, .mv, [(.t 0)], none⟩, ⟨(some 94), none, .nilck, [(.t 93)], none⟩, ⟨(some 95), none, (.fldA 0), [(.t 94)], none⟩, ⟨(some 96), none, .ld1, [(.t 95)], (some [5, 6, 7])⟩, ⟨(some 97), none, .mv, [(.t 6)], none⟩, ⟨(some 98), none, .mv, [(.t 0)], none⟩, ⟨(some 99), none, .nilck, [(.t 98)], none⟩, ⟨(some 100), none, (.fldA 0), [(.t 99)], none⟩, ⟨(some 101), none, .ld1, [(.t 100)], (some [10, 11, 12])⟩, ⟨(some 102), none, .mv, [(.t 6)], none⟩, ⟨(some 103), none, (.ixA 3), [(.t 101), (.t 102)], none⟩, ⟨(some 104), none, (.ldA 3), [(.t 103)], (some [10, 11, 12, 13, 14, 15])⟩, ⟨(some 105), none, .mv, [(.t 0)], none⟩, ⟨(some 106), none, .nilck, [(.t 105)], none⟩, ⟨(some 107), none, (.fldA 0), [(.t 106)], none⟩, ⟨(some 108), none, .ld1, [(.t 107)], (some [17, 18, 19])⟩, ⟨(some 109), none, .mv, [(.t 5)], none⟩, ⟨(some 110), none, (.ixA 3), [(.t 108), (.t 109)], none⟩, ⟨(some 111), none, (.ldA 3), [(.t 110)], (some [17, 18, 19, 20, 21, 22])⟩, ⟨(some 112), none, (.ixA 3), [(.t 91), (.t 92)], none⟩, ⟨none, none, (.st 3), [(.t 112), (.t 104)], none⟩, ⟨(some 113), none, (.ixA 3), [(.t 96), (.t 97)], none⟩, ⟨none, none, (.st 3), [(.t 113), (.t 111)], none⟩]) c_hand_queue_hand_way_pop_a_p7)
set_option maxRecDepth 100000 in
abbrev c_hand_queue_hand_way_pop_a_p9 : VC :=
  (.seq (.seq (.ops 0 [⟨(some 84), none, .mv, [(.t 6)], none⟩, ⟨(some 85), none, .mv, [(.t 5)], none⟩, ⟨(some 86), none, (.bin .eql), [(.t 84), (.t 85)], none⟩]) (.cond (.t 86) c_hand_queue_hand_way_pop_a_p6 .skip)) c_hand_queue_hand_way_pop_a_p8)
set_option maxRecDepth 100000 in
abbrev c_hand_queue_hand_way_pop_a_p10 : VC :=
  (.seq (.seq (.ops 0 [⟨(some 49), none, .mv, [(.t 5)], none⟩, ⟨(some 50), none, (.bin .mul), [(.c (.lit (.int .i64 2))), (.t 49)], none⟩, ⟨(some 51), none, (.bin .add), [(.t 50), (.c (.lit (.int .i64 1)))], none⟩, ⟨(some 7), none, .mv, [(.t 51)], none⟩]) (.block 2 (.loop c_hand_queue_hand_way_pop_a_p5))) c_hand_queue_hand_way_pop_a_p9)
set_option maxRecDepth 100000 in
abbrev c_hand_queue_hand_way_pop_a_p11 : VC :=
  (.block 1 (.seq (.ops 0 [⟨(some 48), none, .mv, [(.t 5)], none⟩, ⟨(some 6), none, .mv, [(.t 48)], none⟩]) c_hand_queue_hand_way_pop_a_p10))
set_option maxRecDepth 100000 in
abbrev c_hand_queue_hand_way_pop_a_p12 : VC :=
  (.seq (.ops 0 [⟨(some 5), none, .mv, [(.c (.lit (.int .i64 0)))], none⟩]) (.block 0 (.loop c_hand_queue_hand_way_pop_a_p11)))
set_option maxRecDepth 100000 in
abbrev c_hand_queue_hand_way_pop_a_p13 : VC :=
  (.seq (.ops 0 [⟨(some 39), none, .mv, [(.t 0)], none⟩, ⟨(some 40), none, .mv, [(.t 0)], none⟩, ⟨(some 41), none, .nilck, [(.t 40)], none⟩, ⟨(some 42), none, (.fldA 0), [(.t 41)], none⟩, ⟨(some 43), none, .ld1, [(.t 42)], none⟩, ⟨(some 44), none, .mv, [(.t 4)], none⟩, ⟨(some 45), none, (.slc 3 false true), [(.t 43), (.t 44)], none⟩, ⟨(some 46), none, .nilck, [(.t 39)], none⟩, ⟨(some 47), none, (.fldA 0), [(.t 46)], none⟩, ⟨none, none, (.st 1), [(.t 47), (.t 45)], none⟩]) c_hand_queue_hand_way_pop_a_p12)
set_option maxRecDepth 100000 in
abbrev c_hand_queue_hand_way_pop_a_p14 : VC :=
  (.seq (.ops 0 [⟨(some 27), none, .mv, [(.t 0)], none⟩, ⟨(some 28), none, .nilck, [(.t 27)], none⟩, ⟨(some 29), none, (.fldA 0), [(.t 28)], none⟩, ⟨(some 30), none, .ld1, [(.t 29)], (some [0, 1, 2])⟩, ⟨(some 31), none, .mv, [(.t 0)], none⟩, ⟨(some 32), none, .nilck, [(.t 31)], none⟩, ⟨(some 33), none, (.fldA 0), [(.t 32)], none⟩, ⟨(some 34), none, .ld1, [(.t 33)], (some [4, 5, 6])⟩, ⟨(some 35), none, .mv, [(.t 4)], none⟩, ⟨(some 36), none, (.ixA 3), [(.t 34), (.t 35)], none⟩, ⟨(some 37), none, (.ldA 3), [(.t 36)], (some [4, 5, 6, 7, 8, 9])⟩, ⟨(some 38), none, (.ixA 3), [(.t 30), (.c (.lit (.int .i64 0)))], none⟩, ⟨none, none, (.st 3), [(.t 38), (.t 37)], none⟩]) c_hand_queue_hand_way_pop_a_p13)
set_option maxRecDepth 100000 in
abbrev c_hand_queue_hand_way_pop_a_p15 : VC :=
  (.seq (.ops 0 [⟨(some 21), none, .mv, [(.t 0)], none⟩, ⟨(some 22), none, .nilck, [(.t 21)], none⟩, ⟨(some 23), none, (.fldA 0), [(.t 22)], none⟩, ⟨(some 24), none, .ld1, [(.t 23)], none⟩, ⟨(some 25), none, .len, [(.t 24)], none⟩, ⟨(some 26), none, (.bin .sub), [(.t 25), (.c (.lit (.int .i64 1)))], none⟩, ⟨(some 4), none, .mv, [(.t 26)], none⟩]) c_hand_queue_hand_way_pop_a_p14)
set_option maxRecDepth 100000 in
abbrev c_hand_queue_hand_way_pop_a_p16 : VC :=
  (.seq (.ops 0 [⟨(some 15), none, .mv, [(.t 0)], none⟩, ⟨(some 16), none, .nilck, [(.t 15)], none⟩, ⟨(some 17), none, (.fldA 0), [(.t 16)], none⟩, ⟨(some 18), none, .ld1, [(.t 17)], none⟩, ⟨(some 19), none, (.ixA 3), [(.t 18), (.c (.lit (.int .i64 0)))], none⟩, ⟨(some 20), none, (.ldA 3), [(.t 19)], none⟩, ⟨none, none, (.st 3), [(.t 2), (.t 20)], none⟩]) c_hand_queue_hand_way_pop_a_p15)
set_option maxRecDepth 100000 in
abbrev c_hand_queue_hand_way_pop_a_p17 : VC :=
  (.seq (.seq (.ops 0 [⟨(some 8), none, .mv, [(.t 0)], none⟩, ⟨(some 9), none, .nilck, [(.t 8)], none⟩, ⟨(some 10), none, (.fldA 0), [(.t 9)], none⟩, ⟨(some 11), none, .ld1, [(.t 10)], none⟩, ⟨(some 12), none, .len, [(.t 11)], none⟩, ⟨(some 13), none, (.bin .eql), [(.t 12), (.c (.lit (.int .i64 0)))], none⟩]) (.cond (.t 13) c_hand_queue_hand_way_pop_a_p1 .skip)) c_hand_queue_hand_way_pop_a_p16)
set_option maxRecDepth 100000 in
def c_hand_queue_hand_way_pop_a : VC :=
  (.seq (.ops 2 [⟨(some 2), none, (.alloc 154 [(.lit (.int .i64 0)), (.lit (.int .i64 0)), (.lit (.int .i64 0))]), [], none⟩, ⟨(some 3), none, .mv, [(.c (.lit (.bool false)))], none⟩]) c_hand_queue_hand_way_pop_a_p17)
set_option maxRecDepth 100000 in
theorem k_hand_queue_hand_way_pop_a : Comp Try.prog allbx gtab 135 115 c_hand_queue_hand_way_pop_a [(.c 2 3 true), (.t 3)] := ⟨⟨Try.f135, _, Try.func135, rfl, rfl, by kernel_rfl, by kernel_rfl⟩⟩
set_option maxRecDepth 100000 in
abbrev c_slices_Index_api_Place_api_Place_a_p1 : VC :=
  (.seq (.ops 0 [⟨(some 17), none, .mv, [(.t 5)], none⟩, ⟨(some 4), none, .mv, [(.t 17)], none⟩]) .ret)
set_option maxRecDepth 100000 in
abbrev c_slices_Index_api_Place_api_Place_a_p2 : VC :=
  (.cond (.t 16) c_slices_Index_api_Place_api_Place_a_p1 .skip)
set_option maxRecDepth 100000 in
abbrev c_slices_Index_api_Place_api_Place_a_p3 : VC :=
  (.seq (.ops 0 [⟨(some 11), none, (.ldA 2), [(.t 3)], (some [])⟩, ⟨(some 12), none, .mv, [(.t 0)], none⟩, ⟨(some 13), none, .mv, [(.t 5)], none⟩, ⟨(some 14), none, (.ixA 2), [(.t 12), (.t 13)], none⟩, ⟨(some 15), none, (.ldA 2), [(.t 14)], (some [1, 2, 3])⟩, ⟨(some 16), none, (.eqP [(0, 0), (1, 0)] false), [(.t 11), (.t 15)], none⟩]) c_slices_Index_api_Place_api_Place_a_p2)
set_option maxRecDepth 100000 in
abbrev c_slices_Index_api_Place_api_Place_a_p4 : VC :=
  (.ops 0 [⟨(some 18), none, (.bin .add), [(.t 8), (.c (.lit (.int .i64 1)))], none⟩, ⟨(some 8), none, .mv, [(.t 18)], none⟩])
set_option maxRecDepth 100000 in
abbrev c_slices_Index_api_Place_api_Place_a_p5 : VC :=
  (.seq (.block 1 (.seq (.ops 0 [⟨(some 10), none, .mv, [(.t 8)], none⟩, ⟨(some 5), none, .mv, [(.t 10)], none⟩]) c_slices_Index_api_Place_api_Place_a_p3)) c_slices_Index_api_Place_api_Place_a_p4)
set_option maxRecDepth 100000 in
abbrev c_slices_Index_api_Place_api_Place_a_p6 : VC :=
  (.seq (.cond (.t 9) .skip (.exit 0)) c_slices_Index_api_Place_api_Place_a_p5)
set_option maxRecDepth 100000 in
abbrev c_slices_Index_api_Place_api_Place_a_p7 : VC :=
  (.seq (.ops 0 [⟨(some 9), none, (.bin .lss), [(.t 8), (.t 7)], none⟩]) c_slices_Index_api_Place_api_Place_a_p6)
set_option maxRecDepth 100000 in
abbrev c_slices_Index_api_Place_api_Place_a_p8 : VC :=
  (.seq (.ops 0 [⟨(some 4), none, .mv, [(.c (.lit (.int .i64 (-1))))], none⟩]) .ret)
set_option maxRecDepth 100000 in
abbrev c_slices_Index_api_Place_api_Place_a_p9 : VC :=
  (.seq (.seq (.ops 0 [⟨(some 6), none, .mv, [(.t 0)], none⟩, ⟨(some 7), none, .len, [(.t 6)], none⟩, ⟨(some 8), none, .mv, [(.c (.lit (.int .i64 0)))], none⟩]) (.block 0 (.loop c_slices_Index_api_Place_api_Place_a_p7))) c_slices_Index_api_Place_api_Place_a_p8)
set_option maxRecDepth 100000 in
def c_slices_Index_api_Place_api_Place_a : VC :=
  (.seq (.ops 2 [⟨(some 3), none, (.box 92), [(.t 1)], none⟩, ⟨(some 4), none, .mv, [(.c (.lit (.int .i64 0)))], none⟩]) c_slices_Index_api_Place_api_Place_a_p9)
set_option maxRecDepth 100000 in
theorem k_slices_Index_api_Place_api_Place_a : Comp Try.prog allbx gtab 136 19 c_slices_Index_api_Place_api_Place_a [(.t 4)] := ⟨⟨Try.f136, _, Try.func136, rfl, rfl, by kernel_rfl, by kernel_rfl⟩⟩
set_option maxRecDepth 100000 in
def c_hand_lister_node_1_a : VC :=
  (.ops 0 [⟨(some 8), none, .ld1, [(.t 2)], (some [])⟩, ⟨(some 9), none, .nilck, [(.t 8)], none⟩, ⟨(some 10), none, (.fldA 1), [(.t 9)], none⟩, ⟨(some 11), none, .ld1, [(.t 3)], (some [])⟩, ⟨(some 12), none, .nilck, [(.t 11)], none⟩, ⟨(some 13), none, (.fldA 0), [(.t 12)], none⟩, ⟨(some 14), none, .ld1, [(.t 13)], (some [3, 4, 5])⟩, ⟨(some 15), none, .nilck, [(.t 14)], none⟩, ⟨(some 16), none, (.fldA 12), [(.t 15)], none⟩, ⟨(some 17), none, .ld1, [(.t 16)], (some [3, 4, 5, 6, 7, 8])⟩, ⟨(some 18), none, .ld1, [(.t 4)], (some [])⟩, ⟨(some 19), none, (.ixA 1), [(.t 17), (.t 18)], none⟩, ⟨(some 20), none, .ld1, [(.t 19)], (some [3, 4, 5, 6, 7, 8, 9, 10, 11])⟩, ⟨(some 21), none, .ld1, [(.t 5)], (some [])⟩, ⟨(some 22), none, (.ixA 1), [(.t 20), (.t 21)], none⟩, ⟨(some 23), none, .ld1, [(.t 22)], (some [3, 4, 5, 6, 7, 8, 9, 10, 11, 12, 13, 14])⟩, ⟨(some 24), none, .mv, [(.t 1)], none⟩, ⟨(some 25), none, (.bin .add), [(.t 23), (.t 24)], none⟩, ⟨(some 26), none, .ld1, [(.t 3)], (some [])⟩, ⟨(some 27), none, .nilck, [(.t 26)], none⟩, ⟨(some 28), none, (.fldA 0), [(.t 27)], none⟩, ⟨(some 29), none, .ld1, [(.t 28)], (some [18, 19, 20])⟩, ⟨(some 30), none, .nilck, [(.t 29)], none⟩, ⟨(some 31), none, (.fldA 13), [(.t 30)], none⟩, ⟨(some 32), none, .ld1, [(.t 31)], (some [18, 19, 20, 21, 22, 23])⟩, ⟨(some 33), none, .ld1, [(.t 4)], (some [])⟩, ⟨(some 34), none, (.bin .add), [(.t 33), (.c (.lit (.int .i64 1)))], none⟩, ⟨(some 35), none, (.ixA 1), [(.t 32), (.t 34)], none⟩, ⟨(some 36), none, .ld1, [(.t 35)], (some [18, 19, 20, 21, 22, 23, 24, 25, 26, 27])⟩, ⟨(some 37), none, .mv, [(.t 0)], none⟩, ⟨(some 38), none, (.ixA 1), [(.t 36), (.t 37)], none⟩, ⟨(some 39), none, .ld1, [(.t 38)], (some [18, 19, 20, 21, 22, 23, 24, 25, 26, 27, 28, 29, 30])⟩, ⟨(some 40), none, (.bin .add), [(.t 25), (.t 39)], none⟩, ⟨(some 41), none, .mv, [(.t 0)], none⟩, ⟨(some 42), none, (.build [(.lit (.int .i64 0)), (.lit (.int .i64 0)), (.lit (.int .i64 0))] [(0, 1), (1, 1), (2, 1)]), [(.t 40), (.t 41), (.c (.lit (.int .i64 0)))], none⟩, ⟨(some 43), none, (.call 111), [(.t 10), (.t 42)], none⟩])
set_option maxRecDepth 100000 in
theorem k_hand_lister_node_1_a : Comp Try.prog allbx gtab 138 44 c_hand_lister_node_1_a [] := ⟨⟨Try.f138, _, Try.func138, rfl, rfl, by kernel_rfl, by kernel_rfl⟩⟩
set_option maxRecDepth 100000 in
abbrev c_hand_way_before_a_p1 : VC :=
  (.seq (.ops 0 [⟨(some 10), none, (.fldA 0), [(.t 2)], none⟩, ⟨(some 11), none, .ld1, [(.t 10)], none⟩, ⟨(some 12), none, (.fldA 0), [(.t 3)], none⟩, ⟨(some 13), none, .ld1, [(.t 12)], none⟩, ⟨(some 14), none, (.bin .lss), [(.t 11), (.t 13)], none⟩, ⟨(some 4), none, .mv, [(.t 14)], none⟩]) .ret)
set_option maxRecDepth 100000 in
abbrev c_hand_way_before_a_p2 : VC :=
  (.seq (.ops 0 [⟨(some 15), none, (.fldA 1), [(.t 2)], none⟩, ⟨(some 16), none, .ld1, [(.t 15)], none⟩, ⟨(some 17), none, (.fldA 1), [(.t 3)], none⟩, ⟨(some 18), none, .ld1, [(.t 17)], none⟩, ⟨(some 19), none, (.bin .lss), [(.t 16), (.t 18)], none⟩, ⟨(some 4), none, .mv, [(.t 19)], none⟩]) .ret)
set_option maxRecDepth 100000 in
abbrev c_hand_way_before_a_p3 : VC :=
  (.seq (.seq (.ops 0 [⟨(some 5), none, (.fldA 0), [(.t 2)], none⟩, ⟨(some 6), none, .ld1, [(.t 5)], none⟩, ⟨(some 7), none, (.fldA 0), [(.t 3)], none⟩, ⟨(some 8), none, .ld1, [(.t 7)], none⟩, ⟨(some 9), none, (.bin .neq), [(.t 6), (.t 8)], none⟩]) (.cond (.t 9) c_hand_way_before_a_p1 .skip)) c_hand_way_before_a_p2)
set_option maxRecDepth 100000 in
def c_hand_way_before_a : VC :=
  (.seq (.ops 3 [⟨(some 2), none, (.box 154), [(.t 0)], none⟩, ⟨(some 3), none, (.box 154), [(.t 1)], none⟩, ⟨(some 4), none, .mv, [(.c (.lit (.bool false)))], none⟩]) c_hand_way_before_a_p3)
set_option maxRecDepth 100000 in
theorem k_hand_way_before_a : Comp Try.prog allbx gtab 110 20 c_hand_way_before_a [(.t 4)] := ⟨⟨Try.f110, _, Try.func110, rfl, rfl, by kernel_rfl, by kernel_rfl⟩⟩
set_option maxRecDepth 100000 in
abbrev c_hand_queue_hand_way_push_a_p1 : VC :=
  (.ops 0 [⟨(some 46), none, .mv, [(.t 4)], none⟩, ⟨(some 47), none, (.bin .sub), [(.t 46), (.c (.lit (.int .i64 1)))], none⟩, ⟨(some 48), none, (.bin .quo), [(.t 47), (.c (.lit (.int .i64 2)))], none⟩, ⟨(some 4), none, .mv, [(.t 48)], none⟩])
set_option maxRecDepth 100000 in
abbrev c_hand_queue_hand_way_push_a_p2 : VC :=
  (.seq (.block 1 (.ops 0 [⟨(some 49), none, .mv, [(.t 0)], none⟩, ⟨(some 50), none, .nilck, [(.t 49)], none⟩, ⟨(some 51), none, (.fldA 0), [(.t 50)], none⟩, ⟨(some 52), none, .ld1, [(.t 51)], (some [0, 1, 2])⟩, ⟨(some 53), none, .mv, [(.t 4)], none⟩, ⟨(some 54), none, .mv, [(.t 0)], none⟩, ⟨(some 55), none, .nilck, [(.t 54)], none⟩, ⟨(some 56), none, (.fldA 0), [(.t 55)], none⟩, ⟨(some 57), none, .ld1, [(.t 56)], (some [5, 6, 7])⟩, ⟨(some 58), none, .mv, [(.t 4)], none⟩, ⟨(some 59), none, (.bin .sub), [(.t 58), (.c (.lit (.int .i64 1)))], none⟩, ⟨(some 60), none, (.bin .quo), [(.t 59), (.c (.lit (.int .i64 2)))], none⟩, ⟨(some 61), none, .mv, [(.t 0)], none⟩, ⟨(some 62), none, .nilck, [(.t 61)], none⟩, ⟨(some 63), none, (.fldA 0), [(.t 62)], none⟩, ⟨(some 64), none, .ld1, [(.t 63)], (some [12, 13, 14])⟩, ⟨(some 65), none, .mv, [(.t 4)], none⟩, ⟨(some 66), none, (.bin .sub), [(.t 65), (.c (.lit (.int .i64 1)))], none⟩, ⟨(some 67), none, (.bin .quo), [(.t 66), (.c (.lit (.int .i64 2)))], none⟩, ⟨(some 68), none, (.ixA 3), [(.t 64), (.t 67)], none⟩, ⟨(some 69), none, (.ldA 3), [(.t 68)], (some [12, 13, 14, 15, 16, 17, 18, 19])⟩, ⟨(some 70), none, .mv, [(.t 0)], none⟩, ⟨(some 71), none, .nilck, [(.t 70)], none⟩, ⟨(some 72), none, (.fldA 0), [(.t 71)], none⟩, ⟨(some 73), none, .ld1, [(.t 72)], (some [21, 22, 23])⟩, ⟨(some 74), none, .mv, [(.t 4)], none⟩, ⟨(some 75), none, (.ixA 3), [(.t 73), (.t 74)], none⟩, ⟨(some 76), none, (.ldA 3), [(.t 75)], (some [21, 22, 23, 24, 25, 26])⟩, ⟨(some 77), none, (.ixA 3), [(.t 52), (.t 53)], none⟩, ⟨none, none, (.st 3), [(.t 77), (.t 69)], none⟩, ⟨(some 78), none, (.ixA 3), [(.t 57), (.t 60)], none⟩, ⟨none, none, (.st 3), [(.t 78), (.t 76)], none⟩])) c_hand_queue_hand_way_push_a_p1)
set_option maxRecDepth 100000 in
abbrev c_hand_queue_hand_way_push_a_p3 : VC :=
  (.seq (.seq (.ops 0 [⟨(some 21), none, .mv, [(.t 4)], none⟩, ⟨(some 22), none, (.bin .gtr), [(.t 21), (.c (.lit (.int .i64 0)))], none⟩, ⟨(some 23), none, .mv, [(.t 22)], none⟩, ⟨(some 24), (some (23, true)), .mv, [(.t 0)], none⟩, ⟨(some 25), (some (23, true)), .nilck, [(.t 24)], none⟩, ⟨(some 26), (some (23, true)), (.fldA 1), [(.t 25)], none⟩, ⟨(some 27), (some (23, true)), .ld1, [(.t 26)], (some [0, 1, 2, 3, 4, 5])⟩, ⟨(some 28), (some (23, true)), .mv, [(.t 0)], none⟩, ⟨(some 29), (some (23, true)), .nilck, [(.t 28)], none⟩, ⟨(some 30), (some (23, true)), (.fldA 0), [(.t 29)], none⟩, ⟨(some 31), (some (23, true)), .ld1, [(.t 30)], (some [0, 1, 2, 7, 8, 9])⟩, ⟨(some 32), (some (23, true)), .mv, [(.t 4)], none⟩, ⟨(some 33), (some (23, true)), (.ixA 3), [(.t 31), (.t 32)], none⟩, ⟨(some 34), (some (23, true)), (.ldA 3), [(.t 33)], (some [0, 1, 2, 7, 8, 9, 10, 11, 12])⟩, ⟨(some 35), (some (23, true)), .mv, [(.t 0)], none⟩, ⟨(some 36), (some (23, true)), .nilck, [(.t 35)], none⟩, ⟨(some 37), (some (23, true)), (.fldA 0), [(.t 36)], none⟩, ⟨(some 38), (some (23, true)), .ld1, [(.t 37)], (some [0, 1, 2, 14, 15, 16])⟩, ⟨(some 39), (some (23, true)), .mv, [(.t 4)], none⟩, ⟨(some 40), (some (23, true)), (.bin .sub), [(.t 39), (.c (.lit (.int .i64 1)))], none⟩, ⟨(some 41), (some (23, true)), (.bin .quo), [(.t 40), (.c (.lit (.int .i64 2)))], none⟩, ⟨(some 42), (some (23, true)), (.ixA 3), [(.t 38), (.t 41)], none⟩, ⟨(some 43), (some (23, true)), (.ldA 3), [(.t 42)], (some [0, 1, 2, 14, 15, 16, 17, 18, 19, 20, 21])⟩, ⟨(some 44), (some (23, true)), .callv, [(.t 27), (.t 34), (.t 43)], none⟩, ⟨(some 45), none, .pick, [(.t 23), (.t 44), (.c (.lit (.bool false)))], none⟩]) (.cond (.t 45) .skip (.exit 0))) c_hand_queue_hand_way_push_a_p2)
set_option maxRecDepth 100000 in
abbrev c_hand_queue_hand_way_push_a_p4 : VC :=
  (.seq (.ops 0 [⟨(some 15), none, .mv, [(.t 0)], none⟩, ⟨(some 16), none, .nilck, [(.t 15)], none⟩, ⟨(some 17), none, (.fldA 0), [(.t 16)], none⟩, ⟨(some 18), none, .ld1, [(.t 17)], none⟩, ⟨(some 19), none, .len, [(.t 18)], none⟩, ⟨(some 20), none, (.bin .sub), [(.t 19), (.c (.lit (.int .i64 1)))], none⟩, ⟨(some 4), none, .mv, [(.t 20)], none⟩]) (.block 0 (.loop c_hand_queue_hand_way_push_a_p3)))
set_option maxRecDepth 100000 in
abbrev c_hand_queue_hand_way_push_a_p5 : VC :=
  (.seq (.ops 11 [⟨(some 5), none, .mv, [(.t 0)], none⟩, ⟨(some 6), none, .mv, [(.t 0)], none⟩, ⟨(some 7), none, .nilck, [(.t 6)], none⟩, ⟨(some 8), none, (.fldA 0), [(.t 7)], none⟩, ⟨(some 9), none, .ld1, [(.t 8)], (some [1, 2, 3])⟩, ⟨(some 10), none, (.ldA 3), [(.t 3)], (some [])⟩, ⟨(some 11), none, (.mkslB 154 1 3 [(.lit (.int .i64 0)), (.lit (.int .i64 0)), (.lit (.int .i64 0))] [(0, 3)]), [(.t 10)], (some [5])⟩, ⟨(some 12), none, (.appM 154 3 24), [(.t 9), (.t 11)], none⟩, ⟨(some 13), none, .nilck, [(.t 5)], none⟩, ⟨(some 14), none, (.fldA 0), [(.t 13)], none⟩, ⟨none, none, (.st 1), [(.t 14), (.t 12)], none⟩]) c_hand_queue_hand_way_push_a_p4)
set_option maxRecDepth 100000 in
def c_hand_queue_hand_way_push_a : VC :=
  (.seq (.ops 1 [⟨(some 3), none, (.box 154), [(.t 1)], none⟩]) c_hand_queue_hand_way_push_a_p5)
set_option maxRecDepth 100000 in
theorem k_hand_queue_hand_way_push_a : Comp Try.prog allbx gtab 111 79 c_hand_queue_hand_way_push_a [] := ⟨⟨Try.f111, _, Try.func111, rfl, rfl, by kernel_rfl, by kernel_rfl⟩⟩
set_option maxRecDepth 100000 in
abbrev c_hand_lister_get_a_p1 : VC :=
  (.ops 0 [⟨(some 24), none, .mv, [(.t 0)], none⟩, ⟨(some 25), none, .mv, [(.t 1)], none⟩, ⟨(some 26), none, .mv, [(.t 2)], none⟩, ⟨(some 27), none, (.call 134), [(.t 24), (.t 25), (.t 26)], none⟩, ⟨(some 10), none, .mv, [(.t 27)], none⟩])
set_option maxRecDepth 100000 in
abbrev c_hand_lister_get_a_p2 : VC :=
  (.ops 0 [⟨(some 75), none, .mv, [(.t 10)], none⟩, ⟨(some 76), none, .nilck, [(.t 75)], none⟩, ⟨(some 77), none, (.fldA 1), [(.t 76)], none⟩, ⟨(some 78), none, (.fldA 0), [(.t 11)], none⟩, ⟨(some 79), none, .ld1, [(.t 78)], (some [3])⟩, ⟨(some 80), none, (.fldA 0), [(.t 14)], none⟩, ⟨(some 81), none, .ld1, [(.t 80)], (some [5])⟩, ⟨(some 82), none, (.bin .add), [(.t 79), (.t 81)], none⟩, ⟨(some 83), none, (.fldA 0), [(.t 12)], none⟩, ⟨(some 84), none, .ld1, [(.t 83)], (some [8])⟩, ⟨(some 85), none, (.bin .sub), [(.t 82), (.t 84)], none⟩, ⟨(some 86), none, (.fldA 1), [(.t 11)], none⟩, ⟨(some 87), none, .ld1, [(.t 86)], (some [11])⟩, ⟨(some 88), none, (.fldA 2), [(.t 11)], none⟩, ⟨(some 89), none, .ld1, [(.t 88)], (some [13])⟩, ⟨(some 90), none, (.bin .add), [(.t 89), (.c (.lit (.int .i64 1)))], none⟩, ⟨(some 91), none, (.build [(.lit (.int .i64 0)), (.lit (.int .i64 0)), (.lit (.int .i64 0))] [(0, 1), (1, 1), (2, 1)]), [(.t 85), (.t 87), (.t 90)], none⟩, ⟨(some 92), none, (.call 111), [(.t 77), (.t 91)], none⟩])
set_option maxRecDepth 100000 in
abbrev c_hand_lister_get_a_p3 : VC :=
  (.seq (.ops 0 [⟨(some 74), none, .mv, [(.t 15)], none⟩]) (.cond (.t 74) c_hand_lister_get_a_p2 .skip))
set_option maxRecDepth 100000 in
abbrev c_hand_lister_get_a_p4 : VC :=
  (.ops 0 [⟨(some 93), none, .mv, [(.t 10)], none⟩, ⟨(some 94), none, .nilck, [(.t 93)], none⟩, ⟨(some 95), none, (.fldA 3), [(.t 94)], none⟩, ⟨none, none, (.st 1), [(.t 95), (.c (.lit (.bool false)))], none⟩])
set_option maxRecDepth 100000 in
abbrev c_hand_lister_get_a_p5 : VC :=
  (.seq (.seq (.ops 15 [⟨(some 63), none, .mv, [(.t 0)], none⟩, ⟨(some 64), none, .mv, [(.t 1)], none⟩, ⟨(some 65), none, (.bin .add), [(.t 64), (.c (.lit (.int .i64 1)))], none⟩, ⟨(some 66), none, (.fldA 1), [(.t 11)], none⟩, ⟨(some 67), none, .ld1, [(.t 66)], none⟩, ⟨(some 68), none, (.fldA 2), [(.t 11)], none⟩, ⟨(some 69), none, .ld1, [(.t 68)], none⟩, ⟨(some 70), none, (.bin .add), [(.t 69), (.c (.lit (.int .i64 1)))], none⟩, ⟨(some 71), none, (.call 112), [(.t 63), (.t 65), (.t 67), (.t 70)], none⟩, ⟨(some 62), none, .mv, [(.t 71)], none⟩, ⟨(some 72), none, (.ext 0), [(.t 62)], none⟩, ⟨(some 73), none, (.ext 1), [(.t 62)], none⟩, ⟨(some 14), none, (.alloc 154 [(.lit (.int .i64 0)), (.lit (.int .i64 0)), (.lit (.int .i64 0))]), [], none⟩, ⟨none, none, (.st 3), [(.t 14), (.t 72)], none⟩, ⟨(some 15), none, .mv, [(.t 73)], none⟩]) c_hand_lister_get_a_p3) c_hand_lister_get_a_p4)
set_option maxRecDepth 100000 in
abbrev c_hand_lister_get_a_p6 : VC :=
  (.seq (.ops 14 [⟨(some 52), none, .mv, [(.t 0)], none⟩, ⟨(some 53), none, .mv, [(.t 1)], none⟩, ⟨(some 54), none, (.bin .add), [(.t 53), (.c (.lit (.int .i64 1)))], none⟩, ⟨(some 55), none, (.fldA 1), [(.t 11)], none⟩, ⟨(some 56), none, .ld1, [(.t 55)], none⟩, ⟨(some 57), none, (.fldA 2), [(.t 11)], none⟩, ⟨(some 58), none, .ld1, [(.t 57)], none⟩, ⟨(some 59), none, (.call 112), [(.t 52), (.t 54), (.t 56), (.t 58)], none⟩, ⟨(some 51), none, .mv, [(.t 59)], none⟩, ⟨(some 60), none, (.ext 0), [(.t 51)], none⟩, ⟨(some 61), none, (.ext 1), [(.t 51)], none⟩, ⟨(some 12), none, (.alloc 154 [(.lit (.int .i64 0)), (.lit (.int .i64 0)), (.lit (.int .i64 0))]), [], none⟩, ⟨none, none, (.st 3), [(.t 12), (.t 60)], none⟩, ⟨(some 13), none, .mv, [(.t 61)], none⟩]) c_hand_lister_get_a_p5)
set_option maxRecDepth 100000 in
abbrev c_hand_lister_get_a_p7 : VC :=
  (.seq (.ops 14 [⟨(some 39), none, .mv, [(.t 10)], none⟩, ⟨(some 40), none, .nilck, [(.t 39)], none⟩, ⟨(some 41), none, (.fldA 0), [(.t 40)], none⟩, ⟨(some 42), none, .ld1, [(.t 41)], (some [0, 1, 2])⟩, ⟨(some 43), none, .mv, [(.t 10)], none⟩, ⟨(some 44), none, .nilck, [(.t 43)], none⟩, ⟨(some 45), none, (.fldA 0), [(.t 44)], none⟩, ⟨(some 46), none, .ld1, [(.t 45)], (some [4, 5, 6])⟩, ⟨(some 47), none, .len, [(.t 46)], none⟩, ⟨(some 48), none, (.bin .sub), [(.t 47), (.c (.lit (.int .i64 1)))], none⟩, ⟨(some 49), none, (.ixA 3), [(.t 42), (.t 48)], none⟩, ⟨(some 50), none, (.ldA 3), [(.t 49)], (some [0, 1, 2, 3, 4, 5, 6, 7, 8, 9, 10])⟩, ⟨(some 11), none, (.alloc 154 [(.lit (.int .i64 0)), (.lit (.int .i64 0)), (.lit (.int .i64 0))]), [], (some [])⟩, ⟨none, none, (.st 3), [(.t 11), (.t 50)], none⟩]) c_hand_lister_get_a_p6)
set_option maxRecDepth 100000 in
abbrev c_hand_lister_get_a_p8 : VC :=
  (.seq (.ops 0 [⟨(some 105), none, (.build [(.lit (.int .i64 0)), (.lit (.int .i64 0)), (.lit (.int .i64 0))] []), [], none⟩, ⟨none, none, (.st 3), [(.t 8), (.t 105)], none⟩, ⟨(some 9), none, .mv, [(.c (.lit (.bool false)))], none⟩]) .ret)
set_option maxRecDepth 100000 in
abbrev c_hand_lister_get_a_p9 : VC :=
  (.ops 0 [⟨(some 116), none, .mv, [(.t 10)], none⟩, ⟨(some 117), none, (.fldA 1), [(.t 16)], none⟩, ⟨(some 118), none, .ld1, [(.t 117)], none⟩, ⟨(some 119), none, (.bin .neq), [(.t 118), (.c (.lit (.int .i64 (-1))))], none⟩, ⟨(some 120), none, .nilck, [(.t 116)], none⟩, ⟨(some 121), none, (.fldA 3), [(.t 120)], none⟩, ⟨none, none, (.st 1), [(.t 121), (.t 119)], none⟩])
set_option maxRecDepth 100000 in
abbrev c_hand_lister_get_a_p10 : VC :=
  (.seq (.ops 11 [⟨(some 106), none, .mv, [(.t 10)], none⟩, ⟨(some 107), none, .mv, [(.t 10)], none⟩, ⟨(some 108), none, .nilck, [(.t 107)], none⟩, ⟨(some 109), none, (.fldA 0), [(.t 108)], none⟩, ⟨(some 110), none, .ld1, [(.t 109)], (some [1, 2, 3])⟩, ⟨(some 111), none, (.ldA 3), [(.t 16)], (some [])⟩, ⟨(some 112), none, (.mkslB 154 1 3 [(.lit (.int .i64 0)), (.lit (.int .i64 0)), (.lit (.int .i64 0))] [(0, 3)]), [(.t 111)], (some [5])⟩, ⟨(some 113), none, (.appM 154 3 24), [(.t 110), (.t 112)], none⟩, ⟨(some 114), none, .nilck, [(.t 106)], none⟩, ⟨(some 115), none, (.fldA 0), [(.t 114)], none⟩, ⟨none, none, (.st 1), [(.t 115), (.t 113)], none⟩]) c_hand_lister_get_a_p9)
set_option maxRecDepth 100000 in
abbrev c_hand_lister_get_a_p11 : VC :=
  (.seq (.seq (.ops 0 [⟨(some 103), none, .mv, [(.t 17)], none⟩, ⟨(some 104), none, (.un .not), [(.t 103)], none⟩]) (.cond (.t 104) c_hand_lister_get_a_p8 .skip)) c_hand_lister_get_a_p10)
set_option maxRecDepth 100000 in
abbrev c_hand_lister_get_a_p12 : VC :=
  (.seq (.ops 10 [⟨(some 97), none, .mv, [(.t 10)], none⟩, ⟨(some 98), none, .nilck, [(.t 97)], none⟩, ⟨(some 99), none, (.fldA 1), [(.t 98)], none⟩, ⟨(some 100), none, (.call 135), [(.t 99)], none⟩, ⟨(some 96), none, .mv, [(.t 100)], none⟩, ⟨(some 101), none, (.ext 0), [(.t 96)], none⟩, ⟨(some 102), none, (.ext 1), [(.t 96)], none⟩, ⟨(some 16), none, (.alloc 154 [(.lit (.int .i64 0)), (.lit (.int .i64 0)), (.lit (.int .i64 0))]), [], none⟩, ⟨none, none, (.st 3), [(.t 16), (.t 101)], none⟩, ⟨(some 17), none, .mv, [(.t 102)], none⟩]) c_hand_lister_get_a_p11)
set_option maxRecDepth 100000 in
abbrev c_hand_lister_get_a_p13 : VC :=
  (.block 1 (.seq (.seq (.ops 0 [⟨(some 35), none, .mv, [(.t 10)], none⟩, ⟨(some 36), none, .nilck, [(.t 35)], none⟩, ⟨(some 37), none, (.fldA 3), [(.t 36)], none⟩, ⟨(some 38), none, .ld1, [(.t 37)], none⟩]) (.cond (.t 38) c_hand_lister_get_a_p7 .skip)) c_hand_lister_get_a_p12))
set_option maxRecDepth 100000 in
abbrev c_hand_lister_get_a_p14 : VC :=
  (.seq (.seq (.ops 0 [⟨(some 28), none, .mv, [(.t 10)], none⟩, ⟨(some 29), none, .nilck, [(.t 28)], none⟩, ⟨(some 30), none, (.fldA 0), [(.t 29)], none⟩, ⟨(some 31), none, .ld1, [(.t 30)], none⟩, ⟨(some 32), none, .len, [(.t 31)], none⟩, ⟨(some 33), none, .mv, [(.t 3)], none⟩, ⟨(some 34), none, (.bin .leq), [(.t 32), (.t 33)], none⟩]) (.cond (.t 34) .skip (.exit 0))) c_hand_lister_get_a_p13)
set_option maxRecDepth 100000 in
abbrev c_hand_lister_get_a_p15 : VC :=
  (.seq (.ops 0 [⟨(some 122), none, .mv, [(.t 10)], none⟩, ⟨(some 123), none, .nilck, [(.t 122)], none⟩, ⟨(some 124), none, (.fldA 0), [(.t 123)], none⟩, ⟨(some 125), none, .ld1, [(.t 124)], none⟩, ⟨(some 126), none, .mv, [(.t 3)], none⟩, ⟨(some 127), none, (.ixA 3), [(.t 125), (.t 126)], none⟩, ⟨(some 128), none, (.ldA 3), [(.t 127)], none⟩, ⟨none, none, (.st 3), [(.t 8), (.t 128)], none⟩, ⟨(some 9), none, .mv, [(.c (.lit (.bool true)))], none⟩]) .ret)
set_option maxRecDepth 100000 in
abbrev c_hand_lister_get_a_p16 : VC :=
  (.seq (.block 0 (.loop c_hand_lister_get_a_p14)) c_hand_lister_get_a_p15)
set_option maxRecDepth 100000 in
abbrev c_hand_lister_get_a_p17 : VC :=
  (.seq (.seq (.ops 0 [⟨(some 22), none, .mv, [(.t 1)], none⟩, ⟨(some 23), none, (.bin .geq), [(.t 22), (.c (.lit (.int .i64 0)))], none⟩]) (.cond (.t 23) c_hand_lister_get_a_p1 .skip)) c_hand_lister_get_a_p16)
set_option maxRecDepth 100000 in
abbrev c_hand_lister_get_a_p18 : VC :=
  (.seq (.ops 0 [⟨(some 18), none, .mv, [(.t 0)], none⟩, ⟨(some 19), none, .nilck, [(.t 18)], none⟩, ⟨(some 20), none, (.fldA 2), [(.t 19)], none⟩, ⟨(some 21), none, .ld1, [(.t 20)], none⟩, ⟨(some 10), none, .mv, [(.t 21)], none⟩]) c_hand_lister_get_a_p17)
set_option maxRecDepth 100000 in
def c_hand_lister_get_a : VC :=
  (.seq (.ops 2 [⟨(some 8), none, (.alloc 154 [(.lit (.int .i64 0)), (.lit (.int .i64 0)), (.lit (.int .i64 0))]), [], none⟩, ⟨(some 9), none, .mv, [(.c (.lit (.bool false)))], none⟩]) c_hand_lister_get_a_p18)
set_option maxRecDepth 100000 in
theorem k_hand_lister_get_a : Comp Try.prog allbx gtab 112 129 c_hand_lister_get_a [(.c 8 3 true), (.t 9)] := ⟨⟨Try.f112, _, Try.func112, rfl, rfl, by kernel_rfl, by kernel_rfl⟩⟩
set_option maxRecDepth 100000 in
abbrev c_theorbolaw06_SameGrips_a_p1 : VC :=
  (.seq (.ops 0 [⟨(some 4), none, .mv, [(.c (.lit (.bool false)))], none⟩]) .ret)
set_option maxRecDepth 100000 in
abbrev c_theorbolaw06_SameGrips_a_p2 : VC :=
  (.seq (.ops 0 [⟨(some 4), none, .mv, [(.c (.lit (.bool false)))], none⟩]) .ret)
set_option maxRecDepth 100000 in
abbrev c_theorbolaw06_SameGrips_a_p3 : VC :=
  (.ops 0 [⟨(some 15), none, .mv, [(.t 5)], none⟩, ⟨(some 16), none, (.bin .add), [(.t 15), (.c (.lit (.int .i64 1)))], none⟩, ⟨(some 5), none, .mv, [(.t 16)], none⟩])
set_option maxRecDepth 100000 in
abbrev c_theorbolaw06_SameGrips_a_p4 : VC :=
  (.seq (.block 1 (.seq (.ops 0 [⟨(some 17), none, .mv, [(.t 0)], none⟩, ⟨(some 18), none, .mv, [(.t 5)], none⟩, ⟨(some 19), none, (.ixA 2), [(.t 17), (.t 18)], none⟩, ⟨(some 20), none, (.fldA 0), [(.t 19)], none⟩, ⟨(some 21), none, .ld1, [(.t 20)], (some [0, 1, 2, 3])⟩, ⟨(some 22), none, .mv, [(.t 1)], none⟩, ⟨(some 23), none, .mv, [(.t 5)], none⟩, ⟨(some 24), none, (.ixA 2), [(.t 22), (.t 23)], none⟩, ⟨(some 25), none, (.fldA 0), [(.t 24)], none⟩, ⟨(some 26), none, .ld1, [(.t 25)], (some [5, 6, 7, 8])⟩, ⟨(some 27), none, (.bin .neq), [(.t 21), (.t 26)], none⟩, ⟨(some 28), none, .mv, [(.t 27)], none⟩, ⟨(some 29), (some (28, false)), .mv, [(.t 0)], none⟩, ⟨(some 30), (some (28, false)), .mv, [(.t 5)], none⟩, ⟨(some 31), (some (28, false)), (.ixA 2), [(.t 29), (.t 30)], none⟩, ⟨(some 32), (some (28, false)), (.fldA 1), [(.t 31)], none⟩, ⟨(some 33), (some (28, false)), .ld1, [(.t 32)], (some [0, 1, 2, 3, 4, 5, 6, 7, 8, 9, 10, 11, 12, 13, 14, 15])⟩, ⟨(some 34), (some (28, false)), .mv, [(.t 1)], none⟩, ⟨(some 35), (some (28, false)), .mv, [(.t 5)], none⟩, ⟨(some 36), (some (28, false)), (.ixA 2), [(.t 34), (.t 35)], none⟩, ⟨(some 37), (some (28, false)), (.fldA 1), [(.t 36)], none⟩, ⟨(some 38), (some (28, false)), .ld1, [(.t 37)], (some [0, 1, 2, 3, 4, 5, 6, 7, 8, 9, 10, 11, 17, 18, 19, 20])⟩, ⟨(some 39), (some (28, false)), (.call 23), [(.t 33), (.t 38)], none⟩, ⟨(some 40), (some (28, false)), (.un .not), [(.t 39)], none⟩, ⟨(some 41), none, .pick, [(.t 28), (.c (.lit (.bool true))), (.t 40)], none⟩]) (.cond (.t 41) c_theorbolaw06_SameGrips_a_p2 .skip))) c_theorbolaw06_SameGrips_a_p3)
set_option maxRecDepth 100000 in
abbrev c_theorbolaw06_SameGrips_a_p5 : VC :=
  (.seq (.seq (.ops 0 [⟨(some 11), none, .mv, [(.t 5)], none⟩, ⟨(some 12), none, .mv, [(.t 0)], none⟩, ⟨(some 13), none, .len, [(.t 12)], none⟩, ⟨(some 14), none, (.bin .lss), [(.t 11), (.t 13)], none⟩]) (.cond (.t 14) .skip (.exit 0))) c_theorbolaw06_SameGrips_a_p4)
set_option maxRecDepth 100000 in
abbrev c_theorbolaw06_SameGrips_a_p6 : VC :=
  (.seq (.ops 0 [⟨(some 4), none, .mv, [(.c (.lit (.bool true)))], none⟩]) .ret)
set_option maxRecDepth 100000 in
abbrev c_theorbolaw06_SameGrips_a_p7 : VC :=
  (.seq (.seq (.ops 0 [⟨(some 5), none, .mv, [(.c (.lit (.int .i64 0)))], none⟩]) (.block 0 (.loop c_theorbolaw06_SameGrips_a_p5))) c_theorbolaw06_SameGrips_a_p6)
set_option maxRecDepth 100000 in
abbrev c_theorbolaw06_SameGrips_a_p8 : VC :=
  (.seq (.seq (.ops 0 [⟨(some 6), none, .mv, [(.t 0)], none⟩, ⟨(some 7), none, .len, [(.t 6)], none⟩, ⟨(some 8), none, .mv, [(.t 1)], none⟩, ⟨(some 9), none, .len, [(.t 8)], none⟩, ⟨(some 10), none, (.bin .neq), [(.t 7), (.t 9)], none⟩]) (.cond (.t 10) c_theorbolaw06_SameGrips_a_p1 .skip)) c_theorbolaw06_SameGrips_a_p7)
set_option maxRecDepth 100000 in
def c_theorbolaw06_SameGrips_a : VC :=
  (.seq (.ops 0 [⟨(some 4), none, .mv, [(.c (.lit (.bool false)))], none⟩]) c_theorbolaw06_SameGrips_a_p8)
set_option maxRecDepth 100000 in
theorem k_theorbolaw06_SameGrips_a : Comp Try.prog allbx gtab 34 42 c_theorbolaw06_SameGrips_a [(.t 4)] := ⟨⟨Try.f34, _, Try.func34, rfl, rfl, by kernel_rfl, by kernel_rfl⟩⟩
set_option maxRecDepth 100000 in
abbrev c_theorbolaw06_SameInts_a_p1 : VC :=
  (.seq (.ops 0 [⟨(some 4), none, .mv, [(.c (.lit (.bool false)))], none⟩]) .ret)
set_option maxRecDepth 100000 in
abbrev c_theorbolaw06_SameInts_a_p2 : VC :=
  (.seq (.ops 0 [⟨(some 4), none, .mv, [(.c (.lit (.bool false)))], none⟩]) .ret)
set_option maxRecDepth 100000 in
abbrev c_theorbolaw06_SameInts_a_p3 : VC :=
  (.ops 0 [⟨(some 15), none, .mv, [(.t 5)], none⟩, ⟨(some 16), none, (.bin .add), [(.t 15), (.c (.lit (.int .i64 1)))], none⟩, ⟨(some 5), none, .mv, [(.t 16)], none⟩])
set_option maxRecDepth 100000 in
abbrev c_theorbolaw06_SameInts_a_p4 : VC :=
  (.seq (.block 1 (.seq (.ops 0 [⟨(some 17), none, .mv, [(.t 0)], none⟩, ⟨(some 18), none, .mv, [(.t 5)], none⟩, ⟨(some 19), none, (.ixA 1), [(.t 17), (.t 18)], none⟩, ⟨(some 20), none, .ld1, [(.t 19)], (some [0, 1, 2])⟩, ⟨(some 21), none, .mv, [(.t 1)], none⟩, ⟨(some 22), none, .mv, [(.t 5)], none⟩, ⟨(some 23), none, (.ixA 1), [(.t 21), (.t 22)], none⟩, ⟨(some 24), none, .ld1, [(.t 23)], (some [4, 5, 6])⟩, ⟨(some 25), none, (.bin .neq), [(.t 20), (.t 24)], none⟩]) (.cond (.t 25) c_theorbolaw06_SameInts_a_p2 .skip))) c_theorbolaw06_SameInts_a_p3)
set_option maxRecDepth 100000 in
abbrev c_theorbolaw06_SameInts_a_p5 : VC :=
  (.seq (.seq (.ops 0 [⟨(some 11), none, .mv, [(.t 5)], none⟩, ⟨(some 12), none, .mv, [(.t 0)], none⟩, ⟨(some 13), none, .len, [(.t 12)], none⟩, ⟨(some 14), none, (.bin .lss), [(.t 11), (.t 13)], none⟩]) (.cond (.t 14) .skip (.exit 0))) c_theorbolaw06_SameInts_a_p4)
set_option maxRecDepth 100000 in
abbrev c_theorbolaw06_SameInts_a_p6 : VC :=
  (.seq (.ops 0 [⟨(some 4), none, .mv, [(.c (.lit (.bool true)))], none⟩]) .ret)
set_option maxRecDepth 100000 in
abbrev c_theorbolaw06_SameInts_a_p7 : VC :=
  (.seq (.seq (.ops 0 [⟨(some 5), none, .mv, [(.c (.lit (.int .i64 0)))], none⟩]) (.block 0 (.loop c_theorbolaw06_SameInts_a_p5))) c_theorbolaw06_SameInts_a_p6)
set_option maxRecDepth 100000 in
abbrev c_theorbolaw06_SameInts_a_p8 : VC :=
  (.seq (.seq (.ops 0 [⟨(some 6), none, .mv, [(.t 0)], none⟩, ⟨(some 7), none, .len, [(.t 6)], none⟩, ⟨(some 8), none, .mv, [(.t 1)], none⟩, ⟨(some 9), none, .len, [(.t 8)], none⟩, ⟨(some 10), none, (.bin .neq), [(.t 7), (.t 9)], none⟩]) (.cond (.t 10) c_theorbolaw06_SameInts_a_p1 .skip)) c_theorbolaw06_SameInts_a_p7)
set_option maxRecDepth 100000 in
def c_theorbolaw06_SameInts_a : VC :=
  (.seq (.ops 0 [⟨(some 4), none, .mv, [(.c (.lit (.bool false)))], none⟩]) c_theorbolaw06_SameInts_a_p8)
set_option maxRecDepth 100000 in
theorem k_theorbolaw06_SameInts_a : Comp Try.prog allbx gtab 23 26 c_theorbolaw06_SameInts_a [(.t 4)] := ⟨⟨Try.f23, _, Try.func23, rfl, rfl, by kernel_rfl, by kernel_rfl⟩⟩
set_option maxRecDepth 100000 in
abbrev c_hand_reach_a_p1 : VC :=
  (.seq (.ops 0 [⟨(some 9), none, .mv, [(.t 3)], none⟩, ⟨(some 10), none, .mv, [(.t 1)], none⟩, ⟨(some 11), none, (.fldA 0), [(.t 4)], none⟩, ⟨(some 12), none, .ld1, [(.t 11)], (some [2])⟩, ⟨(some 13), none, .mv, [(.t 2)], none⟩, ⟨(some 14), none, (.bin .sub), [(.t 13), (.c (.lit (.int .i64 1)))], none⟩, ⟨(some 15), none, (.ixA 1), [(.t 12), (.t 14)], none⟩, ⟨(some 16), none, .ld1, [(.t 15)], (some [2, 3, 4, 5, 6])⟩, ⟨(some 17), none, (.bin .add), [(.t 10), (.t 16)], none⟩, ⟨(some 18), none, .mv, [(.t 1)], none⟩, ⟨(some 19), none, (.fldA 1), [(.t 4)], none⟩, ⟨(some 20), none, .ld1, [(.t 19)], (some [10])⟩, ⟨(some 21), none, .mv, [(.t 2)], none⟩, ⟨(some 22), none, (.bin .sub), [(.t 21), (.c (.lit (.int .i64 1)))], none⟩, ⟨(some 23), none, (.ixA 1), [(.t 20), (.t 22)], none⟩, ⟨(some 24), none, .ld1, [(.t 23)], (some [10, 11, 12, 13, 14])⟩, ⟨(some 25), none, (.bin .add), [(.t 18), (.t 24)], none⟩, ⟨(some 26), none, (.call 63), [(.t 9), (.t 17), (.t 25)], none⟩, ⟨(some 8), none, .mv, [(.t 26)], none⟩]) .ret)
set_option maxRecDepth 100000 in
def c_hand_reach_a : VC :=
  (.seq (.ops 2 [⟨(some 4), none, (.box 25), [(.t 0)], none⟩, ⟨(some 8), none, .mv, [(.c (.lit (.bool false)))], none⟩]) c_hand_reach_a_p1)
set_option maxRecDepth 100000 in
theorem k_hand_reach_a : Comp Try.prog allbx gtab 107 27 c_hand_reach_a [(.t 8)] := ⟨⟨Try.f107, _, Try.func107, rfl, rfl, by kernel_rfl, by kernel_rfl⟩⟩
set_option maxRecDepth 100000 in
abbrev c_hand_agree_a_p1 : VC :=
  (.seq (.ops 0 [⟨(some 15), none, .mv, [(.t 2)], none⟩, ⟨(some 16), none, .mv, [(.t 3)], none⟩, ⟨(some 17), none, (.bin .lss), [(.t 15), (.t 16)], none⟩, ⟨(some 8), none, .mv, [(.t 17)], none⟩]) .ret)
set_option maxRecDepth 100000 in
abbrev c_hand_agree_a_p2 : VC :=
  (.seq (.ops 0 [⟨(some 24), none, .mv, [(.t 2)], none⟩, ⟨(some 25), none, .mv, [(.t 3)], none⟩, ⟨(some 26), none, (.bin .gtr), [(.t 24), (.t 25)], none⟩, ⟨(some 8), none, .mv, [(.t 26)], none⟩]) .ret)
set_option maxRecDepth 100000 in
abbrev c_hand_agree_a_p3 : VC :=
  (.seq (.ops 0 [⟨(some 33), none, .mv, [(.t 2)], none⟩, ⟨(some 34), none, .mv, [(.t 3)], none⟩, ⟨(some 35), none, (.bin .geq), [(.t 33), (.t 34)], none⟩, ⟨(some 8), none, .mv, [(.t 35)], none⟩]) .ret)
set_option maxRecDepth 100000 in
abbrev c_hand_agree_a_p4 : VC :=
  (.seq (.ops 0 [⟨(some 28), none, (.fldA 0), [(.t 4)], none⟩, ⟨(some 29), none, .ld1, [(.t 28)], none⟩, ⟨(some 30), none, (.fldA 0), [(.t 5)], none⟩, ⟨(some 31), none, .ld1, [(.t 30)], none⟩, ⟨(some 32), none, (.bin .lss), [(.t 29), (.t 31)], none⟩, ⟨(some 27), none, .mv, [(.t 32)], none⟩]) (.cond (.t 27) c_hand_agree_a_p3 .skip))
set_option maxRecDepth 100000 in
abbrev c_hand_agree_a_p5 : VC :=
  (.seq (.ops 0 [⟨(some 19), none, (.fldA 1), [(.t 4)], none⟩, ⟨(some 20), none, .ld1, [(.t 19)], none⟩, ⟨(some 21), none, (.fldA 1), [(.t 5)], none⟩, ⟨(some 22), none, .ld1, [(.t 21)], none⟩, ⟨(some 23), none, (.bin .gtr), [(.t 20), (.t 22)], none⟩, ⟨(some 18), none, .mv, [(.t 23)], none⟩]) (.cond (.t 18) c_hand_agree_a_p2 c_hand_agree_a_p4))
set_option maxRecDepth 100000 in
abbrev c_hand_agree_a_p6 : VC :=
  (.seq (.ops 0 [⟨(some 36), none, .mv, [(.t 2)], none⟩, ⟨(some 37), none, .mv, [(.t 3)], none⟩, ⟨(some 38), none, (.bin .leq), [(.t 36), (.t 37)], none⟩, ⟨(some 8), none, .mv, [(.t 38)], none⟩]) .ret)
set_option maxRecDepth 100000 in
abbrev c_hand_agree_a_p7 : VC :=
  (.seq (.block 0 (.seq (.ops 0 [⟨(some 10), none, (.fldA 1), [(.t 4)], none⟩, ⟨(some 11), none, .ld1, [(.t 10)], none⟩, ⟨(some 12), none, (.fldA 1), [(.t 5)], none⟩, ⟨(some 13), none, .ld1, [(.t 12)], none⟩, ⟨(some 14), none, (.bin .lss), [(.t 11), (.t 13)], none⟩, ⟨(some 9), none, .mv, [(.t 14)], none⟩]) (.cond (.t 9) c_hand_agree_a_p1 c_hand_agree_a_p5))) c_hand_agree_a_p6)
set_option maxRecDepth 100000 in
def c_hand_agree_a : VC :=
  (.seq (.ops 3 [⟨(some 4), none, (.box 92), [(.t 0)], none⟩, ⟨(some 5), none, (.box 92), [(.t 1)], none⟩, ⟨(some 8), none, .mv, [(.c (.lit (.bool false)))], none⟩]) c_hand_agree_a_p7)
set_option maxRecDepth 100000 in
theorem k_hand_agree_a : Comp Try.prog allbx gtab 108 39 c_hand_agree_a [(.t 8)] := ⟨⟨Try.f108, _, Try.func108, rfl, rfl, by kernel_rfl, by kernel_rfl⟩⟩
end Go.Proofs.Ytojjdkoglhecbaa
