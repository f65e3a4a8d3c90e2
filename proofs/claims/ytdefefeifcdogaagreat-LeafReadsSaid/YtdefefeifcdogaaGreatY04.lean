/- Functions of the program, as code on values by numbers: printed by a program from the program that was given, and held against it here. What rows contain, and what of a leaf lies in another one: of the program. Valid pieces, pieces in plain, the leaf of a piece: in plain. Nothing is run here. Rests, what is plucked, how long a note may be held: of both. Valid signs, stops, events and pieces: of the program. Check of pieces: of the program. A leaf with one reading: in plain. Nothing is run here. Piece of the reference. Plain of the program: a piece with every sign written. Plain of the program, the rest of it. -/
import Derived.Test.YtdefefeifcdogaaGreatG0
import Derived.Test.YtdefefeifcdogaaGreatWk
import Derived.Test.YtdefefeifcdogaaGreatY03
import Derived.Test.YtdefefeifcdogaaGreatVr
set_option linter.unusedSimpArgs false
set_option linter.unusedVariables false
namespace Go.Proofs.YtdefefeifcdogaaGreat
open Go.RowKit
set_option maxRecDepth 100000

abbrev c_leaf_Reads_p1 : VC := (.seq (.ops 0 [oo 13 .mv [.t 6], oo 4 .mv [(.c (.lit (.bool false)))], oo 5 .mv [.t 13]]) .ret)
abbrev c_leaf_Reads_p2 : VC := (.seq (.ops 0 [oo 11 .mv [.t 6], oo 12 (.bin .neq) [.t 11, kk 0]]) (.cond (.t 12) c_leaf_Reads_p1 .skip))
abbrev c_leaf_Reads_p3 : VC := (.seq (.ops 0 [oo 21 .mv [.t 8], oo 4 .mv [(.c (.lit (.bool false)))], oo 5 .mv [.t 21]]) .ret)
abbrev c_leaf_Reads_p4 : VC := (.seq (.ops 0 [oo 22 (.ldA 3) [.t 2], oo 23 (.ldA 3) [.t 7], oo 24 (.call 95) [.t 22, .t 23], oo 25 .mv [.t 24], og 26 25 true (.ldA 3) [.t 7], og 27 25 true (.ldA 3) [.t 2], og 28 25 true (.call 88) [.t 26, .t 27], oo 29 .pick [.t 25, .t 28, (.c (.lit (.bool false)))], oo 4 .mv [.t 29], oo 5 .mv [kk 0]]) .ret)
abbrev c_leaf_Reads_p5 : VC := (.seq (.seq (.ops 0 [oo 19 .mv [.t 8], oo 20 (.bin .neq) [.t 19, kk 0]]) (.cond (.t 20) c_leaf_Reads_p3 .skip)) c_leaf_Reads_p4)
abbrev c_leaf_Reads_p6 : VC := (.seq (.ops 8 [oo 15 (.ldA 3) [.t 3], oo 16 (.call 39) [.t 15], oo 14 .mv [.t 16], oo 17 (.ext 0) [.t 14], oo 18 (.ext 1) [.t 14], ⟨(some 7), none, (.alloc 28 [(.sl 0 [] .exact), (.sl 0 [] .exact), (.sl 0 [] .exact)]), [], none⟩, ⟨none, none, (.st 3), [.t 7, .t 17], none⟩, oo 8 .mv [.t 18]]) c_leaf_Reads_p5)
abbrev c_leaf_Reads_p7 : VC := (.seq (.seq (.ops 0 [oo 9 (.ldA 3) [.t 2], oo 10 (.call 27) [.t 9], oo 6 .mv [.t 10]]) c_leaf_Reads_p2) c_leaf_Reads_p6)
def c_leaf_Reads : VC := (.seq (.ops 4 [oo 2 (.box 28) [.t 0], oo 3 (.box 49) [.t 1], oo 4 .mv [(.c (.lit (.bool false)))], oo 5 .mv [kk 0]]) c_leaf_Reads_p7)
theorem k_leaf_Reads : Comp Tryz.prog nobx gtab 41 30 c_leaf_Reads [.t 4, .t 5] := ⟨⟨Tryz.f41, _, Tryz.func41, rfl, rfl, kr, kr⟩⟩
abbrev c_leaf_shaped_p1 : VC := (.seq (.ops 0 [oo 5 (.fldA 0) [.t 2], oo 6 (.ldA 2) [.t 5], oo 7 (.fldA 0) [.t 3], oo 8 (.ldA 2) [.t 7], oo 9 (.call 98) [.t 6, .t 8], oo 10 .mv [.t 9], og 11 10 true (.fldA 2) [.t 2], og 12 10 true .ld1 [.t 11], og 13 10 true (.fldA 2) [.t 3], og 14 10 true .ld1 [.t 13], og 15 10 true (.call 166) [.t 12, .t 14, (.c (.fn 167 []))], oo 16 .pick [.t 10, .t 15, (.c (.lit (.bool false)))], oo 4 .mv [.t 16]]) .ret)
def c_leaf_shaped : VC := (.seq (.ops 3 [oo 2 (.box 28) [.t 0], oo 3 (.box 28) [.t 1], oo 4 .mv [(.c (.lit (.bool false)))]]) c_leaf_shaped_p1)
theorem k_leaf_shaped : Comp Tryz.prog nobx gtab 95 17 c_leaf_shaped [.t 4] := ⟨⟨Tryz.f95, _, Tryz.func95, rfl, rfl, kr, kr⟩⟩
abbrev c_leaf_shaped_1_p1 : VC := (.seq (.ops 0 [oo 5 (.fldA 0) [.t 2], oo 6 .ld1 [.t 5], oo 7 (.fldA 0) [.t 3], oo 8 .ld1 [.t 7], oo 9 (.eqB false) [.t 6, .t 8], oo 10 .mv [.t 9], og 11 10 true (.fldA 1) [.t 2], og 12 10 true .ld1 [.t 11], og 13 10 true (.fldA 1) [.t 3], og 14 10 true .ld1 [.t 13], og 15 10 true (.eqB false) [.t 12, .t 14], oo 16 .pick [.t 10, .t 15, (.c (.lit (.bool false)))], oo 4 .mv [.t 16]]) .ret)
def c_leaf_shaped_1 : VC := (.seq (.ops 3 [oo 2 (.box 84) [.t 0], oo 3 (.box 84) [.t 1], oo 4 .mv [(.c (.lit (.bool false)))]]) c_leaf_shaped_1_p1)
theorem k_leaf_shaped_1 : Comp Tryz.prog nobx gtab 167 17 c_leaf_shaped_1 [.t 4] := ⟨⟨Tryz.f167, _, Tryz.func167, rfl, rfl, kr, kr⟩⟩
abbrev c_leaf_inside_p1 : VC := (.seq (.ops 0 [oo 4 .mv [(.c (.lit (.bool false)))]]) .ret)
abbrev c_leaf_inside_p2 : VC := (.seq (.ops 0 [oo 4 .mv [(.c (.lit (.bool false)))]]) .ret)
abbrev c_leaf_inside_p3 : VC := (.seq (.ops 0 [oo 35 .mv [.t 8], oo 36 (.fldA 2) [.t 3], oo 37 .ld1 [.t 36], oo 38 .mv [.t 5], oo 39 (.ixA 4) [.t 37, .t 38], oo 40 (.fldA 3) [.t 39], oo 41 .ld1 [.t 40], oo 42 .mv [.t 7], oo 43 (.ixA 1) [.t 41, .t 42], oo 44 .ld1 [.t 43], oo 45 (.call 159) [.t 35, .t 44], oo 46 (.un .not) [.t 45]]) (.cond (.t 46) c_leaf_inside_p2 .skip))
abbrev c_leaf_inside_p4 : VC := (.ops 0 [oo 47 (.bin .add) [.t 30, kk 1], oo 30 .mv [.t 47]])
abbrev c_leaf_inside_p5 : VC := (.seq (.block 3 (.seq (.ops 0 [oo 32 .mv [.t 30], oo 33 (.ixA 1) [.t 28, .t 30], oo 34 .ld1 [.t 33], oo 7 .mv [.t 32], oo 8 .mv [.t 34]]) c_leaf_inside_p3)) c_leaf_inside_p4)
abbrev c_leaf_inside_p6 : VC := (.seq (.ops 0 [oo 31 (.bin .lss) [.t 30, .t 29]]) (.seq (.cond (.t 31) .skip (.exit 2)) c_leaf_inside_p5))
@[go_sem] abbrev w_leaf_inside_p6 : Nat := 281473902969232
abbrev c_leaf_inside_p8 : VC := (.seq (.ops 0 [oo 27 (.fldA 3) [.t 6], oo 28 .ld1 [.t 27], oo 29 .len [.t 28], oo 30 .mv [kk 0]]) (.block 2 (.loop c_leaf_inside_p6)))
abbrev c_leaf_inside_p9 : VC := (.seq (.seq (.ops 0 [oo 17 (.fldA 2) [.t 6], od 18 .ld1 [.t 17] [0], oo 19 (.fldA 2) [.t 3], od 20 .ld1 [.t 19] [2], oo 21 .mv [.t 5], oo 22 (.ixA 4) [.t 20, .t 21], oo 23 (.fldA 2) [.t 22], od 24 .ld1 [.t 23] [2, 3, 4, 5, 6], oo 25 (.call 158) [.t 18, .t 24], oo 26 (.un .not) [.t 25]]) (.cond (.t 26) c_leaf_inside_p1 .skip)) c_leaf_inside_p8)
abbrev c_leaf_inside_p10 : VC := (.ops 0 [oo 48 (.bin .add) [.t 12, kk 1], oo 12 .mv [.t 48]])
abbrev c_leaf_inside_p11 : VC := (.seq (.block 1 (.seq (.ops 6 [oo 14 .mv [.t 12], oo 15 (.ixA 4) [.t 10, .t 12], oo 16 (.ldA 4) [.t 15], ⟨(some 6), none, (.alloc 84 [(.lit (.bool false)), (.lit (.bool false)), (.sl 0 [] .exact), (.sl 0 [] .exact)]), [], none⟩, oo 5 .mv [.t 14], ⟨none, none, (.st 4), [.t 6, .t 16], none⟩]) c_leaf_inside_p9)) c_leaf_inside_p10)
abbrev c_leaf_inside_p12 : VC := (.seq (.ops 0 [oo 13 (.bin .lss) [.t 12, .t 11]]) (.seq (.cond (.t 13) .skip (.exit 0)) c_leaf_inside_p11))
@[go_sem] abbrev w_leaf_inside_p12 : Nat := 562949953417712
abbrev c_leaf_inside_p14 : VC := (.seq (.ops 0 [oo 4 .mv [(.c (.lit (.bool true)))]]) .ret)
abbrev c_leaf_inside_p15 : VC := (.seq (.seq (.ops 0 [oo 9 (.fldA 2) [.t 2], oo 10 .ld1 [.t 9], oo 11 .len [.t 10], oo 12 .mv [kk 0]]) (.block 0 (.loop c_leaf_inside_p12))) c_leaf_inside_p14)
def c_leaf_inside : VC := (.seq (.ops 3 [oo 2 (.box 28) [.t 0], oo 3 (.box 28) [.t 1], oo 4 .mv [(.c (.lit (.bool false)))]]) c_leaf_inside_p15)
theorem k_leaf_inside : Comp Tryz.prog nobx gtab 88 49 c_leaf_inside [.t 4] := ⟨⟨Tryz.f88, _, Tryz.func88, rfl, rfl, kr, kr⟩⟩
abbrev c_slices_Contains_api_Sign_api_Sign_p1 : VC := (.seq (.ops 0 [oo 5 .mv [.t 0], oo 6 (.ldA 3) [.t 3], oo 7 (.call 217) [.t 5, .t 6], oo 8 (.bin .geq) [.t 7, kk 0], oo 4 .mv [.t 8]]) .ret)
def c_slices_Contains_api_Sign_api_Sign : VC := (.seq (.ops 2 [oo 3 (.box 110) [.t 1], oo 4 .mv [(.c (.lit (.bool false)))]]) c_slices_Contains_api_Sign_api_Sign_p1)
theorem k_slices_Contains_api_Sign_api_Sign : Comp Tryz.prog nobx gtab 160 9 c_slices_Contains_api_Sign_api_Sign [.t 4] := ⟨⟨Tryz.f160, _, Tryz.func160, rfl, rfl, kr, kr⟩⟩
abbrev c_slices_Contains_int_int_p1 : VC := (.seq (.ops 0 [oo 5 .mv [.t 0], oo 6 .mv [.t 1], oo 7 (.call 218) [.t 5, .t 6], oo 8 (.bin .geq) [.t 7, kk 0], oo 4 .mv [.t 8]]) .ret)
def c_slices_Contains_int_int : VC := (.seq (.ops 0 [oo 4 .mv [(.c (.lit (.bool false)))]]) c_slices_Contains_int_int_p1)
theorem k_slices_Contains_int_int : Comp Tryz.prog nobx gtab 161 9 c_slices_Contains_int_int [.t 4] := ⟨⟨Tryz.f161, _, Tryz.func161, rfl, rfl, kr, kr⟩⟩
abbrev c_slices_Index_api_Sign_api_Sign_p1 : VC := (.seq (.ops 0 [oo 17 .mv [.t 5], oo 4 .mv [.t 17]]) .ret)
abbrev c_slices_Index_api_Sign_api_Sign_p2 : VC := (.seq (.ops 0 [od 11 (.ldA 3) [.t 3] [], oo 12 .mv [.t 0], oo 13 .mv [.t 5], oo 14 (.ixA 3) [.t 12, .t 13], od 15 (.ldA 3) [.t 14] [1, 2, 3], oo 16 (.eqP [(0, 0), (1, 1), (2, 1)] false) [.t 11, .t 15]]) (.cond (.t 16) c_slices_Index_api_Sign_api_Sign_p1 .skip))
abbrev c_slices_Index_api_Sign_api_Sign_p3 : VC := (.ops 0 [oo 18 (.bin .add) [.t 8, kk 1], oo 8 .mv [.t 18]])
abbrev c_slices_Index_api_Sign_api_Sign_p4 : VC := (.seq (.block 1 (.seq (.ops 0 [oo 10 .mv [.t 8], oo 5 .mv [.t 10]]) c_slices_Index_api_Sign_api_Sign_p2)) c_slices_Index_api_Sign_api_Sign_p3)
abbrev c_slices_Index_api_Sign_api_Sign_p5 : VC := (.seq (.cond (.t 9) .skip (.exit 0)) c_slices_Index_api_Sign_api_Sign_p4)
abbrev c_slices_Index_api_Sign_api_Sign_p6 : VC := (.seq (.ops 0 [oo 9 (.bin .lss) [.t 8, .t 7]]) c_slices_Index_api_Sign_api_Sign_p5)
@[go_sem] abbrev w_slices_Index_api_Sign_api_Sign_p6 : Nat := 524080
abbrev c_slices_Index_api_Sign_api_Sign_p8 : VC := (.seq (.ops 0 [oo 4 .mv [kk (-1)]]) .ret)
abbrev c_slices_Index_api_Sign_api_Sign_p9 : VC := (.seq (.seq (.ops 0 [oo 6 .mv [.t 0], oo 7 .len [.t 6], oo 8 .mv [kk 0]]) (.block 0 (.loop c_slices_Index_api_Sign_api_Sign_p6))) c_slices_Index_api_Sign_api_Sign_p8)
def c_slices_Index_api_Sign_api_Sign : VC := (.seq (.ops 2 [oo 3 (.box 110) [.t 1], oo 4 .mv [kk 0]]) c_slices_Index_api_Sign_api_Sign_p9)
theorem k_slices_Index_api_Sign_api_Sign : Comp Tryz.prog nobx gtab 217 19 c_slices_Index_api_Sign_api_Sign [.t 4] := ⟨⟨Tryz.f217, _, Tryz.func217, rfl, rfl, kr, kr⟩⟩
abbrev c_slices_Index_int_int_p1 : VC := (.seq (.ops 0 [oo 17 .mv [.t 5], oo 4 .mv [.t 17]]) .ret)
abbrev c_slices_Index_int_int_p2 : VC := (.seq (.ops 0 [oo 11 .mv [.t 1], oo 12 .mv [.t 0], oo 13 .mv [.t 5], oo 14 (.ixA 1) [.t 12, .t 13], oo 15 .ld1 [.t 14], oo 16 (.bin .eql) [.t 11, .t 15]]) (.cond (.t 16) c_slices_Index_int_int_p1 .skip))
abbrev c_slices_Index_int_int_p3 : VC := (.ops 0 [oo 18 (.bin .add) [.t 8, kk 1], oo 8 .mv [.t 18]])
abbrev c_slices_Index_int_int_p4 : VC := (.seq (.block 1 (.seq (.ops 0 [oo 10 .mv [.t 8], oo 5 .mv [.t 10]]) c_slices_Index_int_int_p2)) c_slices_Index_int_int_p3)
abbrev c_slices_Index_int_int_p5 : VC := (.seq (.cond (.t 9) .skip (.exit 0)) c_slices_Index_int_int_p4)
abbrev c_slices_Index_int_int_p6 : VC := (.seq (.ops 0 [oo 9 (.bin .lss) [.t 8, .t 7]]) c_slices_Index_int_int_p5)
@[go_sem] abbrev w_slices_Index_int_int_p6 : Nat := 524080
abbrev c_slices_Index_int_int_p8 : VC := (.seq (.ops 0 [oo 4 .mv [kk (-1)]]) .ret)
abbrev c_slices_Index_int_int_p9 : VC := (.seq (.seq (.ops 0 [oo 6 .mv [.t 0], oo 7 .len [.t 6], oo 8 .mv [kk 0]]) (.block 0 (.loop c_slices_Index_int_int_p6))) c_slices_Index_int_int_p8)
def c_slices_Index_int_int : VC := (.seq (.ops 0 [oo 4 .mv [kk 0]]) c_slices_Index_int_int_p9)
theorem k_slices_Index_int_int : Comp Tryz.prog nobx gtab 218 19 c_slices_Index_int_int [.t 4] := ⟨⟨Tryz.f218, _, Tryz.func218, rfl, rfl, kr, kr⟩⟩
abbrev c_slices_ContainsFunc_int_int_p1 : VC := (.seq (.ops 0 [oo 5 .mv [.t 0], oo 6 .mv [.t 1], oo 7 (.call 259) [.t 5, .t 6], oo 8 (.bin .geq) [.t 7, kk 0], oo 4 .mv [.t 8]]) .ret)
def c_slices_ContainsFunc_int_int : VC := (.seq (.ops 0 [oo 4 .mv [(.c (.lit (.bool false)))]]) c_slices_ContainsFunc_int_int_p1)
theorem k_slices_ContainsFunc_int_int : Comp Tryz.prog nobx gtab 215 9 c_slices_ContainsFunc_int_int [.t 4] := ⟨⟨Tryz.f215, _, Tryz.func215, rfl, rfl, kr, kr⟩⟩
abbrev c_slices_IndexFunc_int_int_p1 : VC := (.seq (.ops 0 [oo 17 .mv [.t 5], oo 4 .mv [.t 17]]) .ret)
abbrev c_slices_IndexFunc_int_int_p2 : VC := (.seq (.ops 0 [oo 11 .mv [.t 1], oo 12 .mv [.t 0], oo 13 .mv [.t 5], oo 14 (.ixA 1) [.t 12, .t 13], oo 15 .ld1 [.t 14], oo 16 .callv [.t 11, .t 15]]) (.cond (.t 16) c_slices_IndexFunc_int_int_p1 .skip))
abbrev c_slices_IndexFunc_int_int_p3 : VC := (.ops 0 [oo 18 (.bin .add) [.t 8, kk 1], oo 8 .mv [.t 18]])
abbrev c_slices_IndexFunc_int_int_p4 : VC := (.seq (.block 1 (.seq (.ops 0 [oo 10 .mv [.t 8], oo 5 .mv [.t 10]]) c_slices_IndexFunc_int_int_p2)) c_slices_IndexFunc_int_int_p3)
abbrev c_slices_IndexFunc_int_int_p5 : VC := (.seq (.cond (.t 9) .skip (.exit 0)) c_slices_IndexFunc_int_int_p4)
abbrev c_slices_IndexFunc_int_int_p6 : VC := (.seq (.ops 0 [oo 9 (.bin .lss) [.t 8, .t 7]]) c_slices_IndexFunc_int_int_p5)
@[go_sem] abbrev w_slices_IndexFunc_int_int_p6 : Nat := 524080
abbrev c_slices_IndexFunc_int_int_p8 : VC := (.seq (.ops 0 [oo 4 .mv [kk (-1)]]) .ret)
abbrev c_slices_IndexFunc_int_int_p9 : VC := (.seq (.seq (.ops 0 [oo 6 .mv [.t 0], oo 7 .len [.t 6], oo 8 .mv [kk 0]]) (.block 0 (.loop c_slices_IndexFunc_int_int_p6))) c_slices_IndexFunc_int_int_p8)
def c_slices_IndexFunc_int_int : VC := (.seq (.ops 0 [oo 4 .mv [kk 0]]) c_slices_IndexFunc_int_int_p9)
theorem k_slices_IndexFunc_int_int : Comp Tryz.prog nobx gtab 259 19 c_slices_IndexFunc_int_int [.t 4] := ⟨⟨Tryz.f259, _, Tryz.func259, rfl, rfl, kr, kr⟩⟩
abbrev c_instrument_Same_p1 : VC := (.seq (.ops 0 [oo 4 .mv [(.c (.lit (.bool false)))]]) .ret)
abbrev c_instrument_Same_p2 : VC := (.seq (.ops 0 [oo 4 .mv [(.c (.lit (.bool false)))]]) .ret)
abbrev c_instrument_Same_p3 : VC := (.seq (.ops 0 [oo 29 (.fldA 0) [.t 2], od 30 .ld1 [.t 29] [0], oo 31 .mv [.t 5], oo 32 (.ixA 3) [.t 30, .t 31], od 33 (.ldA 3) [.t 32] [0, 1, 2, 3], oo 34 (.fldA 0) [.t 3], od 35 .ld1 [.t 34] [5], oo 36 .mv [.t 5], oo 37 (.ixA 3) [.t 35, .t 36], od 38 (.ldA 3) [.t 37] [5, 6, 7, 8], oo 39 (.eqP [(0, 0), (1, 0), (2, 1)] true) [.t 33, .t 38]]) (.cond (.t 39) c_instrument_Same_p2 .skip))
abbrev c_instrument_Same_p4 : VC := (.ops 0 [oo 40 (.bin .add) [.t 26, kk 1], oo 26 .mv [.t 40]])
abbrev c_instrument_Same_p5 : VC := (.seq (.block 1 (.seq (.ops 0 [oo 28 .mv [.t 26], oo 5 .mv [.t 28]]) c_instrument_Same_p3)) c_instrument_Same_p4)
abbrev c_instrument_Same_p6 : VC := (.seq (.ops 0 [oo 27 (.bin .lss) [.t 26, .t 25]]) (.seq (.cond (.t 27) .skip (.exit 0)) c_instrument_Same_p5))
@[go_sem] abbrev w_instrument_Same_p6 : Nat := 2198956146736
abbrev c_instrument_Same_p8 : VC := (.seq (.ops 0 [oo 4 .mv [(.c (.lit (.bool false)))]]) .ret)
abbrev c_instrument_Same_p9 : VC := (.seq (.ops 0 [oo 47 (.fldA 1) [.t 2], od 48 .ld1 [.t 47] [0], oo 49 .mv [.t 6], oo 50 (.ixA 1) [.t 48, .t 49], od 51 .ld1 [.t 50] [0, 1, 2, 3], oo 52 (.fldA 1) [.t 3], od 53 .ld1 [.t 52] [5], oo 54 .mv [.t 6], oo 55 (.ixA 1) [.t 53, .t 54], od 56 .ld1 [.t 55] [5, 6, 7, 8], oo 57 (.bin .neq) [.t 51, .t 56]]) (.cond (.t 57) c_instrument_Same_p8 .skip))
abbrev c_instrument_Same_p10 : VC := (.ops 0 [oo 58 (.bin .add) [.t 44, kk 1], oo 44 .mv [.t 58]])
abbrev c_instrument_Same_p11 : VC := (.seq (.block 3 (.seq (.ops 0 [oo 46 .mv [.t 44], oo 6 .mv [.t 46]]) c_instrument_Same_p9)) c_instrument_Same_p10)
abbrev c_instrument_Same_p12 : VC := (.seq (.cond (.t 45) .skip (.exit 2)) c_instrument_Same_p11)
abbrev c_instrument_Same_p13 : VC := (.seq (.ops 0 [oo 45 (.bin .lss) [.t 44, .t 43]]) c_instrument_Same_p12)
@[go_sem] abbrev w_instrument_Same_p13 : Nat := 576443160117379152
abbrev c_instrument_Same_p15 : VC := (.seq (.ops 0 [oo 4 .mv [(.c (.lit (.bool true)))]]) .ret)
abbrev c_instrument_Same_p16 : VC := (.seq (.seq (.ops 0 [oo 41 (.fldA 1) [.t 2], oo 42 .ld1 [.t 41], oo 43 .len [.t 42], oo 44 .mv [kk 0]]) (.block 2 (.loop c_instrument_Same_p13))) c_instrument_Same_p15)
abbrev c_instrument_Same_p17 : VC := (.seq (.seq (.ops 0 [oo 23 (.fldA 0) [.t 2], oo 24 .ld1 [.t 23], oo 25 .len [.t 24], oo 26 .mv [kk 0]]) (.block 0 (.loop c_instrument_Same_p6))) c_instrument_Same_p16)
abbrev c_instrument_Same_p18 : VC := (.seq (.seq (.ops 0 [oo 7 (.fldA 0) [.t 2], oo 8 .ld1 [.t 7], oo 9 .len [.t 8], oo 10 (.fldA 0) [.t 3], oo 11 .ld1 [.t 10], oo 12 .len [.t 11], oo 13 (.bin .neq) [.t 9, .t 12], oo 14 .mv [.t 13], og 15 14 false (.fldA 1) [.t 2], og 16 14 false .ld1 [.t 15], og 17 14 false .len [.t 16], og 18 14 false (.fldA 1) [.t 3], og 19 14 false .ld1 [.t 18], og 20 14 false .len [.t 19], og 21 14 false (.bin .neq) [.t 17, .t 20], oo 22 .pick [.t 14, (.c (.lit (.bool true))), .t 21]]) (.cond (.t 22) c_instrument_Same_p1 .skip)) c_instrument_Same_p17)
def c_instrument_Same : VC := (.seq (.ops 3 [oo 2 (.box 25) [.t 0], oo 3 (.box 25) [.t 1], oo 4 .mv [(.c (.lit (.bool false)))]]) c_instrument_Same_p18)
theorem k_instrument_Same : Comp Tryz.prog nobx gtab 98 59 c_instrument_Same [.t 4] := ⟨⟨Tryz.f98, _, Tryz.func98, rfl, rfl, kr, kr⟩⟩
abbrev c_slices_EqualFunc_api_Column_api_Column_api_Column_api_Column_p1 : VC := (.seq (.ops 0 [oo 6 .mv [(.c (.lit (.bool false)))]]) .ret)
abbrev c_slices_EqualFunc_api_Column_api_Column_api_Column_api_Column_p2 : VC := (.cond (.t 14) c_slices_EqualFunc_api_Column_api_Column_api_Column_api_Column_p1 .skip)
abbrev c_slices_EqualFunc_api_Column_api_Column_api_Column_api_Column_p3 : VC := (.seq (.ops 0 [oo 6 .mv [(.c (.lit (.bool false)))]]) .ret)
abbrev c_slices_EqualFunc_api_Column_api_Column_api_Column_api_Column_p4 : VC := (.cond (.t 30) c_slices_EqualFunc_api_Column_api_Column_api_Column_api_Column_p3 .skip)
abbrev c_slices_EqualFunc_api_Column_api_Column_api_Column_api_Column_p5 : VC := (.seq (.ops 0 [oo 26 .mv [.t 2], oo 27 (.ldA 4) [.t 8], oo 28 (.ldA 4) [.t 9], oo 29 .callv [.t 26, .t 27, .t 28], oo 30 (.un .not) [.t 29]]) c_slices_EqualFunc_api_Column_api_Column_api_Column_api_Column_p4)
abbrev c_slices_EqualFunc_api_Column_api_Column_api_Column_api_Column_p6 : VC := (.seq (.ops 6 [oo 22 .mv [.t 1], oo 23 .mv [.t 7], oo 24 (.ixA 4) [.t 22, .t 23], oo 25 (.ldA 4) [.t 24], ⟨(some 9), none, (.alloc 84 [(.lit (.bool false)), (.lit (.bool false)), (.sl 0 [] .exact), (.sl 0 [] .exact)]), [], none⟩, ⟨none, none, (.st 4), [.t 9, .t 25], none⟩]) c_slices_EqualFunc_api_Column_api_Column_api_Column_api_Column_p5)
abbrev c_slices_EqualFunc_api_Column_api_Column_api_Column_api_Column_p7 : VC := (.ops 0 [oo 31 (.bin .add) [.t 17, kk 1], oo 17 .mv [.t 31]])
abbrev c_slices_EqualFunc_api_Column_api_Column_api_Column_api_Column_p8 : VC := (.seq (.block 1 (.seq (.ops 6 [oo 19 .mv [.t 17], oo 20 (.ixA 4) [.t 15, .t 17], oo 21 (.ldA 4) [.t 20], ⟨(some 8), none, (.alloc 84 [(.lit (.bool false)), (.lit (.bool false)), (.sl 0 [] .exact), (.sl 0 [] .exact)]), [], none⟩, oo 7 .mv [.t 19], ⟨none, none, (.st 4), [.t 8, .t 21], none⟩]) c_slices_EqualFunc_api_Column_api_Column_api_Column_api_Column_p6)) c_slices_EqualFunc_api_Column_api_Column_api_Column_api_Column_p7)
abbrev c_slices_EqualFunc_api_Column_api_Column_api_Column_api_Column_p9 : VC := (.seq (.cond (.t 18) .skip (.exit 0)) c_slices_EqualFunc_api_Column_api_Column_api_Column_api_Column_p8)
abbrev c_slices_EqualFunc_api_Column_api_Column_api_Column_api_Column_p10 : VC := (.seq (.ops 0 [oo 18 (.bin .lss) [.t 17, .t 16]]) c_slices_EqualFunc_api_Column_api_Column_api_Column_api_Column_p9)
@[go_sem] abbrev w_slices_EqualFunc_api_Column_api_Column_api_Column_api_Column_p10 : Nat := 4294837184
abbrev c_slices_EqualFunc_api_Column_api_Column_api_Column_api_Column_p12 : VC := (.block 0 (.loop c_slices_EqualFunc_api_Column_api_Column_api_Column_api_Column_p10))
abbrev c_slices_EqualFunc_api_Column_api_Column_api_Column_api_Column_p13 : VC := (.seq (.ops 0 [oo 6 .mv [(.c (.lit (.bool true)))]]) .ret)
abbrev c_slices_EqualFunc_api_Column_api_Column_api_Column_api_Column_p14 : VC := (.seq (.seq (.ops 0 [oo 15 .mv [.t 0], oo 16 .len [.t 15], oo 17 .mv [kk 0]]) c_slices_EqualFunc_api_Column_api_Column_api_Column_api_Column_p12) c_slices_EqualFunc_api_Column_api_Column_api_Column_api_Column_p13)
abbrev c_slices_EqualFunc_api_Column_api_Column_api_Column_api_Column_p15 : VC := (.seq (.seq (.ops 0 [oo 10 .mv [.t 0], oo 11 .len [.t 10], oo 12 .mv [.t 1], oo 13 .len [.t 12], oo 14 (.bin .neq) [.t 11, .t 13]]) c_slices_EqualFunc_api_Column_api_Column_api_Column_api_Column_p2) c_slices_EqualFunc_api_Column_api_Column_api_Column_api_Column_p14)
def c_slices_EqualFunc_api_Column_api_Column_api_Column_api_Column : VC := (.seq (.ops 0 [oo 6 .mv [(.c (.lit (.bool false)))]]) c_slices_EqualFunc_api_Column_api_Column_api_Column_api_Column_p15)
theorem k_slices_EqualFunc_api_Column_api_Column_api_Column_api_Column : Comp Tryz.prog nobx gtab 166 32 c_slices_EqualFunc_api_Column_api_Column_api_Column_api_Column [.t 6] := ⟨⟨Tryz.f166, _, Tryz.func166, rfl, rfl, kr, kr⟩⟩
abbrev c_theorboref10_Reads_p1 : VC := (.seq (.ops 0 [oo 13 .mv [.t 6], oo 4 .mv [(.c (.lit (.bool false)))], oo 5 .mv [.t 13]]) .ret)
abbrev c_theorboref10_Reads_p2 : VC := (.seq (.ops 0 [oo 11 .mv [.t 6], oo 12 (.bin .neq) [.t 11, kk 0]]) (.cond (.t 12) c_theorboref10_Reads_p1 .skip))
abbrev c_theorboref10_Reads_p3 : VC := (.seq (.ops 0 [oo 21 .mv [.t 8], oo 4 .mv [(.c (.lit (.bool false)))], oo 5 .mv [.t 21]]) .ret)
abbrev c_theorboref10_Reads_p4 : VC := (.seq (.ops 0 [oo 22 (.ldA 3) [.t 7], oo 23 (.ldA 3) [.t 2], oo 24 (.call 96) [.t 22, .t 23], oo 25 .mv [.t 24], og 26 25 true (.ldA 3) [.t 7], og 27 25 true (.ldA 3) [.t 2], og 28 25 true (.call 97) [.t 26, .t 27], oo 29 .pick [.t 25, .t 28, (.c (.lit (.bool false)))], oo 4 .mv [.t 29], oo 5 .mv [kk 0]]) .ret)
abbrev c_theorboref10_Reads_p5 : VC := (.seq (.seq (.ops 0 [oo 19 .mv [.t 8], oo 20 (.bin .neq) [.t 19, kk 0]]) (.cond (.t 20) c_theorboref10_Reads_p3 .skip)) c_theorboref10_Reads_p4)
abbrev c_theorboref10_Reads_p6 : VC := (.seq (.ops 8 [oo 15 (.ldA 3) [.t 3], oo 16 (.call 40) [.t 15], oo 14 .mv [.t 16], oo 17 (.ext 0) [.t 14], oo 18 (.ext 1) [.t 14], ⟨(some 7), none, (.alloc 28 [(.sl 0 [] .exact), (.sl 0 [] .exact), (.sl 0 [] .exact)]), [], none⟩, ⟨none, none, (.st 3), [.t 7, .t 17], none⟩, oo 8 .mv [.t 18]]) c_theorboref10_Reads_p5)
abbrev c_theorboref10_Reads_p7 : VC := (.seq (.seq (.ops 0 [oo 9 (.ldA 3) [.t 2], oo 10 (.call 28) [.t 9], oo 6 .mv [.t 10]]) c_theorboref10_Reads_p2) c_theorboref10_Reads_p6)
def c_theorboref10_Reads : VC := (.seq (.ops 4 [oo 2 (.box 28) [.t 0], oo 3 (.box 49) [.t 1], oo 4 .mv [(.c (.lit (.bool false)))], oo 5 .mv [kk 0]]) c_theorboref10_Reads_p7)
theorem k_theorboref10_Reads : Comp Tryz.prog nobx gtab 42 30 c_theorboref10_Reads [.t 4, .t 5] := ⟨⟨Tryz.f42, _, Tryz.func42, rfl, rfl, kr, kr⟩⟩
abbrev c_theorboref10_shape_p1 : VC := (.seq (.ops 0 [oo 4 .mv [(.c (.lit (.bool false)))]]) .ret)
abbrev c_theorboref10_shape_p2 : VC := (.seq (.ops 0 [oo 4 .mv [(.c (.lit (.bool false)))]]) .ret)
abbrev c_theorboref10_shape_p3 : VC := (.ops 0 [oo 26 .mv [.t 5], oo 27 (.bin .add) [.t 26, kk 1], oo 5 .mv [.t 27]])
abbrev c_theorboref10_shape_p4 : VC := (.seq (.block 1 (.seq (.ops 0 [oo 28 (.fldA 2) [.t 2], od 29 .ld1 [.t 28] [0], oo 30 .mv [.t 5], oo 31 (.ixA 4) [.t 29, .t 30], oo 32 (.fldA 0) [.t 31], od 33 .ld1 [.t 32] [0, 1, 2, 3, 4], oo 34 (.fldA 2) [.t 3], od 35 .ld1 [.t 34] [6], oo 36 .mv [.t 5], oo 37 (.ixA 4) [.t 35, .t 36], oo 38 (.fldA 0) [.t 37], od 39 .ld1 [.t 38] [6, 7, 8, 9, 10], oo 40 (.eqB true) [.t 33, .t 39], oo 41 .mv [.t 40], og 42 41 false (.fldA 2) [.t 2], ⟨(some 43), (some (41, false)), .ld1, [.t 42], (some [0, 1, 2, 3, 4, 5, 6, 7, 8, 9, 10, 11, 12, 13, 14])⟩, og 44 41 false .mv [.t 5], og 45 41 false (.ixA 4) [.t 43, .t 44], og 46 41 false (.fldA 1) [.t 45], ⟨(some 47), (some (41, false)), .ld1, [.t 46], (some [0, 1, 2, 3, 4, 5, 6, 7, 8, 9, 10, 11, 12, 13, 14, 15, 16, 17, 18])⟩, og 48 41 false (.fldA 2) [.t 3], ⟨(some 49), (some (41, false)), .ld1, [.t 48], (some [0, 1, 2, 3, 4, 5, 6, 7, 8, 9, 10, 11, 12, 13, 20])⟩, og 50 41 false .mv [.t 5], og 51 41 false (.ixA 4) [.t 49, .t 50], og 52 41 false (.fldA 1) [.t 51], ⟨(some 53), (some (41, false)), .ld1, [.t 52], (some [0, 1, 2, 3, 4, 5, 6, 7, 8, 9, 10, 11, 12, 13, 20, 21, 22, 23, 24])⟩, og 54 41 false (.eqB true) [.t 47, .t 53], oo 55 .pick [.t 41, (.c (.lit (.bool true))), .t 54]]) (.cond (.t 55) c_theorboref10_shape_p2 .skip))) c_theorboref10_shape_p3)
abbrev c_theorboref10_shape_p5 : VC := (.seq (.seq (.ops 0 [oo 21 .mv [.t 5], oo 22 (.fldA 2) [.t 2], oo 23 .ld1 [.t 22], oo 24 .len [.t 23], oo 25 (.bin .lss) [.t 21, .t 24]]) (.cond (.t 25) .skip (.exit 0))) c_theorboref10_shape_p4)
@[go_sem] abbrev w_theorboref10_shape_p5 : Nat := 72057594035830832
abbrev c_theorboref10_shape_p7 : VC := (.seq (.ops 0 [oo 4 .mv [(.c (.lit (.bool true)))]]) .ret)
abbrev c_theorboref10_shape_p8 : VC := (.seq (.seq (.ops 0 [oo 5 .mv [kk 0]]) (.block 0 (.loop c_theorboref10_shape_p5))) c_theorboref10_shape_p7)
abbrev c_theorboref10_shape_p9 : VC := (.seq (.seq (.ops 0 [oo 6 (.fldA 0) [.t 2], oo 7 (.ldA 2) [.t 6], oo 8 (.fldA 0) [.t 3], oo 9 (.ldA 2) [.t 8], oo 10 (.call 70) [.t 7, .t 9], oo 11 (.un .not) [.t 10], oo 12 .mv [.t 11], og 13 12 false (.fldA 2) [.t 2], og 14 12 false .ld1 [.t 13], og 15 12 false .len [.t 14], og 16 12 false (.fldA 2) [.t 3], og 17 12 false .ld1 [.t 16], og 18 12 false .len [.t 17], og 19 12 false (.bin .neq) [.t 15, .t 18], oo 20 .pick [.t 12, (.c (.lit (.bool true))), .t 19]]) (.cond (.t 20) c_theorboref10_shape_p1 .skip)) c_theorboref10_shape_p8)
def c_theorboref10_shape : VC := (.seq (.ops 3 [oo 2 (.box 28) [.t 0], oo 3 (.box 28) [.t 1], oo 4 .mv [(.c (.lit (.bool false)))]]) c_theorboref10_shape_p9)
theorem k_theorboref10_shape : Comp Tryz.prog nobx gtab 96 56 c_theorboref10_shape [.t 4] := ⟨⟨Tryz.f96, _, Tryz.func96, rfl, rfl, kr, kr⟩⟩
abbrev c_theorboref10_within_p1 : VC := (.seq (.ops 0 [oo 4 .mv [(.c (.lit (.bool false)))]]) .ret)
abbrev c_theorboref10_within_p2 : VC := (.ops 0 [oo 25 .mv [.t 6], oo 26 (.bin .add) [.t 25, kk 1], oo 6 .mv [.t 26]])
abbrev c_theorboref10_within_p3 : VC := (.seq (.block 3 (.seq (.ops 0 [oo 27 (.fldA 2) [.t 3], od 28 .ld1 [.t 27] [0], oo 29 .mv [.t 5], oo 30 (.ixA 4) [.t 28, .t 29], oo 31 (.fldA 2) [.t 30], od 32 .ld1 [.t 31] [0, 1, 2, 3, 4], oo 33 (.fldA 2) [.t 2], od 34 .ld1 [.t 33] [6], oo 35 .mv [.t 5], oo 36 (.ixA 4) [.t 34, .t 35], oo 37 (.fldA 2) [.t 36], od 38 .ld1 [.t 37] [6, 7, 8, 9, 10], oo 39 .mv [.t 6], oo 40 (.ixA 3) [.t 38, .t 39], od 41 (.ldA 3) [.t 40] [6, 7, 8, 9, 10, 11, 12, 13], oo 42 (.call 67) [.t 32, .t 41], oo 43 (.un .not) [.t 42]]) (.cond (.t 43) c_theorboref10_within_p1 .skip))) c_theorboref10_within_p2)
abbrev c_theorboref10_within_p4 : VC := (.seq (.seq (.ops 0 [oo 16 .mv [.t 6], oo 17 (.fldA 2) [.t 2], oo 18 .ld1 [.t 17], oo 19 .mv [.t 5], oo 20 (.ixA 4) [.t 18, .t 19], oo 21 (.fldA 2) [.t 20], oo 22 .ld1 [.t 21], oo 23 .len [.t 22], oo 24 (.bin .lss) [.t 16, .t 23]]) (.cond (.t 24) .skip (.exit 2))) c_theorboref10_within_p3)
@[go_sem] abbrev w_theorboref10_within_p4 : Nat := 17592185978960
abbrev c_theorboref10_within_p6 : VC := (.seq (.ops 0 [oo 4 .mv [(.c (.lit (.bool false)))]]) .ret)
abbrev c_theorboref10_within_p7 : VC := (.ops 0 [oo 67 .mv [.t 8], oo 68 (.bin .add) [.t 67, kk 1], oo 8 .mv [.t 68]])
abbrev c_theorboref10_within_p8 : VC := (.seq (.block 7 (.seq (.ops 0 [oo 69 (.fldA 2) [.t 3], od 70 .ld1 [.t 69] [0], oo 71 .mv [.t 5], oo 72 (.ixA 4) [.t 70, .t 71], oo 73 (.fldA 3) [.t 72], od 74 .ld1 [.t 73] [0, 1, 2, 3, 4], oo 75 .mv [.t 7], oo 76 (.ixA 1) [.t 74, .t 75], od 77 .ld1 [.t 76] [0, 1, 2, 3, 4, 5, 6, 7], oo 78 (.fldA 2) [.t 2], od 79 .ld1 [.t 78] [9], oo 80 .mv [.t 5], oo 81 (.ixA 4) [.t 79, .t 80], oo 82 (.fldA 3) [.t 81], od 83 .ld1 [.t 82] [9, 10, 11, 12, 13], oo 84 .mv [.t 7], oo 85 (.ixA 1) [.t 83, .t 84], od 86 .ld1 [.t 85] [9, 10, 11, 12, 13, 14, 15, 16], oo 87 .mv [.t 8], oo 88 (.ixA 1) [.t 86, .t 87], od 89 .ld1 [.t 88] [9, 10, 11, 12, 13, 14, 15, 16, 17, 18, 19], oo 90 (.call 68) [.t 77, .t 89], oo 91 (.un .not) [.t 90]]) (.cond (.t 91) c_theorboref10_within_p6 .skip))) c_theorboref10_within_p7)
abbrev c_theorboref10_within_p9 : VC := (.seq (.seq (.ops 0 [oo 55 .mv [.t 8], oo 56 (.fldA 2) [.t 2], oo 57 .ld1 [.t 56], oo 58 .mv [.t 5], oo 59 (.ixA 4) [.t 57, .t 58], oo 60 (.fldA 3) [.t 59], oo 61 .ld1 [.t 60], oo 62 .mv [.t 7], oo 63 (.ixA 1) [.t 61, .t 62], oo 64 .ld1 [.t 63], oo 65 .len [.t 64], oo 66 (.bin .lss) [.t 55, .t 65]]) (.cond (.t 66) .skip (.exit 6))) c_theorboref10_within_p8)
@[go_sem] abbrev w_theorboref10_within_p9 : Nat := 4951760157105492302577533200
abbrev c_theorboref10_within_p11 : VC := (.ops 0 [oo 53 .mv [.t 7], oo 54 (.bin .add) [.t 53, kk 1], oo 7 .mv [.t 54]])
abbrev c_theorboref10_within_p12 : VC := (.seq (.block 5 (.seq (.ops 0 [oo 8 .mv [kk 0]]) (.block 6 (.loop c_theorboref10_within_p9)))) c_theorboref10_within_p11)
abbrev c_theorboref10_within_p13 : VC := (.seq (.seq (.ops 0 [oo 44 .mv [.t 7], oo 45 (.fldA 2) [.t 2], oo 46 .ld1 [.t 45], oo 47 .mv [.t 5], oo 48 (.ixA 4) [.t 46, .t 47], oo 49 (.fldA 3) [.t 48], oo 50 .ld1 [.t 49], oo 51 .len [.t 50], oo 52 (.bin .lss) [.t 44, .t 51]]) (.cond (.t 52) .skip (.exit 4))) c_theorboref10_within_p12)
@[go_sem] abbrev w_theorboref10_within_p13 : Nat := 4951760157141503507410452880
abbrev c_theorboref10_within_p15 : VC := (.seq (.ops 0 [oo 7 .mv [kk 0]]) (.block 4 (.loop c_theorboref10_within_p13)))
abbrev c_theorboref10_within_p16 : VC := (.ops 0 [oo 14 .mv [.t 5], oo 15 (.bin .add) [.t 14, kk 1], oo 5 .mv [.t 15]])
abbrev c_theorboref10_within_p17 : VC := (.seq (.block 1 (.seq (.seq (.ops 0 [oo 6 .mv [kk 0]]) (.block 2 (.loop c_theorboref10_within_p4))) c_theorboref10_within_p15)) c_theorboref10_within_p16)
abbrev c_theorboref10_within_p18 : VC := (.seq (.seq (.ops 0 [oo 9 .mv [.t 5], oo 10 (.fldA 2) [.t 2], oo 11 .ld1 [.t 10], oo 12 .len [.t 11], oo 13 (.bin .lss) [.t 9, .t 12]]) (.cond (.t 13) .skip (.exit 0))) c_theorboref10_within_p17)
@[go_sem] abbrev w_theorboref10_within_p18 : Nat := 4951760157141521099596496880
abbrev c_theorboref10_within_p20 : VC := (.seq (.ops 0 [oo 4 .mv [(.c (.lit (.bool true)))]]) .ret)
abbrev c_theorboref10_within_p21 : VC := (.seq (.seq (.ops 0 [oo 5 .mv [kk 0]]) (.block 0 (.loop c_theorboref10_within_p18))) c_theorboref10_within_p20)
def c_theorboref10_within : VC := (.seq (.ops 3 [oo 2 (.box 28) [.t 0], oo 3 (.box 28) [.t 1], oo 4 .mv [(.c (.lit (.bool false)))]]) c_theorboref10_within_p21)
theorem k_theorboref10_within : Comp Tryz.prog nobx gtab 97 92 c_theorboref10_within [.t 4] := ⟨⟨Tryz.f97, _, Tryz.func97, rfl, rfl, kr, kr⟩⟩
abbrev c_theorboref10_hasSign_p1 : VC := (.seq (.ops 0 [oo 4 .mv [(.c (.lit (.bool true)))]]) .ret)
abbrev c_theorboref10_hasSign_p2 : VC := (.ops 0 [oo 10 .mv [.t 5], oo 11 (.bin .add) [.t 10, kk 1], oo 5 .mv [.t 11]])
abbrev c_theorboref10_hasSign_p3 : VC := (.seq (.block 1 (.seq (.ops 0 [oo 12 .mv [.t 0], oo 13 .mv [.t 5], oo 14 (.ixA 3) [.t 12, .t 13], od 15 (.ldA 3) [.t 14] [0, 1, 2], od 16 (.ldA 3) [.t 3] [], oo 17 (.eqP [(0, 0), (1, 1), (2, 1)] false) [.t 15, .t 16]]) (.cond (.t 17) c_theorboref10_hasSign_p1 .skip))) c_theorboref10_hasSign_p2)
abbrev c_theorboref10_hasSign_p4 : VC := (.seq (.seq (.ops 0 [oo 6 .mv [.t 5], oo 7 .mv [.t 0], oo 8 .len [.t 7], oo 9 (.bin .lss) [.t 6, .t 8]]) (.cond (.t 9) .skip (.exit 0))) c_theorboref10_hasSign_p3)
@[go_sem] abbrev w_theorboref10_hasSign_p4 : Nat := 262128
abbrev c_theorboref10_hasSign_p6 : VC := (.seq (.ops 0 [oo 4 .mv [(.c (.lit (.bool false)))]]) .ret)
abbrev c_theorboref10_hasSign_p7 : VC := (.seq (.seq (.ops 0 [oo 5 .mv [kk 0]]) (.block 0 (.loop c_theorboref10_hasSign_p4))) c_theorboref10_hasSign_p6)
def c_theorboref10_hasSign : VC := (.seq (.ops 2 [oo 3 (.box 110) [.t 1], oo 4 .mv [(.c (.lit (.bool false)))]]) c_theorboref10_hasSign_p7)
theorem k_theorboref10_hasSign : Comp Tryz.prog nobx gtab 67 18 c_theorboref10_hasSign [.t 4] := ⟨⟨Tryz.f67, _, Tryz.func67, rfl, rfl, kr, kr⟩⟩
abbrev c_theorboref10_hasInt_p1 : VC := (.seq (.ops 0 [oo 4 .mv [(.c (.lit (.bool true)))]]) .ret)
abbrev c_theorboref10_hasInt_p2 : VC := (.ops 0 [oo 10 .mv [.t 5], oo 11 (.bin .add) [.t 10, kk 1], oo 5 .mv [.t 11]])
abbrev c_theorboref10_hasInt_p3 : VC := (.seq (.block 1 (.seq (.ops 0 [oo 12 .mv [.t 0], oo 13 .mv [.t 5], oo 14 (.ixA 1) [.t 12, .t 13], oo 15 .ld1 [.t 14], oo 16 .mv [.t 1], oo 17 (.bin .eql) [.t 15, .t 16]]) (.cond (.t 17) c_theorboref10_hasInt_p1 .skip))) c_theorboref10_hasInt_p2)
abbrev c_theorboref10_hasInt_p4 : VC := (.seq (.seq (.ops 0 [oo 6 .mv [.t 5], oo 7 .mv [.t 0], oo 8 .len [.t 7], oo 9 (.bin .lss) [.t 6, .t 8]]) (.cond (.t 9) .skip (.exit 0))) c_theorboref10_hasInt_p3)
@[go_sem] abbrev w_theorboref10_hasInt_p4 : Nat := 262128
abbrev c_theorboref10_hasInt_p6 : VC := (.seq (.ops 0 [oo 4 .mv [(.c (.lit (.bool false)))]]) .ret)
abbrev c_theorboref10_hasInt_p7 : VC := (.seq (.seq (.ops 0 [oo 5 .mv [kk 0]]) (.block 0 (.loop c_theorboref10_hasInt_p4))) c_theorboref10_hasInt_p6)
def c_theorboref10_hasInt : VC := (.seq (.ops 0 [oo 4 .mv [(.c (.lit (.bool false)))]]) c_theorboref10_hasInt_p7)
theorem k_theorboref10_hasInt : Comp Tryz.prog nobx gtab 68 18 c_theorboref10_hasInt [.t 4] := ⟨⟨Tryz.f68, _, Tryz.func68, rfl, rfl, kr, kr⟩⟩
abbrev c_theorbolaw10_LeafReads_p1 : VC := (.seq (.ops 0 [oo 21 .mv [.t 5], oo 22 .mv [.t 7], oo 23 (.eqB false) [.t 21, .t 22], oo 24 .mv [.t 23], og 25 24 true .mv [.t 6], og 26 24 true .mv [.t 8], og 27 24 true (.bin .eql) [.t 25, .t 26], oo 28 .pick [.t 24, .t 27, (.c (.lit (.bool false)))], oo 29 .mv [.t 28], og 30 29 true (.call 19) [], oo 31 .pick [.t 29, .t 30, (.c (.lit (.bool false)))], oo 4 .mv [.t 31]]) .ret)
abbrev c_theorbolaw10_LeafReads_p2 : VC := (.seq (.ops 0 [oo 16 (.ldA 3) [.t 2], oo 17 (.ldA 3) [.t 3], oo 18 (.call 42) [.t 16, .t 17], oo 15 .mv [.t 18], oo 19 (.ext 0) [.t 15], oo 20 (.ext 1) [.t 15], oo 7 .mv [.t 19], oo 8 .mv [.t 20]]) c_theorbolaw10_LeafReads_p1)
abbrev c_theorbolaw10_LeafReads_p3 : VC := (.seq (.ops 0 [oo 10 (.ldA 3) [.t 2], oo 11 (.ldA 3) [.t 3], oo 12 (.call 41) [.t 10, .t 11], oo 9 .mv [.t 12], oo 13 (.ext 0) [.t 9], oo 14 (.ext 1) [.t 9], oo 5 .mv [.t 13], oo 6 .mv [.t 14]]) c_theorbolaw10_LeafReads_p2)
def c_theorbolaw10_LeafReads : VC := (.seq (.ops 3 [oo 2 (.box 28) [.t 0], oo 3 (.box 49) [.t 1], oo 4 .mv [(.c (.lit (.bool false)))]]) c_theorbolaw10_LeafReads_p3)
theorem k_theorbolaw10_LeafReads : Comp Tryz.prog nobx gtab 9 32 c_theorbolaw10_LeafReads [.t 4] := ⟨⟨Tryz.f9, _, Tryz.func9, rfl, rfl, kr, kr⟩⟩
abbrev c_leaf_subset_api_Sign_1_p1 : VC := (.seq (.ops 0 [oo 4 .ld1 [.t 1], oo 5 (.ldA 3) [.t 2], oo 6 (.call 160) [.t 4, .t 5], oo 7 (.un .not) [.t 6], oo 3 .mv [.t 7]]) .ret)
def c_leaf_subset_api_Sign_1 : VC := (.seq (.ops 2 [oo 2 (.box 110) [.t 0], oo 3 .mv [(.c (.lit (.bool false)))]]) c_leaf_subset_api_Sign_1_p1)
theorem k_leaf_subset_api_Sign_1 : Comp Tryz.prog nobx gtab 214 8 c_leaf_subset_api_Sign_1 [.t 3] := ⟨⟨Tryz.f214, _, Tryz.func214, rfl, rfl, kr, kr⟩⟩
abbrev c_leaf_subset_int_1_p1 : VC := (.seq (.ops 0 [oo 4 .ld1 [.t 1], oo 5 .mv [.t 0], oo 6 (.call 161) [.t 4, .t 5], oo 7 (.un .not) [.t 6], oo 3 .mv [.t 7]]) .ret)
def c_leaf_subset_int_1 : VC := (.seq (.ops 0 [oo 3 .mv [(.c (.lit (.bool false)))]]) c_leaf_subset_int_1_p1)
theorem k_leaf_subset_int_1 : Comp Tryz.prog nobx gtab 216 8 c_leaf_subset_int_1 [.t 3] := ⟨⟨Tryz.f216, _, Tryz.func216, rfl, rfl, kr, kr⟩⟩
end Go.Proofs.YtdefefeifcdogaaGreat
namespace Go.Proofs.YtdefefeifcdogaaGreat
open Go.RowKit
set_option maxRecDepth 100000

abbrev c_leaf_subset_api_Sign_a_p1 : VC := (.seq (.ops 0 [oo 5 .mv [.t 0], oo 6 (.mkfn 214) [.t 3], oo 7 (.call 144) [.t 5, .t 6], oo 8 (.un .not) [.t 7], oo 4 .mv [.t 8]]) .ret)
def c_leaf_subset_api_Sign_a : VC := (.seq (.ops 0 [oo 3 .boxE [.t 1], oo 4 .mv [(.c (.lit (.bool false)))]]) c_leaf_subset_api_Sign_a_p1)
theorem k_leaf_subset_api_Sign_a : Comp Tryz.prog allbx gtab 158 9 c_leaf_subset_api_Sign_a [.t 4] := ⟨⟨Tryz.f158, _, Tryz.func158, rfl, rfl, kr, kr⟩⟩
abbrev c_leaf_subset_int_a_p1 : VC := (.seq (.ops 0 [oo 5 .mv [.t 0], oo 6 (.mkfn 216) [.t 3], oo 7 (.call 215) [.t 5, .t 6], oo 8 (.un .not) [.t 7], oo 4 .mv [.t 8]]) .ret)
def c_leaf_subset_int_a : VC := (.seq (.ops 0 [oo 3 .boxE [.t 1], oo 4 .mv [(.c (.lit (.bool false)))]]) c_leaf_subset_int_a_p1)
theorem k_leaf_subset_int_a : Comp Tryz.prog allbx gtab 159 9 c_leaf_subset_int_a [.t 4] := ⟨⟨Tryz.f159, _, Tryz.func159, rfl, rfl, kr, kr⟩⟩
end Go.Proofs.YtdefefeifcdogaaGreat
namespace Go.Proofs.YtdefefeifcdogaaGreat
open Go.RowKit
set_option linter.unusedSimpArgs false
set_option linter.unusedVariables false

def memS (l : List Sg) (s : Sg) : Bool := l.any fun x => decide (x = s)
def memI (l : List Int) (n : Int) : Bool := l.any fun x => decide (x = n)
def subS (a b : List Sg) : Bool := !(a.any fun x => !memS b x)
def subI (a b : List Int) : Bool := !(a.any fun x => !memI b x)
theorem indexSg_fn (l : List Sg) (s : Sg) (hl : l.length ≤ 17592186044416) : Fn Tryz.prog Gd 217 [tL Sg.cells l, s.val] (vint (idxI (fun x => decide (x = s)) l)) := by
  refine Fn.of_vx0 k_slices_Index_api_Sign_api_Sign (by simp) (by rw [V.pures, pure_tL, V.pures, pure_sg]; rfl) ?_
  unfold c_slices_Index_api_Sign_api_Sign
  obtain ⟨v, d, tt⟩ := s
  repeat' (with_reducible first | refine x_ops ?_ | refine wk ?_ | ((first | refine gd1 ?_ ?_ | refine gd2 ?_ ?_ | refine gd3 ?_ ?_) <;> (first | exact @False.elim _ | intro hc)))
  refine x_loopF w_slices_Index_api_Sign_api_Sign_p6 kr l.length (fun k t => t 8 = vint k ∧ ∀ i, i < k → decide (l.getD i default = ⟨v, d, tt⟩) = false) ?_ ?_
  · exact ⟨vv, fun i h => by omega⟩
  rintro k t hk ⟨h8, hI⟩
  by_cases hlt : k < l.length
  case neg =>
    have c1 : ¬ (k : Int) < (l.length : Int) := by omega
    have hq : idxI (fun x => decide (x = ⟨v, d, tt⟩)) l = -1 := idxI_none fun i hi => hI i (by omega)
    rw [hq]
    clear hlt hk hI hq
    repeat' (with_reducible first | refine x_ops ?_ | refine wk ?_ | ((first | refine gd1 ?_ ?_ | refine gd2 ?_ ?_ | refine gd3 ?_ ?_) <;> (first | exact @False.elim _ | intro hc)))
    exact finV_lit vv rfl
  have g1 := sg_take (l := l) (k := k) hlt
  have g2 := sgs_len l
  have c1 : (k : Int) < (l.length : Int) := by omega
  have c3 : k * 3 + 3 ≤ l.length * 3 := by omega
  have w1 := w_add1 (k := k) (by omega)
  have hlt0 := Hid.mk hlt
  have hI2 : decide (l.getD k default = ⟨v, d, tt⟩) = false → ∀ i, i < k + 1 → decide (l.getD i default = ⟨v, d, tt⟩) = false := fun h i hi => by
    by_cases e : i = k
    · subst e; exact h
    · exact hI i (by omega)
  have hhit : decide (l.getD k default = ⟨v, d, tt⟩) = true → idxI (fun x => decide (x = ⟨v, d, tt⟩)) l = k := fun h => idxI_at hlt h hI
  replace hI2 := Hid.mk hI2
  replace hhit := Hid.mk hhit
  clear hlt hk hI
  generalize l.getD k default = x at *
  obtain ⟨v', d', tt'⟩ := x
  by_cases e1 : v = v'
  case neg =>
    have d1 : (v == v') = false := by rw [beq_eq_false_iff_ne]; exact e1
    have hI3 := hI2.out (decide_eq_false fun e => e1 (by injection e with e; exact e.symm))
    replace hI3 := Hid.mk hI3
    clear e1 hI2 hhit
    repeat' (with_reducible first | refine x_ops ?_ | simp only [go_sem, Nat.reduceAdd, Nat.reduceEqDiff, Nat.reduceLT, Nat.reduceLeDiff, Nat.reduceMul, Nat.reduceSub, Nat.reducePow, Nat.reduceDiv, Nat.reduceMod, Nat.reduceBEq, Int.reduceBEq, Int.reduceLT, reduceIte, tIs, tBs, tPs, Bool.false_and, *] | ((first | refine gd1 ?_ ?_ | refine gd2 ?_ ?_ | refine gd3 ?_ ?_) <;> (first | exact @False.elim _ | intro hc)))
    exact nf hlt0.out ⟨vv, fun i hi => of_decide_eq_false (hI3.out i hi)⟩ rfl
  subst e1
  by_cases e1 : d = d'
  case neg =>
    have d1 : (d == d') = false := by rw [beq_eq_false_iff_ne]; exact e1
    have hI3 := hI2.out (decide_eq_false fun e => e1 (by injection e with _ e; exact e.symm))
    replace hI3 := Hid.mk hI3
    clear e1 hI2 hhit
    repeat' (with_reducible first | refine x_ops ?_ | simp only [go_sem, Nat.reduceAdd, Nat.reduceEqDiff, Nat.reduceLT, Nat.reduceLeDiff, Nat.reduceMul, Nat.reduceSub, Nat.reducePow, Nat.reduceDiv, Nat.reduceMod, Nat.reduceBEq, Int.reduceBEq, Int.reduceLT, reduceIte, tIs, tBs, tPs, Bool.false_and, Bool.true_and, *] | ((first | refine gd1 ?_ ?_ | refine gd2 ?_ ?_ | refine gd3 ?_ ?_) <;> (first | exact @False.elim _ | intro hc)))
    exact nf hlt0.out ⟨vv, fun i hi => of_decide_eq_false (hI3.out i hi)⟩ rfl
  subst e1
  by_cases e1 : tt = tt'
  case neg =>
    have d1 : (tt == tt') = false := by rw [beq_eq_false_iff_ne]; exact e1
    have hI3 := hI2.out (decide_eq_false fun e => e1 (by injection e with _ _ e; exact e.symm))
    replace hI3 := Hid.mk hI3
    clear e1 hI2 hhit
    repeat' (with_reducible first | refine x_ops ?_ | simp only [go_sem, Nat.reduceAdd, Nat.reduceEqDiff, Nat.reduceLT, Nat.reduceLeDiff, Nat.reduceMul, Nat.reduceSub, Nat.reducePow, Nat.reduceDiv, Nat.reduceMod, Nat.reduceBEq, Int.reduceBEq, Int.reduceLT, reduceIte, tIs, tBs, tPs, Bool.false_and, Bool.true_and, *] | ((first | refine gd1 ?_ ?_ | refine gd2 ?_ ?_ | refine gd3 ?_ ?_) <;> (first | exact @False.elim _ | intro hc)))
    exact nf hlt0.out ⟨vv, fun i hi => of_decide_eq_false (hI3.out i hi)⟩ rfl
  subst e1
  have hq := hhit.out (decide_eq_true rfl)
  rw [hq]
  clear hI2 hhit hq
  repeat' (with_reducible first | refine x_ops ?_ | simp only [go_sem, Nat.reduceAdd, Nat.reduceEqDiff, Nat.reduceLT, Nat.reduceLeDiff, Nat.reduceMul, Nat.reduceSub, Nat.reducePow, Nat.reduceDiv, Nat.reduceMod, Nat.reduceBEq, Int.reduceBEq, Int.reduceLT, reduceIte, tIs, tBs, tPs, Bool.true_and, *] | ((first | refine gd1 ?_ ?_ | refine gd2 ?_ ?_ | refine gd3 ?_ ?_) <;> (first | exact @False.elim _ | intro hc)))
  exact finV_lit vv rfl
theorem hasSg_fn (l : List Sg) (s : Sg) (hl : l.length ≤ 17592186044416) : Fn Tryz.prog Gd 160 [tL Sg.cells l, s.val] (vbool (memS l s)) := by
  refine Fn.of_vx0 k_slices_Contains_api_Sign_api_Sign (by simp) (by rw [V.pures, pure_tL, V.pures, pure_sg]; rfl) ?_
  have I := indexSg_fn l s hl
  have G := idxI_ge (fun x => decide (x = s)) l
  have hq : memS l s = l.any fun x => decide (x = s) := rfl
  rw [hq, ← G]
  generalize idxI (fun x => decide (x = s)) l = z at *
  obtain ⟨v, d, tt⟩ := s
  clear hq G hl
  unfold c_slices_Contains_api_Sign_api_Sign
  repeat' (with_reducible first | refine x_ops ?_ | refine wk ?_ | (with_reducible refine xc (I) ?_) | ((first | refine gd1 ?_ ?_ | refine gd2 ?_ ?_ | refine gd3 ?_ ?_) <;> (first | exact @False.elim _ | intro hc)))
  exact finV_lit vv rfl
theorem indexIn_fn (l : List Int) (n : Int) (hl : l.length ≤ 17592186044416) : Fn Tryz.prog Gd 218 [tIs l, vint n] (vint (idxI (fun x => decide (x = n)) l)) := by
  refine Fn.of_vx0 k_slices_Index_int_int (by simp) (by rw [V.pures, pure_tIs, V.pures, vint, V.pure]; rfl) ?_
  unfold c_slices_Index_int_int
  repeat' (with_reducible first | refine x_ops ?_ | refine wk ?_ | ((first | refine gd1 ?_ ?_ | refine gd2 ?_ ?_ | refine gd3 ?_ ?_) <;> (first | exact @False.elim _ | intro hc)))
  refine x_loopF w_slices_Index_int_int_p6 kr l.length (fun k t => t 8 = vint k ∧ ∀ i, i < k → decide (l.getD i default = n) = false) ?_ ?_
  · exact ⟨vv, fun i h => by omega⟩
  rintro k t hk ⟨h8, hI⟩
  by_cases hlt : k < l.length
  case neg =>
    have c1 : ¬ (k : Int) < (l.length : Int) := by omega
    have hq : idxI (fun x => decide (x = n)) l = -1 := idxI_none fun i hi => hI i (by omega)
    rw [hq]
    clear hlt hk hI hq
    repeat' (with_reducible first | refine x_ops ?_ | refine wk ?_ | ((first | refine gd1 ?_ ?_ | refine gd2 ?_ ?_ | refine gd3 ?_ ?_) <;> (first | exact @False.elim _ | intro hc)))
    exact finV_lit vv rfl
  have g1 := ints_at (l := l) (k := k) hlt
  have c1 : (k : Int) < (l.length : Int) := by omega
  have w1 := w_add1 (k := k) (by omega)
  have hlt0 := Hid.mk hlt
  by_cases e1 : l.getD k 0 = n
  · have hq : idxI (fun x => decide (x = n)) l = k := idxI_at hlt (decide_eq_true e1) hI
    have d1 : (n == l.getD k 0) = true := by rw [beq_iff_eq]; exact e1.symm
    rw [hq]
    clear hlt hk hI hq e1
    repeat' (with_reducible first | refine x_ops ?_ | refine wk ?_ | ((first | refine gd1 ?_ ?_ | refine gd2 ?_ ?_ | refine gd3 ?_ ?_) <;> (first | exact @False.elim _ | intro hc)))
    exact finV_lit vv rfl
  · have d1 : (n == l.getD k 0) = false := by rw [beq_eq_false_iff_ne]; exact fun e => e1 e.symm
    have hI3 : ∀ i, i < k + 1 → decide (l.getD i default = n) = false := fun i hi => by
      by_cases e : i = k
      · subst e; exact decide_eq_false e1
      · exact hI i (by omega)
    replace hI3 := Hid.mk hI3
    clear hlt hk hI e1
    repeat' (with_reducible first | refine x_ops ?_ | refine wk ?_ | ((first | refine gd1 ?_ ?_ | refine gd2 ?_ ?_ | refine gd3 ?_ ?_) <;> (first | exact @False.elim _ | intro hc)))
    exact nf hlt0.out ⟨vv, fun i hi => of_decide_eq_false (hI3.out i hi)⟩ rfl
theorem hasIn_fn (l : List Int) (n : Int) (hl : l.length ≤ 17592186044416) : Fn Tryz.prog Gd 161 [tIs l, vint n] (vbool (memI l n)) := by
  refine Fn.of_vx0 k_slices_Contains_int_int (by simp) (by rw [V.pures, pure_tIs, V.pures, vint, V.pure]; rfl) ?_
  have I := indexIn_fn l n hl
  have G := idxI_ge (fun x => decide (x = n)) l
  have hq : memI l n = l.any fun x => decide (x = n) := rfl
  rw [hq, ← G]
  generalize idxI (fun x => decide (x = n)) l = z at *
  clear hq G hl
  unfold c_slices_Contains_int_int
  repeat' (with_reducible first | refine x_ops ?_ | refine wk ?_ | (with_reducible refine xc (I) ?_) | ((first | refine gd1 ?_ ?_ | refine gd2 ?_ ?_ | refine gd3 ?_ ?_) <;> (first | exact @False.elim _ | intro hc)))
  exact finV_lit vv rfl
theorem indexSC_fn (l : List Sg) (p : Sg → Bool) {f : FuncId} {cs : List V} (hc : callable Tryz.prog f = true) (hp : V.pures cs = true) (hn : V.norms cs = cs) (hf : ∀ x : Sg, Fn Tryz.prog Gd f (.agg x.cells :: cs) (vbool (p x))) (hl : l.length ≤ 17592186044416) :
    Fn Tryz.prog Gd 203 [tL Sg.cells l, .fn f cs] (vint (idxI p l)) := by
  refine Fn.of_vx0 k_slices_IndexFunc_api_Sign_api_Sign (by simp) (by rw [V.pures, pure_tL, V.pures, V.pure, hp]; rfl) ?_
  unfold c_slices_IndexFunc_api_Sign_api_Sign
  replace hc := Hid.mk hc
  replace hp := Hid.mk hp
  replace hf := Hid.mk hf
  repeat' (with_reducible first | refine x_ops ?_ | refine wk ?_ | ((first | refine gd1 ?_ ?_ | refine gd2 ?_ ?_ | refine gd3 ?_ ?_) <;> (first | exact @False.elim _ | intro hc)))
  refine x_loopF w_slices_IndexFunc_api_Sign_api_Sign_p7 kr l.length (fun k t => t 8 = vint k ∧ ∀ i, i < k → p (l.getD i default) = false) ?_ ?_
  · exact ⟨vv, fun i h => by omega⟩
  rintro k t hk ⟨h8, hI⟩
  replace hI := Hid.mk hI
  by_cases hlt : k < l.length
  · have g1 := sg_take (l := l) (k := k) hlt
    have g2 := sgs_len l
    have c2 : (k : Int) < (l.length : Int) := by omega
    have c3 : k * 3 + 3 ≤ l.length * 3 := by omega
    have w2 := w_add1 (k := k) (by omega)
    have hx := hf.out (l.getD k default)
    have hlt0 := Hid.mk hlt
    cases hb : p (l.getD k default)
    · rw [hb] at hx
      replace hb := Hid.mk hb
      clear hlt hk
      repeat' (with_reducible first | refine x_ops ?_ | refine wk ?_ | (with_reducible refine xcv hx hc.out ?_) | ((first | refine gd1 ?_ ?_ | refine gd2 ?_ ?_ | refine gd3 ?_ ?_) <;> (first | exact @False.elim _ | intro hc)))
      refine nf hlt0.out ⟨vv, fun i h => ?_⟩ rfl
      by_cases hi : i = k
      · subst hi; exact hb.out
      · exact hI.out i (by omega)
    · rw [hb] at hx
      replace hb := Hid.mk hb
      clear hlt hk
      repeat' (with_reducible first | refine x_ops ?_ | refine wk ?_ | (with_reducible refine xcv hx hc.out ?_) | ((first | refine gd1 ?_ ?_ | refine gd2 ?_ ?_ | refine gd3 ?_ ?_) <;> (first | exact @False.elim _ | intro hc)))
      refine finV_lit vv ?_
      rw [idxI_at hlt0.out hb.out hI.out]
  · have c1 : ¬ ((k : Int) < (l.length : Int)) := by omega
    have hq : idxI p l = -1 := idxI_none fun i hi => hI.out i (by omega)
    rw [hq]
    clear hlt hk hq
    repeat' (with_reducible first | refine x_ops ?_ | refine wk ?_ | ((first | refine gd1 ?_ ?_ | refine gd2 ?_ ?_ | refine gd3 ?_ ?_) <;> (first | exact @False.elim _ | intro hc)))
    exact finV_lit vv rfl
theorem containsSC_fn (l : List Sg) (p : Sg → Bool) {f : FuncId} {cs : List V} (hc : callable Tryz.prog f = true) (hp : V.pures cs = true) (hn : V.norms cs = cs) (hf : ∀ x : Sg, Fn Tryz.prog Gd f (.agg x.cells :: cs) (vbool (p x))) (hl : l.length ≤ 17592186044416) :
    Fn Tryz.prog Gd 144 [tL Sg.cells l, .fn f cs] (vbool (l.any p)) := by
  refine Fn.of_vx0 k_slices_ContainsFunc_api_Sign_api_Sign (by simp) (by rw [V.pures, pure_tL, V.pures, V.pure, hp]; rfl) ?_
  unfold c_slices_ContainsFunc_api_Sign_api_Sign
  have I := indexSC_fn l p hc hp hn hf hl
  have G := idxI_ge p l
  clear hp hc hf
  repeat' (with_reducible first | refine x_ops ?_ | refine wk ?_ | (with_reducible refine xc (I) ?_) | ((first | refine gd1 ?_ ?_ | refine gd2 ?_ ?_ | refine gd3 ?_ ?_) <;> (first | exact @False.elim _ | intro hc)))
  refine finV_lit vv ?_
  rw [← G]
theorem indexIC_fn (l : List Int) (p : Int → Bool) {f : FuncId} {cs : List V} (hc : callable Tryz.prog f = true) (hp : V.pures cs = true) (hn : V.norms cs = cs) (hf : ∀ x : Int, Fn Tryz.prog Gd f (vint x :: cs) (vbool (p x))) (hl : l.length ≤ 17592186044416) :
    Fn Tryz.prog Gd 259 [tIs l, .fn f cs] (vint (idxI p l)) := by
  refine Fn.of_vx0 k_slices_IndexFunc_int_int (by simp) (by rw [V.pures, pure_tIs, V.pures, V.pure, hp]; rfl) ?_
  unfold c_slices_IndexFunc_int_int
  replace hc := Hid.mk hc
  replace hp := Hid.mk hp
  replace hf := Hid.mk hf
  repeat' (with_reducible first | refine x_ops ?_ | refine wk ?_ | ((first | refine gd1 ?_ ?_ | refine gd2 ?_ ?_ | refine gd3 ?_ ?_) <;> (first | exact @False.elim _ | intro hc)))
  refine x_loopF w_slices_IndexFunc_int_int_p6 kr l.length (fun k t => t 8 = vint k ∧ ∀ i, i < k → p (l.getD i default) = false) ?_ ?_
  · exact ⟨vv, fun i h => by omega⟩
  rintro k t hk ⟨h8, hI⟩
  replace hI := Hid.mk hI
  by_cases hlt : k < l.length
  · have g1 := ints_at (l := l) (k := k) hlt
    have c2 : (k : Int) < (l.length : Int) := by omega
    have w2 := w_add1 (k := k) (by omega)
    have hx := hf.out (l.getD k 0)
    have hlt0 := Hid.mk hlt
    cases hb : p (l.getD k 0)
    · rw [hb] at hx
      replace hb := Hid.mk hb
      clear hlt hk
      repeat' (with_reducible first | refine x_ops ?_ | refine wk ?_ | (with_reducible refine xcv hx hc.out ?_) | ((first | refine gd1 ?_ ?_ | refine gd2 ?_ ?_ | refine gd3 ?_ ?_) <;> (first | exact @False.elim _ | intro hc)))
      refine nf hlt0.out ⟨vv, fun i h => ?_⟩ rfl
      by_cases hi : i = k
      · subst hi; exact hb.out
      · exact hI.out i (by omega)
    · rw [hb] at hx
      replace hb := Hid.mk hb
      clear hlt hk
      repeat' (with_reducible first | refine x_ops ?_ | refine wk ?_ | (with_reducible refine xcv hx hc.out ?_) | ((first | refine gd1 ?_ ?_ | refine gd2 ?_ ?_ | refine gd3 ?_ ?_) <;> (first | exact @False.elim _ | intro hc)))
      refine finV_lit vv ?_
      rw [idxI_at hlt0.out hb.out hI.out]
  · have c1 : ¬ ((k : Int) < (l.length : Int)) := by omega
    have hq : idxI p l = -1 := idxI_none fun i hi => hI.out i (by omega)
    rw [hq]
    clear hlt hk hq
    repeat' (with_reducible first | refine x_ops ?_ | refine wk ?_ | ((first | refine gd1 ?_ ?_ | refine gd2 ?_ ?_ | refine gd3 ?_ ?_) <;> (first | exact @False.elim _ | intro hc)))
    exact finV_lit vv rfl
theorem containsIC_fn (l : List Int) (p : Int → Bool) {f : FuncId} {cs : List V} (hc : callable Tryz.prog f = true) (hp : V.pures cs = true) (hn : V.norms cs = cs) (hf : ∀ x : Int, Fn Tryz.prog Gd f (vint x :: cs) (vbool (p x))) (hl : l.length ≤ 17592186044416) :
    Fn Tryz.prog Gd 215 [tIs l, .fn f cs] (vbool (l.any p)) := by
  refine Fn.of_vx0 k_slices_ContainsFunc_int_int (by simp) (by rw [V.pures, pure_tIs, V.pures, V.pure, hp]; rfl) ?_
  unfold c_slices_ContainsFunc_int_int
  have I := indexIC_fn l p hc hp hn hf hl
  have G := idxI_ge p l
  clear hp hc hf
  repeat' (with_reducible first | refine x_ops ?_ | refine wk ?_ | (with_reducible refine xc (I) ?_) | ((first | refine gd1 ?_ ?_ | refine gd2 ?_ ?_ | refine gd3 ?_ ?_) <;> (first | exact @False.elim _ | intro hc)))
  refine finV_lit vv ?_
  rw [← G]
theorem subS1_fn (b : List Sg) (hb : b.length ≤ 17592186044416) (s : Sg) : Fn Tryz.prog Gd 214 [.agg s.cells, .ept [tL Sg.cells b] 0] (vbool (!memS b s)) := by
  refine Fn.of_vx0 k_leaf_subset_api_Sign_1 (by simp) rfl ?_
  have H := hasSg_fn b s hb
  generalize memS b s = z at *
  obtain ⟨v, d, tt⟩ := s
  unfold c_leaf_subset_api_Sign_1
  repeat' (with_reducible first | refine x_ops ?_ | refine wk ?_ | (with_reducible refine xc (H) ?_) | ((first | refine gd1 ?_ ?_ | refine gd2 ?_ ?_ | refine gd3 ?_ ?_) <;> (first | exact @False.elim _ | intro hc)))
  exact finV_lit vv rfl
theorem subI1_fn (b : List Int) (hb : b.length ≤ 17592186044416) (n : Int) : Fn Tryz.prog Gd 216 [vint n, .ept [tIs b] 0] (vbool (!memI b n)) := by
  refine Fn.of_vx0 k_leaf_subset_int_1 (by simp) rfl ?_
  have H := hasIn_fn b n hb
  generalize memI b n = z at *
  unfold c_leaf_subset_int_1
  repeat' (with_reducible first | refine x_ops ?_ | refine wk ?_ | (with_reducible refine xc (H) ?_) | ((first | refine gd1 ?_ ?_ | refine gd2 ?_ ?_ | refine gd3 ?_ ?_) <;> (first | exact @False.elim _ | intro hc)))
  exact finV_lit vv rfl
theorem subS_fn (a b : List Sg) (ha : a.length ≤ 17592186044416) (hb : b.length ≤ 17592186044416) : Fn Tryz.prog Gd 158 [tL Sg.cells a, tL Sg.cells b] (vbool (subS a b)) := by
  refine Fn.of_vx0 k_leaf_subset_api_Sign_a (by simp) (by rw [V.pures, pure_tL, V.pures, pure_tL]; rfl) ?_
  have C := containsSC_fn a (fun x => !memS b x) (f := 214) (cs := [.ept [tL Sg.cells b] 0]) kr rfl rfl (fun s => subS1_fn b hb s) ha
  have hq : subS a b = !(a.any fun x => !memS b x) := rfl
  rw [hq]
  generalize (a.any fun x => !memS b x) = z at *
  clear ha hb hq
  unfold c_leaf_subset_api_Sign_a
  repeat' (with_reducible first | refine x_ops ?_ | refine wk ?_ | (with_reducible refine xc (C) ?_) | ((first | refine gd1 ?_ ?_ | refine gd2 ?_ ?_ | refine gd3 ?_ ?_) <;> (first | exact @False.elim _ | intro hc)))
  exact finV_lit vv rfl
theorem subI_fn (a b : List Int) (ha : a.length ≤ 17592186044416) (hb : b.length ≤ 17592186044416) : Fn Tryz.prog Gd 159 [tIs a, tIs b] (vbool (subI a b)) := by
  refine Fn.of_vx0 k_leaf_subset_int_a (by simp) (by rw [V.pures, pure_tIs, V.pures, pure_tIs]; rfl) ?_
  have C := containsIC_fn a (fun x => !memI b x) (f := 216) (cs := [.ept [tIs b] 0]) kr rfl rfl (fun s => subI1_fn b hb s) ha
  have hq : subI a b = !(a.any fun x => !memI b x) := rfl
  rw [hq]
  generalize (a.any fun x => !memI b x) = z at *
  clear ha hb hq
  unfold c_leaf_subset_int_a
  repeat' (with_reducible first | refine x_ops ?_ | refine wk ?_ | (with_reducible refine xc (C) ?_) | ((first | refine gd1 ?_ ?_ | refine gd2 ?_ ?_ | refine gd3 ?_ ?_) <;> (first | exact @False.elim _ | intro hc)))
  exact finV_lit vv rfl
end Go.Proofs.YtdefefeifcdogaaGreat
namespace Go.Proofs.YtdefefeifcdogaaGreat
open Go.RowKit
set_option maxRecDepth 100000

abbrev c_piece_Check_p1 : VC := (.seq (.ops 0 [oo 15 .mv [.t 3], oo 2 .mv [.t 15]]) .ret)
abbrev c_piece_Check_p2 : VC := (.seq (.ops 0 [oo 13 .mv [.t 3], oo 14 (.bin .neq) [.t 13, kk 0]]) (.cond (.t 14) c_piece_Check_p1 .skip))
abbrev c_piece_Check_p3 : VC := (.seq (.ops 0 [oo 2 .mv [kk 2]]) .ret)
abbrev c_piece_Check_p4 : VC := (.seq (.ops 0 [oo 2 .mv [kk 20]]) .ret)
abbrev c_piece_Check_p5 : VC := (.seq (.ops 0 [oo 2 .mv [kk 21]]) .ret)
abbrev c_piece_Check_p6 : VC := (.seq (.ops 0 [oo 68 .mv [.t 9], oo 2 .mv [.t 68]]) .ret)
abbrev c_piece_Check_p7 : VC := (.seq (.ops 0 [oo 66 .mv [.t 9], oo 67 (.bin .neq) [.t 66, kk 0]]) (.cond (.t 67) c_piece_Check_p6 .skip))
abbrev c_piece_Check_p8 : VC := (.ops 0 [oo 69 (.fldA 0) [.t 8], oo 70 .ld1 [.t 69], oo 6 .mv [.t 70]])
abbrev c_piece_Check_p9 : VC := (.seq (.seq (.ops 0 [oo 61 (.ldA 3) [.t 1], oo 62 .mv [.t 4], oo 63 (.ldA 5) [.t 8], oo 64 .mv [.t 6], oo 65 (.call 221) [.t 61, .t 62, .t 63, .t 64], oo 9 .mv [.t 65]]) c_piece_Check_p7) c_piece_Check_p8)
abbrev c_piece_Check_p10 : VC := (.ops 0 [oo 71 (.bin .add) [.t 57, kk 1], oo 57 .mv [.t 71]])
abbrev c_piece_Check_p11 : VC := (.seq (.block 3 (.seq (.ops 4 [oo 59 (.ixA 5) [.t 55, .t 57], oo 60 (.ldA 5) [.t 59], oo 8 (.alloc 152 [li 0, li 0, li 0, li 0, li 0]) [], ⟨none, none, (.st 5), [.t 8, .t 60], none⟩]) c_piece_Check_p9)) c_piece_Check_p10)
abbrev c_piece_Check_p12 : VC := (.seq (.ops 0 [oo 58 (.bin .lss) [.t 57, .t 56]]) (.seq (.cond (.t 58) .skip (.exit 2)) c_piece_Check_p11))
@[go_sem] abbrev w_piece_Check_p12 : Nat := 4722222367681569358660
abbrev c_piece_Check_p14 : VC := (.seq (.ops 0 [oo 54 (.fldA 5) [.t 5], oo 55 .ld1 [.t 54], oo 56 .len [.t 55], oo 57 .mv [kk 0]]) (.block 2 (.loop c_piece_Check_p12)))
abbrev c_piece_Check_p15 : VC := (.seq (.ops 0 [oo 6 .mv [kk 0]]) c_piece_Check_p14)
abbrev c_piece_Check_p16 : VC := (.seq (.seq (.ops 0 [oo 42 (.fldA 4) [.t 5], oo 43 .ld1 [.t 42], oo 44 .mv [.t 43], og 45 44 true .mv [.t 4], og 46 44 true (.bin .eql) [.t 45, kk 0], og 47 44 true .mv [.t 46], og 48 47 false (.fldA 5) [.t 5], og 49 47 false .ld1 [.t 48], og 50 47 false .len [.t 49], og 51 47 false (.bin .gtr) [.t 50, kk 0], og 52 44 true .pick [.t 47, (.c (.lit (.bool true))), .t 51], oo 53 .pick [.t 44, .t 52, (.c (.lit (.bool false)))]]) (.cond (.t 53) c_piece_Check_p5 .skip)) c_piece_Check_p15)
abbrev c_piece_Check_p17 : VC := (.seq (.seq (.ops 0 [oo 28 (.fldA 1) [.t 5], oo 29 (.ldA 3) [.t 28], oo 30 (.call 220) [.t 29], oo 31 (.un .not) [.t 30], oo 32 .mv [.t 31], og 33 32 false .mv [.t 4], og 34 32 false (.bin .eql) [.t 33, kk 0], og 35 32 false .mv [.t 34], og 36 35 true (.fldA 1) [.t 5], og 37 35 true (.ldA 3) [.t 36], og 38 35 true (.build [li 0, (.lit (.bool false)), (.lit (.bool false))] []) [], og 39 35 true (.eqP [(0, 0), (1, 1), (2, 1)] false) [.t 37, .t 38], og 40 32 false .pick [.t 35, .t 39, (.c (.lit (.bool false)))], oo 41 .pick [.t 32, (.c (.lit (.bool true))), .t 40]]) (.cond (.t 41) c_piece_Check_p4 .skip)) c_piece_Check_p16)
abbrev c_piece_Check_p18 : VC := (.ops 0 [oo 72 (.bin .add) [.t 23, kk 1], oo 23 .mv [.t 72]])
abbrev c_piece_Check_p19 : VC := (.seq (.block 1 (.seq (.ops 6 [oo 25 .mv [.t 23], oo 26 (.ixA 6) [.t 21, .t 23], oo 27 (.ldA 6) [.t 26], ⟨(some 5), none, (.alloc 136 [(.lit (.bool false)), li 0, (.lit (.bool false)), (.lit (.bool false)), (.lit (.bool false)), (.sl 0 [] .exact)]), [], none⟩, oo 4 .mv [.t 25], ⟨none, none, (.st 6), [.t 5, .t 27], none⟩]) c_piece_Check_p17)) c_piece_Check_p18)
abbrev c_piece_Check_p20 : VC := (.seq (.ops 0 [oo 24 (.bin .lss) [.t 23, .t 22]]) (.seq (.cond (.t 24) .skip (.exit 0)) c_piece_Check_p19))
@[go_sem] abbrev w_piece_Check_p20 : Nat := 9444732965739282039668
abbrev c_piece_Check_p22 : VC := (.seq (.ops 0 [oo 2 .mv [kk 0]]) .ret)
abbrev c_piece_Check_p23 : VC := (.seq (.seq (.ops 0 [oo 20 (.fldA 2) [.t 1], oo 21 .ld1 [.t 20], oo 22 .len [.t 21], oo 23 .mv [kk 0]]) (.block 0 (.loop c_piece_Check_p20))) c_piece_Check_p22)
abbrev c_piece_Check_p24 : VC := (.seq (.seq (.ops 0 [oo 16 (.fldA 2) [.t 1], oo 17 .ld1 [.t 16], oo 18 .len [.t 17], oo 19 (.bin .gtr) [.t 18, kk 400]]) (.cond (.t 19) c_piece_Check_p3 .skip)) c_piece_Check_p23)
abbrev c_piece_Check_p25 : VC := (.seq (.seq (.ops 0 [oo 10 (.fldA 0) [.t 1], oo 11 (.ldA 2) [.t 10], oo 12 (.call 71) [.t 11], oo 3 .mv [.t 12]]) c_piece_Check_p2) c_piece_Check_p24)
def c_piece_Check : VC := (.seq (.ops 2 [oo 1 (.box 49) [.t 0], oo 2 .mv [kk 0]]) c_piece_Check_p25)
theorem k_piece_Check : Comp Tryz.prog nobx gtab 169 73 c_piece_Check [.t 2] := ⟨⟨Tryz.f169, _, Tryz.func169, rfl, rfl, kr, kr⟩⟩
abbrev c_piece_checkStop_p1 : VC := (.seq (.ops 0 [oo 8 .mv [kk 12]]) .ret)
abbrev c_piece_checkStop_p2 : VC := (.seq (.ops 0 [oo 8 .mv [kk 13]]) .ret)
abbrev c_piece_checkStop_p3 : VC := (.seq (.ops 0 [oo 8 .mv [kk 22]]) .ret)
abbrev c_piece_checkStop_p4 : VC := (.seq (.ops 0 [oo 8 .mv [kk 23]]) .ret)
abbrev c_piece_checkStop_p5 : VC := (.seq (.ops 0 [oo 8 .mv [kk 24]]) .ret)
abbrev c_piece_checkStop_p6 : VC := (.seq (.ops 0 [oo 65 (.fldA 4) [.t 6], oo 66 .ld1 [.t 65], oo 67 (.bin .lss) [.t 66, kk 0], oo 68 .mv [.t 67], og 69 68 false (.fldA 4) [.t 6], ⟨(some 70), (some (68, false)), .ld1, [.t 69], (some [0, 1, 2, 3, 4])⟩, ⟨(some 71), (some (68, false)), (.ldA 3), [.t 4], (some [0, 1, 2, 3])⟩, og 72 68 false .mv [.t 1], og 73 68 false (.fldA 0) [.t 6], ⟨(some 74), (some (68, false)), .ld1, [.t 73], (some [0, 1, 2, 3, 8])⟩, ⟨(some 75), (some (68, false)), (.call 261), [.t 71, .t 72, .t 74], (some [0, 1, 2, 3, 6, 7, 8, 9])⟩, og 76 68 false (.bin .gtr) [.t 70, .t 75], oo 77 .pick [.t 68, (.c (.lit (.bool true))), .t 76], oo 78 .mv [.t 77], og 79 78 false (.fldA 4) [.t 6], og 80 78 false .ld1 [.t 79], og 81 78 false (.bin .gtr) [.t 80, kk 0], og 82 78 false .mv [.t 81], og 83 82 true (.fldA 1) [.t 6], og 84 82 true .ld1 [.t 83], og 85 82 true (.bin .eql) [.t 84, kk 0], og 86 78 false .pick [.t 82, .t 85, (.c (.lit (.bool false)))], oo 87 .pick [.t 78, (.c (.lit (.bool true))), .t 86], oo 64 .mv [.t 87]]) (.cond (.t 64) c_piece_checkStop_p5 .skip))
abbrev c_piece_checkStop_p7 : VC := (.seq (.ops 0 [oo 46 (.fldA 2) [.t 6], oo 47 .ld1 [.t 46], oo 48 (.bin .lss) [.t 47, kk 0], oo 49 .mv [.t 48], og 50 49 false (.fldA 2) [.t 6], og 51 49 false .ld1 [.t 50], og 52 49 false (.bin .gtr) [.t 51, kk 3], oo 53 .pick [.t 49, (.c (.lit (.bool true))), .t 52], oo 54 .mv [.t 53], og 55 54 false (.fldA 3) [.t 6], og 56 54 false .ld1 [.t 55], og 57 54 false (.bin .lss) [.t 56, kk 0], oo 58 .pick [.t 54, (.c (.lit (.bool true))), .t 57], oo 59 .mv [.t 58], og 60 59 false (.fldA 3) [.t 6], og 61 59 false .ld1 [.t 60], og 62 59 false (.bin .gtr) [.t 61, kk 4], oo 63 .pick [.t 59, (.c (.lit (.bool true))), .t 62], oo 45 .mv [.t 63]]) (.cond (.t 45) c_piece_checkStop_p4 c_piece_checkStop_p6))
abbrev c_piece_checkStop_p8 : VC := (.seq (.ops 0 [oo 41 (.fldA 0) [.t 6], oo 42 .ld1 [.t 41], oo 43 .mv [.t 3], oo 44 (.bin .leq) [.t 42, .t 43], oo 40 .mv [.t 44]]) (.cond (.t 40) c_piece_checkStop_p3 c_piece_checkStop_p7))
abbrev c_piece_checkStop_p9 : VC := (.seq (.ops 0 [oo 23 (.fldA 1) [.t 6], oo 24 .ld1 [.t 23], oo 25 (.bin .lss) [.t 24, kk 0], oo 26 .mv [.t 25], og 27 26 false (.fldA 1) [.t 6], ⟨(some 28), (some (26, false)), .ld1, [.t 27], (some [0, 1, 2, 3, 4])⟩, og 29 26 false (.fldA 0) [.t 4], og 30 26 false (.fldA 0) [.t 29], ⟨(some 31), (some (26, false)), .ld1, [.t 30], (some [0, 1, 2, 3, 6, 7])⟩, og 32 26 false (.fldA 0) [.t 6], ⟨(some 33), (some (26, false)), .ld1, [.t 32], (some [0, 1, 2, 3, 9])⟩, og 34 26 false (.bin .sub) [.t 33, kk 1], og 35 26 false (.ixA 3) [.t 31, .t 34], og 36 26 false (.fldA 1) [.t 35], ⟨(some 37), (some (26, false)), .ld1, [.t 36], (some [0, 1, 2, 3, 6, 7, 8, 9, 10, 11, 12, 13])⟩, og 38 26 false (.bin .gtr) [.t 28, .t 37], oo 39 .pick [.t 26, (.c (.lit (.bool true))), .t 38], oo 22 .mv [.t 39]]) (.cond (.t 22) c_piece_checkStop_p2 c_piece_checkStop_p8))
abbrev c_piece_checkStop_p10 : VC := (.seq (.ops 0 [oo 8 .mv [kk 0]]) .ret)
abbrev c_piece_checkStop_p11 : VC := (.seq (.block 0 (.seq (.ops 0 [oo 10 (.fldA 0) [.t 6], oo 11 .ld1 [.t 10], oo 12 (.bin .lss) [.t 11, kk 1], oo 13 .mv [.t 12], og 14 13 false (.fldA 0) [.t 6], og 15 13 false .ld1 [.t 14], og 16 13 false (.fldA 0) [.t 4], og 17 13 false (.fldA 0) [.t 16], og 18 13 false .ld1 [.t 17], og 19 13 false .len [.t 18], og 20 13 false (.bin .gtr) [.t 15, .t 19], oo 21 .pick [.t 13, (.c (.lit (.bool true))), .t 20], oo 9 .mv [.t 21]]) (.cond (.t 9) c_piece_checkStop_p1 c_piece_checkStop_p9))) c_piece_checkStop_p10)
def c_piece_checkStop : VC := (.seq (.ops 3 [oo 4 (.box 49) [.t 0], oo 6 (.box 152) [.t 2], oo 8 .mv [kk 0]]) c_piece_checkStop_p11)
theorem k_piece_checkStop : Comp Tryz.prog nobx gtab 221 88 c_piece_checkStop [.t 8] := ⟨⟨Tryz.f221, _, Tryz.func221, rfl, rfl, kr, kr⟩⟩
abbrev c_piece_Longest_p1 : VC := (.seq (.ops 0 [oo 6 .mv [kk 0]]) .ret)
abbrev c_piece_Longest_p2 : VC := (.ops 0 [oo 40 .mv [.t 7], oo 41 (.bin .add) [.t 40, kk 1], oo 7 .mv [.t 41]])
abbrev c_piece_Longest_p3 : VC := (.seq (.seq (.ops 0 [oo 29 .mv [.t 7], oo 30 (.bin .eql) [.t 29, kk 15], oo 31 .mv [.t 30], og 32 31 false (.ldA 6) [.t 9], og 33 31 false (.call 316) [.t 32], oo 34 .pick [.t 31, (.c (.lit (.bool true))), .t 33], oo 35 .mv [.t 34], og 36 35 false (.ldA 6) [.t 9], og 37 35 false .mv [.t 2], og 38 35 false (.call 317) [.t 36, .t 37], oo 39 .pick [.t 35, (.c (.lit (.bool true))), .t 38]]) (.cond (.t 39) (.exit 0) .skip)) c_piece_Longest_p2)
abbrev c_piece_Longest_p4 : VC := (.ops 0 [oo 42 (.bin .add) [.t 25, kk 1], oo 25 .mv [.t 42]])
abbrev c_piece_Longest_p5 : VC := (.seq (.block 1 (.seq (.ops 4 [oo 27 (.ixA 6) [.t 23, .t 25], oo 28 (.ldA 6) [.t 27], ⟨(some 9), none, (.alloc 136 [(.lit (.bool false)), li 0, (.lit (.bool false)), (.lit (.bool false)), (.lit (.bool false)), (.sl 0 [] .exact)]), [], none⟩, ⟨none, none, (.st 6), [.t 9, .t 28], none⟩]) c_piece_Longest_p3)) c_piece_Longest_p4)
abbrev c_piece_Longest_p6 : VC := (.seq (.ops 0 [oo 26 (.bin .lss) [.t 25, .t 24]]) (.seq (.cond (.t 26) .skip (.exit 0)) c_piece_Longest_p5))
@[go_sem] abbrev w_piece_Longest_p6 : Nat := 8796059468416
abbrev c_piece_Longest_p8 : VC := (.seq (.ops 0 [oo 43 .mv [.t 7], oo 6 .mv [.t 43]]) .ret)
abbrev c_piece_Longest_p9 : VC := (.seq (.seq (.ops 0 [oo 19 (.fldA 2) [.t 3], oo 20 .ld1 [.t 19], oo 21 .mv [.t 1], oo 22 (.bin .add) [.t 21, kk 1], oo 23 (.slc 6 true false) [.t 20, .t 22], oo 24 .len [.t 23], oo 25 .mv [kk 0]]) (.block 0 (.loop c_piece_Longest_p6))) c_piece_Longest_p8)
abbrev c_piece_Longest_p10 : VC := (.seq (.ops 0 [oo 7 .mv [kk 0]]) c_piece_Longest_p9)
abbrev c_piece_Longest_p11 : VC := (.seq (.seq (.ops 0 [oo 10 .mv [.t 1], oo 11 (.bin .lss) [.t 10, kk 0], oo 12 .mv [.t 11], og 13 12 false .mv [.t 1], og 14 12 false (.fldA 2) [.t 3], og 15 12 false .ld1 [.t 14], og 16 12 false .len [.t 15], og 17 12 false (.bin .geq) [.t 13, .t 16], oo 18 .pick [.t 12, (.c (.lit (.bool true))), .t 17]]) (.cond (.t 18) c_piece_Longest_p1 .skip)) c_piece_Longest_p10)
def c_piece_Longest : VC := (.seq (.ops 2 [oo 3 (.box 49) [.t 0], oo 6 .mv [kk 0]]) c_piece_Longest_p11)
theorem k_piece_Longest : Comp Tryz.prog nobx gtab 261 44 c_piece_Longest [.t 6] := ⟨⟨Tryz.f261, _, Tryz.func261, rfl, rfl, kr, kr⟩⟩
abbrev c_piece_isRest_p1 : VC := (.seq (.ops 0 [oo 3 (.fldA 5) [.t 1], oo 4 .ld1 [.t 3], oo 5 .len [.t 4], oo 6 (.bin .eql) [.t 5, kk 0], oo 7 .mv [.t 6], og 8 7 true (.fldA 4) [.t 1], og 9 7 true .ld1 [.t 8], og 10 7 true (.un .not) [.t 9], oo 11 .pick [.t 7, .t 10, (.c (.lit (.bool false)))], oo 2 .mv [.t 11]]) .ret)
def c_piece_isRest : VC := (.seq (.ops 2 [oo 1 (.box 136) [.t 0], oo 2 .mv [(.c (.lit (.bool false)))]]) c_piece_isRest_p1)
theorem k_piece_isRest : Comp Tryz.prog nobx gtab 316 12 c_piece_isRest [.t 2] := ⟨⟨Tryz.f316, _, Tryz.func316, rfl, rfl, kr, kr⟩⟩
abbrev c_piece_plucks_1_p1 : VC := (.seq (.ops 0 [oo 4 (.fldA 0) [.t 2], oo 5 .ld1 [.t 4], oo 6 .ld1 [.t 1], oo 7 (.bin .eql) [.t 5, .t 6], oo 3 .mv [.t 7]]) .ret)
def c_piece_plucks_1 : VC := (.seq (.ops 2 [oo 2 (.box 152) [.t 0], oo 3 .mv [(.c (.lit (.bool false)))]]) c_piece_plucks_1_p1)
theorem k_piece_plucks_1 : Comp Tryz.prog nobx gtab 346 8 c_piece_plucks_1 [.t 3] := ⟨⟨Tryz.f346, _, Tryz.func346, rfl, rfl, kr, kr⟩⟩
abbrev c_slices_ContainsFunc_api_Stop_api_Stop_p1 : VC := (.seq (.ops 0 [oo 5 .mv [.t 0], oo 6 .mv [.t 1], oo 7 (.call 232) [.t 5, .t 6], oo 8 (.bin .geq) [.t 7, kk 0], oo 4 .mv [.t 8]]) .ret)
def c_slices_ContainsFunc_api_Stop_api_Stop : VC := (.seq (.ops 0 [oo 4 .mv [(.c (.lit (.bool false)))]]) c_slices_ContainsFunc_api_Stop_api_Stop_p1)
theorem k_slices_ContainsFunc_api_Stop_api_Stop : Comp Tryz.prog nobx gtab 188 9 c_slices_ContainsFunc_api_Stop_api_Stop [.t 4] := ⟨⟨Tryz.f188, _, Tryz.func188, rfl, rfl, kr, kr⟩⟩
abbrev c_slices_IndexFunc_api_Stop_api_Stop_p1 : VC := (.seq (.ops 0 [oo 17 .mv [.t 5], oo 4 .mv [.t 17]]) .ret)
abbrev c_slices_IndexFunc_api_Stop_api_Stop_p2 : VC := (.cond (.t 16) c_slices_IndexFunc_api_Stop_api_Stop_p1 .skip)
abbrev c_slices_IndexFunc_api_Stop_api_Stop_p3 : VC := (.seq (.ops 0 [oo 11 .mv [.t 1], oo 12 .mv [.t 0], oo 13 .mv [.t 5], oo 14 (.ixA 5) [.t 12, .t 13], oo 15 (.ldA 5) [.t 14], oo 16 .callv [.t 11, .t 15]]) c_slices_IndexFunc_api_Stop_api_Stop_p2)
abbrev c_slices_IndexFunc_api_Stop_api_Stop_p4 : VC := (.ops 0 [oo 18 (.bin .add) [.t 8, kk 1], oo 8 .mv [.t 18]])
abbrev c_slices_IndexFunc_api_Stop_api_Stop_p5 : VC := (.seq (.block 1 (.seq (.ops 0 [oo 10 .mv [.t 8], oo 5 .mv [.t 10]]) c_slices_IndexFunc_api_Stop_api_Stop_p3)) c_slices_IndexFunc_api_Stop_api_Stop_p4)
abbrev c_slices_IndexFunc_api_Stop_api_Stop_p6 : VC := (.seq (.cond (.t 9) .skip (.exit 0)) c_slices_IndexFunc_api_Stop_api_Stop_p5)
abbrev c_slices_IndexFunc_api_Stop_api_Stop_p7 : VC := (.seq (.ops 0 [oo 9 (.bin .lss) [.t 8, .t 7]]) c_slices_IndexFunc_api_Stop_api_Stop_p6)
@[go_sem] abbrev w_slices_IndexFunc_api_Stop_api_Stop_p7 : Nat := 524080
abbrev c_slices_IndexFunc_api_Stop_api_Stop_p9 : VC := (.seq (.ops 0 [oo 4 .mv [kk (-1)]]) .ret)
abbrev c_slices_IndexFunc_api_Stop_api_Stop_p10 : VC := (.seq (.seq (.ops 0 [oo 6 .mv [.t 0], oo 7 .len [.t 6], oo 8 .mv [kk 0]]) (.block 0 (.loop c_slices_IndexFunc_api_Stop_api_Stop_p7))) c_slices_IndexFunc_api_Stop_api_Stop_p9)
def c_slices_IndexFunc_api_Stop_api_Stop : VC := (.seq (.ops 0 [oo 4 .mv [kk 0]]) c_slices_IndexFunc_api_Stop_api_Stop_p10)
theorem k_slices_IndexFunc_api_Stop_api_Stop : Comp Tryz.prog nobx gtab 232 19 c_slices_IndexFunc_api_Stop_api_Stop [.t 4] := ⟨⟨Tryz.f232, _, Tryz.func232, rfl, rfl, kr, kr⟩⟩
abbrev c_piece_valid_p1 : VC := (.seq (.ops 0 [oo 3 (.ldA 3) [.t 1], oo 4 (.build [li 0, (.lit (.bool false)), (.lit (.bool false))] []) [], oo 5 (.eqP [(0, 0), (1, 1), (2, 1)] false) [.t 3, .t 4], oo 6 .mv [.t 5], og 7 6 false (.ldA 3) [.t 1], og 8 6 false (.call 146) [.t 7], og 9 6 false (.bin .gtr) [.t 8, kk 0], oo 10 .pick [.t 6, (.c (.lit (.bool true))), .t 9], oo 2 .mv [.t 10]]) .ret)
def c_piece_valid : VC := (.seq (.ops 2 [oo 1 (.box 110) [.t 0], oo 2 .mv [(.c (.lit (.bool false)))]]) c_piece_valid_p1)
theorem k_piece_valid : Comp Tryz.prog nobx gtab 220 11 c_piece_valid [.t 2] := ⟨⟨Tryz.f220, _, Tryz.func220, rfl, rfl, kr, kr⟩⟩
abbrev c_piece_rewritten_p1 : VC := (.seq (.ops 0 [⟨(some 12), none, (.build [(.sl 0 [] .exact), (.sl 0 [] .exact), (.sl 0 [] .exact)] []), [], none⟩, oo 13 .mv [.t 6], ⟨none, none, (.st 3), [.t 4, .t 12], none⟩, oo 5 .mv [.t 13]]) .ret)
abbrev c_piece_rewritten_p2 : VC := (.seq (.ops 0 [oo 10 .mv [.t 6], oo 11 (.bin .neq) [.t 10, kk 0]]) (.cond (.t 11) c_piece_rewritten_p1 .skip))
abbrev c_piece_rewritten_p3 : VC := (.seq (.ops 0 [oo 23 (.ldA 3) [.t 7], ⟨none, none, (.st 3), [.t 4, .t 23], none⟩, oo 5 .mv [kk 0]]) .ret)
abbrev c_piece_rewritten_p4 : VC := (.seq (.ops 0 [oo 18 (.fldA 2) [.t 2], oo 19 .ld1 [.t 18], oo 20 (.mkfn 173) [.t 3], oo 21 (.call 172) [.t 19, .t 20], oo 22 (.fldA 2) [.t 7], ⟨none, none, (.st 1), [.t 22, .t 21], none⟩]) c_piece_rewritten_p3)
abbrev c_piece_rewritten_p5 : VC := (.seq (.ops 6 [oo 14 (.fldA 0) [.t 2], oo 15 (.ldA 2) [.t 14], oo 16 (.call 171) [.t 15], ⟨(some 17), none, (.build [(.sl 0 [] .exact), (.sl 0 [] .exact), (.sl 0 [] .exact)] [(0, 2)]), [.t 16], none⟩, ⟨(some 7), none, (.alloc 49 [(.sl 0 [] .exact), (.sl 0 [] .exact), (.sl 0 [] .exact)]), [], none⟩, ⟨none, none, (.st 3), [.t 7, .t 17], none⟩]) c_piece_rewritten_p4)
abbrev c_piece_rewritten_p6 : VC := (.seq (.seq (.ops 0 [oo 8 (.ldA 3) [.t 2], oo 9 (.call 169) [.t 8], oo 6 .mv [.t 9]]) c_piece_rewritten_p2) c_piece_rewritten_p5)
def c_piece_rewritten : VC := (.seq (.ops 4 [oo 2 (.box 49) [.t 0], oo 3 (.box 164) [.t 1], ⟨(some 4), none, (.alloc 49 [(.sl 0 [] .exact), (.sl 0 [] .exact), (.sl 0 [] .exact)]), [], none⟩, oo 5 .mv [kk 0]]) c_piece_rewritten_p6)
theorem k_piece_rewritten : Comp Tryz.prog nobx gtab 108 24 c_piece_rewritten [(.c 4 3 true), .t 5] := ⟨⟨Tryz.f108, _, Tryz.func108, rfl, rfl, kr, kr⟩⟩
abbrev c_piece_mapped_api_Event_p1 : VC := (.ops 7 [oo 14 .mv [.t 5], oo 15 .mv [.t 1], oo 16 (.ldA 6) [.t 7], oo 17 .callv [.t 15, .t 16], ⟨(some 18), none, (.mksl 1 6 [(.lit (.bool false)), li 0, (.lit (.bool false)), (.lit (.bool false)), (.lit (.bool false)), (.sl 0 [] .exact)] [(0, 6)]), [.t 17], none⟩, oo 19 (.app 136 6 56) [.t 14, .t 18], oo 5 .mv [.t 19]])
abbrev c_piece_mapped_api_Event_p2 : VC := (.ops 0 [oo 20 (.bin .add) [.t 10, kk 1], oo 10 .mv [.t 20]])
abbrev c_piece_mapped_api_Event_p3 : VC := (.seq (.block 1 (.seq (.ops 4 [oo 12 (.ixA 6) [.t 8, .t 10], oo 13 (.ldA 6) [.t 12], ⟨(some 7), none, (.alloc 136 [(.lit (.bool false)), li 0, (.lit (.bool false)), (.lit (.bool false)), (.lit (.bool false)), (.sl 0 [] .exact)]), [], none⟩, ⟨none, none, (.st 6), [.t 7, .t 13], none⟩]) c_piece_mapped_api_Event_p1)) c_piece_mapped_api_Event_p2)
abbrev c_piece_mapped_api_Event_p4 : VC := (.seq (.cond (.t 11) .skip (.exit 0)) c_piece_mapped_api_Event_p3)
abbrev c_piece_mapped_api_Event_p5 : VC := (.seq (.ops 0 [oo 11 (.bin .lss) [.t 10, .t 9]]) c_piece_mapped_api_Event_p4)
@[go_sem] abbrev w_piece_mapped_api_Event_p5 : Nat := 2096288
abbrev c_piece_mapped_api_Event_p7 : VC := (.seq (.ops 0 [oo 21 .mv [.t 5], oo 4 .mv [.t 21]]) .ret)
abbrev c_piece_mapped_api_Event_p8 : VC := (.seq (.seq (.ops 0 [oo 8 .mv [.t 0], oo 9 .len [.t 8], oo 10 .mv [kk 0]]) (.block 0 (.loop c_piece_mapped_api_Event_p5))) c_piece_mapped_api_Event_p7)
abbrev c_piece_mapped_api_Event_p9 : VC := (.seq (.ops 0 [oo 5 .mv [(.c (.sl 0 [] .exact))]]) c_piece_mapped_api_Event_p8)
def c_piece_mapped_api_Event : VC := (.seq (.ops 0 [oo 4 .mv [(.c (.sl 0 [] .exact))]]) c_piece_mapped_api_Event_p9)
theorem k_piece_mapped_api_Event : Comp Tryz.prog nobx gtab 172 22 c_piece_mapped_api_Event [.t 4] := ⟨⟨Tryz.f172, _, Tryz.func172, rfl, rfl, kr, kr⟩⟩
abbrev c_piece_rewritten_1_p1 : VC := (.seq (.ops 0 [od 4 .ld1 [.t 1] [], od 5 (.ldA 6) [.t 2] [], od 6 (.call 174) [.t 5] [1], oo 7 .callv [.t 4, .t 6], ⟨none, none, (.st 6), [.t 3, .t 7], none⟩]) .ret)
def c_piece_rewritten_1 : VC := (.seq (.ops 2 [oo 2 (.box 136) [.t 0], ⟨(some 3), none, (.alloc 136 [(.lit (.bool false)), li 0, (.lit (.bool false)), (.lit (.bool false)), (.lit (.bool false)), (.sl 0 [] .exact)]), [], none⟩]) c_piece_rewritten_1_p1)
theorem k_piece_rewritten_1 : Comp Tryz.prog nobx gtab 173 8 c_piece_rewritten_1 [(.c 3 6 true)] := ⟨⟨Tryz.f173, _, Tryz.func173, rfl, rfl, kr, kr⟩⟩
abbrev c_piece_copied_p1 : VC := (.seq (.ops 0 [oo 7 (.ldA 6) [.t 1], ⟨none, none, (.st 6), [.t 2, .t 7], none⟩]) .ret)
abbrev c_piece_copied_p2 : VC := (.seq (.ops 0 [oo 3 (.fldA 5) [.t 1], oo 4 .ld1 [.t 3], oo 5 (.call 157) [.t 4], oo 6 (.fldA 5) [.t 1], ⟨none, none, (.st 1), [.t 6, .t 5], none⟩]) c_piece_copied_p1)
def c_piece_copied : VC := (.seq (.ops 2 [oo 1 (.box 136) [.t 0], ⟨(some 2), none, (.alloc 136 [(.lit (.bool false)), li 0, (.lit (.bool false)), (.lit (.bool false)), (.lit (.bool false)), (.sl 0 [] .exact)]), [], none⟩]) c_piece_copied_p2)
theorem k_piece_copied : Comp Tryz.prog nobx gtab 174 8 c_piece_copied [(.c 2 6 true)] := ⟨⟨Tryz.f174, _, Tryz.func174, rfl, rfl, kr, kr⟩⟩
abbrev c_piece_copiedInstrument_p1 : VC := (.seq (.ops 0 [oo 3 (.fldA 0) [.t 1], od 4 .ld1 [.t 3] [0], od 5 (.call 134) [.t 4] [0, 1], oo 6 (.fldA 1) [.t 1], od 7 .ld1 [.t 6] [3], oo 8 (.call 135) [.t 7], ⟨(some 9), none, (.build [(.sl 0 [] .exact), (.sl 0 [] .exact)] [(0, 1), (1, 1)]), [.t 5, .t 8], none⟩, ⟨none, none, (.st 2), [.t 2, .t 9], none⟩]) .ret)
def c_piece_copiedInstrument : VC := (.seq (.ops 2 [oo 1 (.box 25) [.t 0], ⟨(some 2), none, (.alloc 25 [(.sl 0 [] .exact), (.sl 0 [] .exact)]), [], none⟩]) c_piece_copiedInstrument_p1)
theorem k_piece_copiedInstrument : Comp Tryz.prog nobx gtab 171 10 c_piece_copiedInstrument [(.c 2 2 true)] := ⟨⟨Tryz.f171, _, Tryz.func171, rfl, rfl, kr, kr⟩⟩
abbrev c_piece_Plain_p1 : VC := (.seq (.ops 0 [oo 6 (.ldA 3) [.t 1], oo 7 (.mkfn 112) [.t 4], oo 8 (.call 108) [.t 6, .t 7], oo 9 (.ext 0) [.t 8], oo 10 (.ext 1) [.t 8], ⟨none, none, (.st 3), [.t 2, .t 9], none⟩, oo 3 .mv [.t 10]]) .ret)
abbrev c_piece_Plain_p2 : VC := (.seq (.ops 3 [oo 5 (.build [li 0, (.lit (.bool false)), (.lit (.bool false))] []) [], oo 4 (.alloc 110 [li 0, (.lit (.bool false)), (.lit (.bool false))]) [], ⟨none, none, (.st 3), [.t 4, .t 5], none⟩]) c_piece_Plain_p1)
def c_piece_Plain : VC := (.seq (.ops 3 [oo 1 (.box 49) [.t 0], ⟨(some 2), none, (.alloc 49 [(.sl 0 [] .exact), (.sl 0 [] .exact), (.sl 0 [] .exact)]), [], none⟩, oo 3 .mv [kk 0]]) c_piece_Plain_p2)
theorem k_piece_Plain : Comp Tryz.prog nobx gtab 47 11 c_piece_Plain [(.c 2 3 true), .t 3] := ⟨⟨Tryz.f47, _, Tryz.func47, rfl, rfl, kr, kr⟩⟩
abbrev c_piece_Plain_1_p1 : VC := (.ops 0 [oo 8 (.fldA 1) [.t 2], oo 9 (.ldA 3) [.t 8], ⟨none, none, (.st 3), [.t 1, .t 9], none⟩])
abbrev c_piece_Plain_1_p2 : VC := (.seq (.ops 0 [oo 12 (.ldA 6) [.t 2], ⟨none, none, (.st 6), [.t 3, .t 12], none⟩]) .ret)
abbrev c_piece_Plain_1_p3 : VC := (.seq (.ops 0 [oo 10 (.ldA 3) [.t 1], oo 11 (.fldA 1) [.t 2], ⟨none, none, (.st 3), [.t 11, .t 10], none⟩]) c_piece_Plain_1_p2)
abbrev c_piece_Plain_1_p4 : VC := (.seq (.seq (.ops 0 [oo 4 (.fldA 1) [.t 2], oo 5 (.ldA 3) [.t 4], oo 6 (.build [li 0, (.lit (.bool false)), (.lit (.bool false))] []) [], oo 7 (.eqP [(0, 0), (1, 1), (2, 1)] true) [.t 5, .t 6]]) (.cond (.t 7) c_piece_Plain_1_p1 .skip)) c_piece_Plain_1_p3)
def c_piece_Plain_1 : VC := (.seq (.ops 2 [oo 2 (.box 136) [.t 0], ⟨(some 3), none, (.alloc 136 [(.lit (.bool false)), li 0, (.lit (.bool false)), (.lit (.bool false)), (.lit (.bool false)), (.sl 0 [] .exact)]), [], none⟩]) c_piece_Plain_1_p4)
theorem k_piece_Plain_1 : Comp Tryz.prog nobx gtab 112 13 c_piece_Plain_1 [(.c 3 6 true)] := ⟨⟨Tryz.f112, _, Tryz.func112, rfl, rfl, kr, kr⟩⟩
abbrev c_slices_Clone_api_Stop_api_Stop_p1 : VC := (.seq (.ops 0 [oo 2 .mv [(.c (.sl 0 [] .exact))]]) .ret)
abbrev c_slices_Clone_api_Stop_api_Stop_p2 : VC := (.seq (.ops 4 [oo 5 (.mksl 0 5 [] []) [], oo 6 .mv [.t 0], oo 7 (.app 152 5 40) [.t 5, .t 6], oo 2 .mv [.t 7]]) .ret)
abbrev c_slices_Clone_api_Stop_api_Stop_p3 : VC := (.seq (.seq (.ops 0 [oo 3 .mv [.t 0], oo 4 (.eqN false) [.t 3]]) (.cond (.t 4) c_slices_Clone_api_Stop_api_Stop_p1 .skip)) c_slices_Clone_api_Stop_api_Stop_p2)
def c_slices_Clone_api_Stop_api_Stop : VC := (.seq (.ops 0 [oo 2 .mv [(.c (.sl 0 [] .exact))]]) c_slices_Clone_api_Stop_api_Stop_p3)
theorem k_slices_Clone_api_Stop_api_Stop : Comp Tryz.prog nobx gtab 157 8 c_slices_Clone_api_Stop_api_Stop [.t 2] := ⟨⟨Tryz.f157, _, Tryz.func157, rfl, rfl, kr, kr⟩⟩
abbrev c_leaf_Of_p1 : VC := (.seq (.ops 0 [⟨(some 21), none, (.build [(.sl 0 [] .exact), (.sl 0 [] .exact), (.sl 0 [] .exact)] []), [], none⟩, oo 22 .mv [.t 5], ⟨none, none, (.st 3), [.t 2, .t 21], none⟩, oo 3 .mv [.t 22]]) .ret)
abbrev c_leaf_Of_p2 : VC := (.ops 0 [oo 61 (.fldA 1) [.t 13], oo 62 .ld1 [.t 61], oo 11 .mv [.t 62]])
abbrev c_leaf_Of_p3 : VC := (.seq (.ops 0 [oo 56 (.fldA 0) [.t 13], oo 57 .ld1 [.t 56], oo 58 .mv [.t 10], oo 59 (.bin .add) [.t 58, kk 1], oo 60 (.bin .eql) [.t 57, .t 59]]) (.cond (.t 60) c_leaf_Of_p2 .skip))
abbrev c_leaf_Of_p4 : VC := (.ops 0 [oo 63 (.bin .add) [.t 52, kk 1], oo 52 .mv [.t 63]])
abbrev c_leaf_Of_p5 : VC := (.seq (.block 5 (.seq (.ops 4 [oo 54 (.ixA 5) [.t 50, .t 52], oo 55 (.ldA 5) [.t 54], oo 13 (.alloc 152 [li 0, li 0, li 0, li 0, li 0]) [], ⟨none, none, (.st 5), [.t 13, .t 55], none⟩]) c_leaf_Of_p3)) c_leaf_Of_p4)
abbrev c_leaf_Of_p6 : VC := (.seq (.ops 0 [oo 53 (.bin .lss) [.t 52, .t 51]]) (.seq (.cond (.t 53) .skip (.exit 4)) c_leaf_Of_p5))
@[go_sem] abbrev w_leaf_Of_p6 : Nat := 18442240474082191360
abbrev c_leaf_Of_p8 : VC := (.ops 8 [oo 64 (.fldA 3) [.t 9], oo 65 .ld1 [.t 64], oo 66 .mv [.t 11], oo 67 (.mksl 1 1 [li 0] [(0, 1)]) [.t 66], ⟨(some 68), none, (.mksl 1 1 [(.sl 0 [] .exact)] [(0, 1)]), [.t 67], none⟩, oo 69 (.app 23 1 24) [.t 65, .t 68], oo 70 (.fldA 3) [.t 9], ⟨none, none, (.st 1), [.t 70, .t 69], none⟩])
abbrev c_leaf_Of_p9 : VC := (.seq (.seq (.ops 0 [oo 49 (.fldA 5) [.t 8], oo 50 .ld1 [.t 49], oo 51 .len [.t 50], oo 52 .mv [kk 0]]) (.block 4 (.loop c_leaf_Of_p6))) c_leaf_Of_p8)
abbrev c_leaf_Of_p10 : VC := (.seq (.ops 0 [oo 11 .mv [kk (-1)]]) c_leaf_Of_p9)
abbrev c_leaf_Of_p11 : VC := (.ops 0 [oo 71 (.bin .add) [.t 46, kk 1], oo 46 .mv [.t 71]])
abbrev c_leaf_Of_p12 : VC := (.seq (.block 3 (.seq (.ops 0 [oo 48 .mv [.t 46], oo 10 .mv [.t 48]]) c_leaf_Of_p10)) c_leaf_Of_p11)
abbrev c_leaf_Of_p13 : VC := (.seq (.ops 0 [oo 47 (.bin .lss) [.t 46, .t 45]]) (.seq (.cond (.t 47) .skip (.exit 2)) c_leaf_Of_p12))
@[go_sem] abbrev w_leaf_Of_p13 : Nat := 4722366412500901047296
abbrev c_leaf_Of_p15 : VC := (.ops 7 [oo 72 (.fldA 2) [.t 6], oo 73 .ld1 [.t 72], oo 74 (.ldA 4) [.t 9], ⟨(some 75), none, (.mksl 1 4 [(.lit (.bool false)), (.lit (.bool false)), (.sl 0 [] .exact), (.sl 0 [] .exact)] [(0, 4)]), [.t 74], none⟩, oo 76 (.app 84 4 56) [.t 73, .t 75], oo 77 (.fldA 2) [.t 6], ⟨none, none, (.st 1), [.t 77, .t 76], none⟩])
abbrev c_leaf_Of_p16 : VC := (.seq (.seq (.ops 0 [oo 42 (.fldA 0) [.t 1], oo 43 (.fldA 0) [.t 42], oo 44 .ld1 [.t 43], oo 45 .len [.t 44], oo 46 .mv [kk 0]]) (.block 2 (.loop c_leaf_Of_p13))) c_leaf_Of_p15)
abbrev c_leaf_Of_p17 : VC := (.seq (.ops 10 [oo 34 (.fldA 0) [.t 8], oo 35 .ld1 [.t 34], oo 36 (.fldA 4) [.t 8], oo 37 .ld1 [.t 36], oo 38 (.fldA 1) [.t 8], oo 39 (.ldA 3) [.t 38], oo 40 (.mksl 1 3 [li 0, (.lit (.bool false)), (.lit (.bool false))] [(0, 3)]) [.t 39], ⟨(some 41), none, (.build [(.lit (.bool false)), (.lit (.bool false)), (.sl 0 [] .exact), (.sl 0 [] .exact)] [(0, 1), (1, 1), (2, 1)]), [.t 35, .t 37, .t 40], none⟩, ⟨(some 9), none, (.alloc 84 [(.lit (.bool false)), (.lit (.bool false)), (.sl 0 [] .exact), (.sl 0 [] .exact)]), [], none⟩, ⟨none, none, (.st 4), [.t 9, .t 41], none⟩]) c_leaf_Of_p16)
abbrev c_leaf_Of_p18 : VC := (.ops 0 [oo 78 (.bin .add) [.t 30, kk 1], oo 30 .mv [.t 78]])
abbrev c_leaf_Of_p19 : VC := (.seq (.block 1 (.seq (.ops 4 [oo 32 (.ixA 6) [.t 28, .t 30], oo 33 (.ldA 6) [.t 32], ⟨(some 8), none, (.alloc 136 [(.lit (.bool false)), li 0, (.lit (.bool false)), (.lit (.bool false)), (.lit (.bool false)), (.sl 0 [] .exact)]), [], none⟩, ⟨none, none, (.st 6), [.t 8, .t 33], none⟩]) c_leaf_Of_p17)) c_leaf_Of_p18)
abbrev c_leaf_Of_p20 : VC := (.seq (.ops 0 [oo 31 (.bin .lss) [.t 30, .t 29]]) (.seq (.cond (.t 31) .skip (.exit 0)) c_leaf_Of_p19))
@[go_sem] abbrev w_leaf_Of_p20 : Nat := 604462909807313513623296
abbrev c_leaf_Of_p22 : VC := (.seq (.ops 0 [oo 79 (.ldA 3) [.t 6], ⟨none, none, (.st 3), [.t 2, .t 79], none⟩, oo 3 .mv [kk 0]]) .ret)
abbrev c_leaf_Of_p23 : VC := (.seq (.seq (.ops 0 [oo 27 (.fldA 2) [.t 4], oo 28 .ld1 [.t 27], oo 29 .len [.t 28], oo 30 .mv [kk 0]]) (.block 0 (.loop c_leaf_Of_p20))) c_leaf_Of_p22)
abbrev c_leaf_Of_p24 : VC := (.seq (.ops 6 [oo 23 (.fldA 0) [.t 1], oo 24 (.ldA 2) [.t 23], oo 25 (.call 63) [.t 24], ⟨(some 26), none, (.build [(.sl 0 [] .exact), (.sl 0 [] .exact), (.sl 0 [] .exact)] [(0, 2)]), [.t 25], none⟩, ⟨(some 6), none, (.alloc 28 [(.sl 0 [] .exact), (.sl 0 [] .exact), (.sl 0 [] .exact)]), [], none⟩, ⟨none, none, (.st 3), [.t 6, .t 26], none⟩]) c_leaf_Of_p23)
abbrev c_leaf_Of_p25 : VC := (.seq (.seq (.ops 0 [oo 19 .mv [.t 5], oo 20 (.bin .neq) [.t 19, kk 0]]) (.cond (.t 20) c_leaf_Of_p1 .skip)) c_leaf_Of_p24)
abbrev c_leaf_Of_p26 : VC := (.seq (.ops 8 [oo 15 (.ldA 3) [.t 1], oo 16 (.call 47) [.t 15], oo 14 .mv [.t 16], oo 17 (.ext 0) [.t 14], oo 18 (.ext 1) [.t 14], ⟨(some 4), none, (.alloc 49 [(.sl 0 [] .exact), (.sl 0 [] .exact), (.sl 0 [] .exact)]), [], none⟩, ⟨none, none, (.st 3), [.t 4, .t 17], none⟩, oo 5 .mv [.t 18]]) c_leaf_Of_p25)
def c_leaf_Of : VC := (.seq (.ops 3 [oo 1 (.box 49) [.t 0], ⟨(some 2), none, (.alloc 28 [(.sl 0 [] .exact), (.sl 0 [] .exact), (.sl 0 [] .exact)]), [], none⟩, oo 3 .mv [kk 0]]) c_leaf_Of_p26)
theorem k_leaf_Of : Comp Tryz.prog nobx gtab 39 80 c_leaf_Of [(.c 2 3 true), .t 3] := ⟨⟨Tryz.f39, _, Tryz.func39, rfl, rfl, kr, kr⟩⟩
abbrev c_theorboref02_Check_p1 : VC := (.seq (.ops 0 [oo 10 .mv [.t 3], oo 2 .mv [.t 10]]) .ret)
abbrev c_theorboref02_Check_p2 : VC := (.seq (.ops 0 [oo 2 .mv [kk 2]]) .ret)
abbrev c_theorboref02_Check_p3 : VC := (.seq (.ops 0 [oo 27 .mv [.t 3], oo 2 .mv [.t 27]]) .ret)
abbrev c_theorboref02_Check_p4 : VC := (.seq (.ops 0 [oo 25 .mv [.t 3], oo 26 (.bin .neq) [.t 25, kk 0]]) (.cond (.t 26) c_theorboref02_Check_p3 .skip))
abbrev c_theorboref02_Check_p5 : VC := (.ops 0 [oo 20 .mv [.t 4], oo 21 (.bin .add) [.t 20, kk 1], oo 4 .mv [.t 21]])
abbrev c_theorboref02_Check_p6 : VC := (.seq (.block 1 (.seq (.ops 0 [oo 22 (.ldA 3) [.t 1], oo 23 .mv [.t 4], oo 24 (.call 219) [.t 22, .t 23], oo 3 .mv [.t 24]]) c_theorboref02_Check_p4)) c_theorboref02_Check_p5)
abbrev c_theorboref02_Check_p7 : VC := (.seq (.seq (.ops 0 [oo 15 .mv [.t 4], oo 16 (.fldA 2) [.t 1], oo 17 .ld1 [.t 16], oo 18 .len [.t 17], oo 19 (.bin .lss) [.t 15, .t 18]]) (.cond (.t 19) .skip (.exit 0))) c_theorboref02_Check_p6)
@[go_sem] abbrev w_theorboref02_Check_p7 : Nat := 268402716
abbrev c_theorboref02_Check_p9 : VC := (.seq (.ops 0 [oo 2 .mv [kk 0]]) .ret)
abbrev c_theorboref02_Check_p10 : VC := (.seq (.seq (.ops 0 [oo 4 .mv [kk 0]]) (.block 0 (.loop c_theorboref02_Check_p7))) c_theorboref02_Check_p9)
abbrev c_theorboref02_Check_p11 : VC := (.seq (.seq (.ops 0 [oo 11 (.fldA 2) [.t 1], oo 12 .ld1 [.t 11], oo 13 .len [.t 12], oo 14 (.bin .gtr) [.t 13, kk 400]]) (.cond (.t 14) c_theorboref02_Check_p2 .skip)) c_theorboref02_Check_p10)
abbrev c_theorboref02_Check_p12 : VC := (.seq (.seq (.ops 0 [oo 8 .mv [.t 3], oo 9 (.bin .neq) [.t 8, kk 0]]) (.cond (.t 9) c_theorboref02_Check_p1 .skip)) c_theorboref02_Check_p11)
abbrev c_theorboref02_Check_p13 : VC := (.seq (.ops 0 [oo 5 (.fldA 0) [.t 1], oo 6 (.ldA 2) [.t 5], oo 7 (.call 73) [.t 6], oo 3 .mv [.t 7]]) c_theorboref02_Check_p12)
def c_theorboref02_Check : VC := (.seq (.ops 2 [oo 1 (.box 49) [.t 0], oo 2 .mv [kk 0]]) c_theorboref02_Check_p13)
theorem k_theorboref02_Check : Comp Tryz.prog nobx gtab 163 28 c_theorboref02_Check [.t 2] := ⟨⟨Tryz.f163, _, Tryz.func163, rfl, rfl, kr, kr⟩⟩
abbrev c_theorboref02_event_p1 : VC := (.seq (.ops 0 [oo 4 .mv [kk 20]]) .ret)
abbrev c_theorboref02_event_p2 : VC := (.seq (.ops 0 [oo 4 .mv [kk 21]]) .ret)
abbrev c_theorboref02_event_p3 : VC := (.seq (.ops 0 [oo 4 .mv [kk 12]]) .ret)
abbrev c_theorboref02_event_p4 : VC := (.seq (.ops 0 [oo 4 .mv [kk 13]]) .ret)
abbrev c_theorboref02_event_p5 : VC := (.seq (.ops 0 [oo 4 .mv [kk 22]]) .ret)
abbrev c_theorboref02_event_p6 : VC := (.seq (.ops 0 [oo 4 .mv [kk 23]]) .ret)
abbrev c_theorboref02_event_p7 : VC := (.seq (.ops 0 [oo 4 .mv [kk 24]]) .ret)
abbrev c_theorboref02_event_p8 : VC := (.seq (.ops 0 [oo 112 (.fldA 4) [.t 7], oo 113 .ld1 [.t 112], oo 114 (.bin .lss) [.t 113, kk 0], oo 115 .mv [.t 114], og 116 115 false (.fldA 4) [.t 7], ⟨(some 117), (some (115, false)), .ld1, [.t 116], (some [0, 1, 2, 3, 4])⟩, ⟨(some 118), (some (115, false)), (.ldA 3), [.t 2], (some [0, 1, 2, 3])⟩, og 119 115 false .mv [.t 1], og 120 115 false (.fldA 0) [.t 7], ⟨(some 121), (some (115, false)), .ld1, [.t 120], (some [0, 1, 2, 3, 8])⟩, ⟨(some 122), (some (115, false)), (.call 260), [.t 118, .t 119, .t 121], (some [0, 1, 2, 3, 6, 7, 8, 9])⟩, og 123 115 false (.bin .gtr) [.t 117, .t 122], oo 124 .pick [.t 115, (.c (.lit (.bool true))), .t 123], oo 125 .mv [.t 124], og 126 125 false (.fldA 4) [.t 7], og 127 125 false .ld1 [.t 126], og 128 125 false (.bin .gtr) [.t 127, kk 0], og 129 125 false .mv [.t 128], og 130 129 true (.fldA 1) [.t 7], og 131 129 true .ld1 [.t 130], og 132 129 true (.bin .eql) [.t 131, kk 0], og 133 125 false .pick [.t 129, .t 132, (.c (.lit (.bool false)))], oo 134 .pick [.t 125, (.c (.lit (.bool true))), .t 133]]) (.cond (.t 134) c_theorboref02_event_p7 .skip))
abbrev c_theorboref02_event_p9 : VC := (.seq (.seq (.ops 0 [oo 94 (.fldA 2) [.t 7], oo 95 .ld1 [.t 94], oo 96 (.bin .lss) [.t 95, kk 0], oo 97 .mv [.t 96], og 98 97 false (.fldA 2) [.t 7], og 99 97 false .ld1 [.t 98], og 100 97 false (.bin .gtr) [.t 99, kk 3], oo 101 .pick [.t 97, (.c (.lit (.bool true))), .t 100], oo 102 .mv [.t 101], og 103 102 false (.fldA 3) [.t 7], og 104 102 false .ld1 [.t 103], og 105 102 false (.bin .lss) [.t 104, kk 0], oo 106 .pick [.t 102, (.c (.lit (.bool true))), .t 105], oo 107 .mv [.t 106], og 108 107 false (.fldA 3) [.t 7], og 109 107 false .ld1 [.t 108], og 110 107 false (.bin .gtr) [.t 109, kk 4], oo 111 .pick [.t 107, (.c (.lit (.bool true))), .t 110]]) (.cond (.t 111) c_theorboref02_event_p6 .skip)) c_theorboref02_event_p8)
abbrev c_theorboref02_event_p10 : VC := (.seq (.seq (.ops 0 [oo 80 .mv [.t 6], oo 81 (.bin .gtr) [.t 80, kk 0], oo 82 .mv [.t 81], og 83 82 true (.fldA 0) [.t 7], ⟨(some 84), (some (82, true)), .ld1, [.t 83], (some [0, 1, 2, 3])⟩, og 85 82 true (.fldA 5) [.t 5], ⟨(some 86), (some (82, true)), .ld1, [.t 85], (some [0, 1, 2, 5])⟩, og 87 82 true .mv [.t 6], og 88 82 true (.bin .sub) [.t 87, kk 1], og 89 82 true (.ixA 5) [.t 86, .t 88], og 90 82 true (.fldA 0) [.t 89], ⟨(some 91), (some (82, true)), .ld1, [.t 90], (some [0, 1, 2, 5, 6, 7, 8, 9, 10])⟩, og 92 82 true (.bin .leq) [.t 84, .t 91], oo 93 .pick [.t 82, .t 92, (.c (.lit (.bool false)))]]) (.cond (.t 93) c_theorboref02_event_p5 .skip)) c_theorboref02_event_p9)
abbrev c_theorboref02_event_p11 : VC := (.seq (.seq (.ops 0 [oo 63 (.fldA 1) [.t 7], oo 64 .ld1 [.t 63], oo 65 (.bin .lss) [.t 64, kk 0], oo 66 .mv [.t 65], og 67 66 false (.fldA 1) [.t 7], ⟨(some 68), (some (66, false)), .ld1, [.t 67], (some [0, 1, 2, 3, 4])⟩, og 69 66 false (.fldA 0) [.t 2], og 70 66 false (.fldA 0) [.t 69], ⟨(some 71), (some (66, false)), .ld1, [.t 70], (some [0, 1, 2, 3, 6, 7])⟩, og 72 66 false (.fldA 0) [.t 7], ⟨(some 73), (some (66, false)), .ld1, [.t 72], (some [0, 1, 2, 3, 9])⟩, og 74 66 false (.bin .sub) [.t 73, kk 1], og 75 66 false (.ixA 3) [.t 71, .t 74], og 76 66 false (.fldA 1) [.t 75], ⟨(some 77), (some (66, false)), .ld1, [.t 76], (some [0, 1, 2, 3, 6, 7, 8, 9, 10, 11, 12, 13])⟩, og 78 66 false (.bin .gtr) [.t 68, .t 77], oo 79 .pick [.t 66, (.c (.lit (.bool true))), .t 78]]) (.cond (.t 79) c_theorboref02_event_p4 .skip)) c_theorboref02_event_p10)
abbrev c_theorboref02_event_p12 : VC := (.seq (.seq (.ops 0 [oo 51 (.fldA 0) [.t 7], oo 52 .ld1 [.t 51], oo 53 (.bin .lss) [.t 52, kk 1], oo 54 .mv [.t 53], og 55 54 false (.fldA 0) [.t 7], og 56 54 false .ld1 [.t 55], og 57 54 false (.fldA 0) [.t 2], og 58 54 false (.fldA 0) [.t 57], og 59 54 false .ld1 [.t 58], og 60 54 false .len [.t 59], og 61 54 false (.bin .gtr) [.t 56, .t 60], oo 62 .pick [.t 54, (.c (.lit (.bool true))), .t 61]]) (.cond (.t 62) c_theorboref02_event_p3 .skip)) c_theorboref02_event_p11)
abbrev c_theorboref02_event_p13 : VC := (.ops 0 [oo 44 .mv [.t 6], oo 45 (.bin .add) [.t 44, kk 1], oo 6 .mv [.t 45]])
abbrev c_theorboref02_event_p14 : VC := (.seq (.block 1 (.seq (.ops 7 [oo 46 (.fldA 5) [.t 5], oo 47 .ld1 [.t 46], oo 48 .mv [.t 6], oo 49 (.ixA 5) [.t 47, .t 48], oo 50 (.ldA 5) [.t 49], oo 7 (.alloc 152 [li 0, li 0, li 0, li 0, li 0]) [], ⟨none, none, (.st 5), [.t 7, .t 50], none⟩]) c_theorboref02_event_p12)) c_theorboref02_event_p13)
abbrev c_theorboref02_event_p15 : VC := (.seq (.seq (.ops 0 [oo 39 .mv [.t 6], oo 40 (.fldA 5) [.t 5], oo 41 .ld1 [.t 40], oo 42 .len [.t 41], oo 43 (.bin .lss) [.t 39, .t 42]]) (.cond (.t 43) .skip (.exit 0))) c_theorboref02_event_p14)
@[go_sem] abbrev w_theorboref02_event_p15 : Nat := 43556142965880123323311949750716575252688
abbrev c_theorboref02_event_p17 : VC := (.seq (.ops 0 [oo 4 .mv [kk 0]]) .ret)
def c_theorboref02_event_p18 : VC := (.seq (.seq (.ops 0 [oo 6 .mv [kk 0]]) (.block 0 (.loop c_theorboref02_event_p15))) c_theorboref02_event_p17)
abbrev c_theorboref02_event_p19 : VC := (.seq (.seq (.ops 0 [oo 27 (.fldA 4) [.t 5], oo 28 .ld1 [.t 27], oo 29 .mv [.t 28], og 30 29 true (.fldA 5) [.t 5], og 31 29 true .ld1 [.t 30], og 32 29 true .len [.t 31], og 33 29 true (.bin .gtr) [.t 32, kk 0], og 34 29 true .mv [.t 33], og 35 34 false .mv [.t 1], og 36 34 false (.bin .eql) [.t 35, kk 0], og 37 29 true .pick [.t 34, (.c (.lit (.bool true))), .t 36], oo 38 .pick [.t 29, .t 37, (.c (.lit (.bool false)))]]) (.cond (.t 38) c_theorboref02_event_p2 .skip)) c_theorboref02_event_p18)
abbrev c_theorboref02_event_p20 : VC := (.seq (.seq (.ops 0 [oo 13 (.fldA 1) [.t 5], oo 14 (.ldA 3) [.t 13], oo 15 (.call 204) [.t 14], oo 16 (.un .not) [.t 15], oo 17 .mv [.t 16], og 18 17 false .mv [.t 1], og 19 17 false (.bin .eql) [.t 18, kk 0], og 20 17 false .mv [.t 19], og 21 20 true (.fldA 1) [.t 5], og 22 20 true (.fldA 0) [.t 21], og 23 20 true .ld1 [.t 22], og 24 20 true (.bin .eql) [.t 23, kk 0], og 25 17 false .pick [.t 20, .t 24, (.c (.lit (.bool false)))], oo 26 .pick [.t 17, (.c (.lit (.bool true))), .t 25]]) (.cond (.t 26) c_theorboref02_event_p1 .skip)) c_theorboref02_event_p19)
abbrev c_theorboref02_event_p21 : VC := (.seq (.ops 7 [oo 8 (.fldA 2) [.t 2], oo 9 .ld1 [.t 8], oo 10 .mv [.t 1], oo 11 (.ixA 6) [.t 9, .t 10], oo 12 (.ldA 6) [.t 11], ⟨(some 5), none, (.alloc 136 [(.lit (.bool false)), li 0, (.lit (.bool false)), (.lit (.bool false)), (.lit (.bool false)), (.sl 0 [] .exact)]), [], none⟩, ⟨none, none, (.st 6), [.t 5, .t 12], none⟩]) c_theorboref02_event_p20)
def c_theorboref02_event : VC := (.seq (.ops 2 [oo 2 (.box 49) [.t 0], oo 4 .mv [kk 0]]) c_theorboref02_event_p21)
theorem k_theorboref02_event : Comp Tryz.prog nobx gtab 219 135 c_theorboref02_event [.t 4] := ⟨⟨Tryz.f219, _, Tryz.func219, rfl, rfl, kr, kr⟩⟩
abbrev c_theorboref02_Longest_p1 : VC := (.seq (.ops 0 [oo 6 .mv [kk 0]]) .ret)
abbrev c_theorboref02_Longest_p2 : VC := (.ops 0 [oo 45 .mv [.t 7], oo 46 (.bin .add) [.t 45, kk 1], oo 7 .mv [.t 46]])
abbrev c_theorboref02_Longest_p3 : VC := (.seq (.seq (.ops 0 [oo 38 (.ldA 6) [.t 8], oo 39 (.call 314) [.t 38], oo 40 .mv [.t 39], og 41 40 false (.ldA 6) [.t 8], og 42 40 false .mv [.t 2], og 43 40 false (.call 315) [.t 41, .t 42], oo 44 .pick [.t 40, (.c (.lit (.bool true))), .t 43]]) (.cond (.t 44) (.exit 0) .skip)) c_theorboref02_Longest_p2)
abbrev c_theorboref02_Longest_p4 : VC := (.block 1 (.seq (.ops 10 [oo 30 (.fldA 2) [.t 3], oo 31 .ld1 [.t 30], oo 32 .mv [.t 1], oo 33 .mv [.t 7], oo 34 (.bin .add) [.t 32, .t 33], oo 35 (.bin .add) [.t 34, kk 1], oo 36 (.ixA 6) [.t 31, .t 35], oo 37 (.ldA 6) [.t 36], ⟨(some 8), none, (.alloc 136 [(.lit (.bool false)), li 0, (.lit (.bool false)), (.lit (.bool false)), (.lit (.bool false)), (.sl 0 [] .exact)]), [], none⟩, ⟨none, none, (.st 6), [.t 8, .t 37], none⟩]) c_theorboref02_Longest_p3))
abbrev c_theorboref02_Longest_p5 : VC := (.seq (.seq (.ops 0 [oo 18 .mv [.t 7], oo 19 (.bin .lss) [.t 18, kk 15], oo 20 .mv [.t 19], og 21 20 true .mv [.t 1], og 22 20 true .mv [.t 7], og 23 20 true (.bin .add) [.t 21, .t 22], og 24 20 true (.bin .add) [.t 23, kk 1], og 25 20 true (.fldA 2) [.t 3], og 26 20 true .ld1 [.t 25], og 27 20 true .len [.t 26], og 28 20 true (.bin .lss) [.t 24, .t 27], oo 29 .pick [.t 20, .t 28, (.c (.lit (.bool false)))]]) (.cond (.t 29) .skip (.exit 0))) c_theorboref02_Longest_p4)
@[go_sem] abbrev w_theorboref02_Longest_p5 : Nat := 140737488093568
abbrev c_theorboref02_Longest_p7 : VC := (.seq (.ops 0 [oo 47 .mv [.t 7], oo 6 .mv [.t 47]]) .ret)
abbrev c_theorboref02_Longest_p8 : VC := (.seq (.block 0 (.loop c_theorboref02_Longest_p5)) c_theorboref02_Longest_p7)
abbrev c_theorboref02_Longest_p9 : VC := (.seq (.ops 0 [oo 7 .mv [kk 0]]) c_theorboref02_Longest_p8)
abbrev c_theorboref02_Longest_p10 : VC := (.seq (.seq (.ops 0 [oo 9 .mv [.t 1], oo 10 (.bin .lss) [.t 9, kk 0], oo 11 .mv [.t 10], og 12 11 false .mv [.t 1], og 13 11 false (.fldA 2) [.t 3], og 14 11 false .ld1 [.t 13], og 15 11 false .len [.t 14], og 16 11 false (.bin .geq) [.t 12, .t 15], oo 17 .pick [.t 11, (.c (.lit (.bool true))), .t 16]]) (.cond (.t 17) c_theorboref02_Longest_p1 .skip)) c_theorboref02_Longest_p9)
def c_theorboref02_Longest : VC := (.seq (.ops 2 [oo 3 (.box 49) [.t 0], oo 6 .mv [kk 0]]) c_theorboref02_Longest_p10)
theorem k_theorboref02_Longest : Comp Tryz.prog nobx gtab 260 48 c_theorboref02_Longest [.t 6] := ⟨⟨Tryz.f260, _, Tryz.func260, rfl, rfl, kr, kr⟩⟩
abbrev c_theorboref02_Rest_p1 : VC := (.seq (.ops 0 [oo 3 (.fldA 5) [.t 1], oo 4 .ld1 [.t 3], oo 5 .len [.t 4], oo 6 (.bin .eql) [.t 5, kk 0], oo 7 .mv [.t 6], og 8 7 true (.fldA 4) [.t 1], og 9 7 true .ld1 [.t 8], og 10 7 true (.un .not) [.t 9], oo 11 .pick [.t 7, .t 10, (.c (.lit (.bool false)))], oo 2 .mv [.t 11]]) .ret)
def c_theorboref02_Rest : VC := (.seq (.ops 2 [oo 1 (.box 136) [.t 0], oo 2 .mv [(.c (.lit (.bool false)))]]) c_theorboref02_Rest_p1)
theorem k_theorboref02_Rest : Comp Tryz.prog nobx gtab 314 12 c_theorboref02_Rest [.t 2] := ⟨⟨Tryz.f314, _, Tryz.func314, rfl, rfl, kr, kr⟩⟩
abbrev c_theorboref02_Has_p1 : VC := (.seq (.ops 0 [oo 4 .mv [(.c (.lit (.bool true)))]]) .ret)
abbrev c_theorboref02_Has_p2 : VC := (.ops 0 [oo 11 .mv [.t 5], oo 12 (.bin .add) [.t 11, kk 1], oo 5 .mv [.t 12]])
abbrev c_theorboref02_Has_p3 : VC := (.seq (.block 1 (.seq (.ops 0 [oo 13 (.fldA 5) [.t 2], oo 14 .ld1 [.t 13], oo 15 .mv [.t 5], oo 16 (.ixA 5) [.t 14, .t 15], oo 17 (.fldA 0) [.t 16], oo 18 .ld1 [.t 17], oo 19 .mv [.t 1], oo 20 (.bin .eql) [.t 18, .t 19]]) (.cond (.t 20) c_theorboref02_Has_p1 .skip))) c_theorboref02_Has_p2)
abbrev c_theorboref02_Has_p4 : VC := (.seq (.seq (.ops 0 [oo 6 .mv [.t 5], oo 7 (.fldA 5) [.t 2], oo 8 .ld1 [.t 7], oo 9 .len [.t 8], oo 10 (.bin .lss) [.t 6, .t 9]]) (.cond (.t 10) .skip (.exit 0))) c_theorboref02_Has_p3)
@[go_sem] abbrev w_theorboref02_Has_p4 : Nat := 2097136
abbrev c_theorboref02_Has_p6 : VC := (.seq (.ops 0 [oo 4 .mv [(.c (.lit (.bool false)))]]) .ret)
abbrev c_theorboref02_Has_p7 : VC := (.seq (.seq (.ops 0 [oo 5 .mv [kk 0]]) (.block 0 (.loop c_theorboref02_Has_p4))) c_theorboref02_Has_p6)
def c_theorboref02_Has : VC := (.seq (.ops 2 [oo 2 (.box 136) [.t 0], oo 4 .mv [(.c (.lit (.bool false)))]]) c_theorboref02_Has_p7)
theorem k_theorboref02_Has : Comp Tryz.prog nobx gtab 315 21 c_theorboref02_Has [.t 4] := ⟨⟨Tryz.f315, _, Tryz.func315, rfl, rfl, kr, kr⟩⟩
abbrev c_theorboref02_Forces_p1 : VC := (.ops 0 [oo 22 (.fldA 2) [.t 1], oo 23 .ld1 [.t 22], oo 24 .mv [.t 5], oo 25 (.ixA 6) [.t 23, .t 24], oo 26 (.fldA 1) [.t 25], oo 27 (.ldA 3) [.t 26], ⟨none, none, (.st 3), [.t 4, .t 27], none⟩])
abbrev c_theorboref02_Forces_p2 : VC := (.ops 5 [oo 28 .mv [.t 3], oo 29 (.ldA 3) [.t 4], oo 30 (.mksl 1 3 [li 0, (.lit (.bool false)), (.lit (.bool false))] [(0, 3)]) [.t 29], oo 31 (.app 110 3 16) [.t 28, .t 30], oo 3 .mv [.t 31]])
abbrev c_theorboref02_Forces_p3 : VC := (.ops 0 [oo 12 .mv [.t 5], oo 13 (.bin .add) [.t 12, kk 1], oo 5 .mv [.t 13]])
abbrev c_theorboref02_Forces_p4 : VC := (.seq (.block 1 (.seq (.seq (.ops 0 [oo 14 (.fldA 2) [.t 1], oo 15 .ld1 [.t 14], oo 16 .mv [.t 5], oo 17 (.ixA 6) [.t 15, .t 16], oo 18 (.fldA 1) [.t 17], oo 19 (.fldA 0) [.t 18], oo 20 .ld1 [.t 19], oo 21 (.bin .neq) [.t 20, kk 0]]) (.cond (.t 21) c_theorboref02_Forces_p1 .skip)) c_theorboref02_Forces_p2)) c_theorboref02_Forces_p3)
abbrev c_theorboref02_Forces_p5 : VC := (.seq (.seq (.ops 0 [oo 7 .mv [.t 5], oo 8 (.fldA 2) [.t 1], oo 9 .ld1 [.t 8], oo 10 .len [.t 9], oo 11 (.bin .lss) [.t 7, .t 10]]) (.cond (.t 11) .skip (.exit 0))) c_theorboref02_Forces_p4)
@[go_sem] abbrev w_theorboref02_Forces_p5 : Nat := 4294967208
abbrev c_theorboref02_Forces_p7 : VC := (.seq (.ops 0 [oo 32 .mv [.t 3], oo 2 .mv [.t 32]]) .ret)
abbrev c_theorboref02_Forces_p8 : VC := (.seq (.seq (.ops 0 [oo 5 .mv [kk 0]]) (.block 0 (.loop c_theorboref02_Forces_p5))) c_theorboref02_Forces_p7)
abbrev c_theorboref02_Forces_p9 : VC := (.seq (.ops 3 [oo 6 (.build [li 0, (.lit (.bool false)), (.lit (.bool false))] []) [], oo 4 (.alloc 110 [li 0, (.lit (.bool false)), (.lit (.bool false))]) [], ⟨none, none, (.st 3), [.t 4, .t 6], none⟩]) c_theorboref02_Forces_p8)
abbrev c_theorboref02_Forces_p10 : VC := (.seq (.ops 0 [oo 3 .mv [(.c (.sl 0 [] .exact))]]) c_theorboref02_Forces_p9)
def c_theorboref02_Forces : VC := (.seq (.ops 2 [oo 1 (.box 49) [.t 0], oo 2 .mv [(.c (.sl 0 [] .exact))]]) c_theorboref02_Forces_p10)
theorem k_theorboref02_Forces : Comp Tryz.prog nobx gtab 165 33 c_theorboref02_Forces [.t 2] := ⟨⟨Tryz.f165, _, Tryz.func165, rfl, rfl, kr, kr⟩⟩
abbrev c_theorboref02_Plain_p1 : VC := (.seq (.ops 0 [⟨(some 12), none, (.build [(.sl 0 [] .exact), (.sl 0 [] .exact), (.sl 0 [] .exact)] []), [], none⟩, oo 13 .mv [.t 4], ⟨none, none, (.st 3), [.t 2, .t 12], none⟩, oo 3 .mv [.t 13]]) .ret)
abbrev c_theorboref02_Plain_p2 : VC := (.ops 0 [oo 22 .mv [.t 7], oo 23 (.bin .add) [.t 22, kk 1], oo 7 .mv [.t 23]])
abbrev c_theorboref02_Plain_p3 : VC := (.seq (.block 1 (.ops 0 [oo 24 (.fldA 2) [.t 5], od 25 .ld1 [.t 24] [0], oo 26 .mv [.t 7], oo 27 .mv [.t 6], oo 28 .mv [.t 7], oo 29 (.ixA 3) [.t 27, .t 28], od 30 (.ldA 3) [.t 29] [3, 4, 5], oo 31 (.ixA 6) [.t 25, .t 26], oo 32 (.fldA 1) [.t 31], ⟨none, none, (.st 3), [.t 32, .t 30], none⟩])) c_theorboref02_Plain_p2)
abbrev c_theorboref02_Plain_p4 : VC := (.seq (.seq (.ops 0 [oo 18 .mv [.t 7], oo 19 .mv [.t 6], oo 20 .len [.t 19], oo 21 (.bin .lss) [.t 18, .t 20]]) (.cond (.t 21) .skip (.exit 0))) c_theorboref02_Plain_p3)
@[go_sem] abbrev w_theorboref02_Plain_p4 : Nat := 8589672576
abbrev c_theorboref02_Plain_p6 : VC := (.seq (.ops 0 [oo 33 (.ldA 3) [.t 5], ⟨none, none, (.st 3), [.t 2, .t 33], none⟩, oo 3 .mv [kk 0]]) .ret)
abbrev c_theorboref02_Plain_p7 : VC := (.seq (.seq (.ops 0 [oo 7 .mv [kk 0]]) (.block 0 (.loop c_theorboref02_Plain_p4))) c_theorboref02_Plain_p6)
abbrev c_theorboref02_Plain_p8 : VC := (.seq (.ops 0 [oo 16 (.ldA 3) [.t 1], oo 17 (.call 165) [.t 16], oo 6 .mv [.t 17]]) c_theorboref02_Plain_p7)
abbrev c_theorboref02_Plain_p9 : VC := (.seq (.ops 4 [oo 14 (.ldA 3) [.t 1], oo 15 (.call 164) [.t 14], ⟨(some 5), none, (.alloc 49 [(.sl 0 [] .exact), (.sl 0 [] .exact), (.sl 0 [] .exact)]), [], none⟩, ⟨none, none, (.st 3), [.t 5, .t 15], none⟩]) c_theorboref02_Plain_p8)
abbrev c_theorboref02_Plain_p10 : VC := (.seq (.seq (.ops 0 [oo 10 .mv [.t 4], oo 11 (.bin .neq) [.t 10, kk 0]]) (.cond (.t 11) c_theorboref02_Plain_p1 .skip)) c_theorboref02_Plain_p9)
abbrev c_theorboref02_Plain_p11 : VC := (.seq (.ops 0 [oo 8 (.ldA 3) [.t 1], oo 9 (.call 163) [.t 8], oo 4 .mv [.t 9]]) c_theorboref02_Plain_p10)
def c_theorboref02_Plain : VC := (.seq (.ops 3 [oo 1 (.box 49) [.t 0], ⟨(some 2), none, (.alloc 49 [(.sl 0 [] .exact), (.sl 0 [] .exact), (.sl 0 [] .exact)]), [], none⟩, oo 3 .mv [kk 0]]) c_theorboref02_Plain_p11)
theorem k_theorboref02_Plain : Comp Tryz.prog nobx gtab 94 34 c_theorboref02_Plain [(.c 2 3 true), .t 3] := ⟨⟨Tryz.f94, _, Tryz.func94, rfl, rfl, kr, kr⟩⟩
abbrev c_theorboref10_Of_p1 : VC := (.seq (.ops 0 [⟨(some 19), none, (.build [(.sl 0 [] .exact), (.sl 0 [] .exact), (.sl 0 [] .exact)] []), [], none⟩, oo 20 .mv [.t 4], ⟨none, none, (.st 3), [.t 2, .t 19], none⟩, oo 3 .mv [.t 20]]) .ret)
abbrev c_theorboref10_Of_p2 : VC := (.ops 0 [oo 68 (.fldA 5) [.t 7], oo 69 .ld1 [.t 68], oo 70 .mv [.t 11], oo 71 (.ixA 5) [.t 69, .t 70], oo 72 (.fldA 1) [.t 71], oo 73 .ld1 [.t 72], oo 10 .mv [.t 73]])
abbrev c_theorboref10_Of_p3 : VC := (.ops 0 [oo 57 .mv [.t 11], oo 58 (.bin .add) [.t 57, kk 1], oo 11 .mv [.t 58]])
abbrev c_theorboref10_Of_p4 : VC := (.seq (.block 5 (.seq (.ops 0 [oo 59 (.fldA 5) [.t 7], oo 60 .ld1 [.t 59], oo 61 .mv [.t 11], oo 62 (.ixA 5) [.t 60, .t 61], oo 63 (.fldA 0) [.t 62], oo 64 .ld1 [.t 63], oo 65 .mv [.t 9], oo 66 (.bin .add) [.t 65, kk 1], oo 67 (.bin .eql) [.t 64, .t 66]]) (.cond (.t 67) c_theorboref10_Of_p2 .skip))) c_theorboref10_Of_p3)
abbrev c_theorboref10_Of_p5 : VC := (.seq (.seq (.ops 0 [oo 52 .mv [.t 11], oo 53 (.fldA 5) [.t 7], oo 54 .ld1 [.t 53], oo 55 .len [.t 54], oo 56 (.bin .lss) [.t 52, .t 55]]) (.cond (.t 56) .skip (.exit 4))) c_theorboref10_Of_p4)
@[go_sem] abbrev w_theorboref10_Of_p5 : Nat := 18889461427878953487360
abbrev c_theorboref10_Of_p7 : VC := (.ops 8 [oo 74 (.fldA 3) [.t 8], oo 75 .ld1 [.t 74], oo 76 .mv [.t 10], oo 77 (.mksl 1 1 [li 0] [(0, 1)]) [.t 76], ⟨(some 78), none, (.mksl 1 1 [(.sl 0 [] .exact)] [(0, 1)]), [.t 77], none⟩, oo 79 (.app 23 1 24) [.t 75, .t 78], oo 80 (.fldA 3) [.t 8], ⟨none, none, (.st 1), [.t 80, .t 79], none⟩])
abbrev c_theorboref10_Of_p8 : VC := (.seq (.seq (.ops 0 [oo 11 .mv [kk 0]]) (.block 4 (.loop c_theorboref10_Of_p5))) c_theorboref10_Of_p7)
abbrev c_theorboref10_Of_p9 : VC := (.ops 0 [oo 50 .mv [.t 9], oo 51 (.bin .add) [.t 50, kk 1], oo 9 .mv [.t 51]])
abbrev c_theorboref10_Of_p10 : VC := (.seq (.block 3 (.seq (.ops 0 [oo 10 .mv [kk (-1)]]) c_theorboref10_Of_p8)) c_theorboref10_Of_p9)
abbrev c_theorboref10_Of_p11 : VC := (.seq (.seq (.ops 0 [oo 44 .mv [.t 9], oo 45 (.fldA 0) [.t 1], oo 46 (.fldA 0) [.t 45], oo 47 .ld1 [.t 46], oo 48 .len [.t 47], oo 49 (.bin .lss) [.t 44, .t 48]]) (.cond (.t 49) .skip (.exit 2))) c_theorboref10_Of_p10)
@[go_sem] abbrev w_theorboref10_Of_p11 : Nat := 2417851639211666163371520
abbrev c_theorboref10_Of_p13 : VC := (.ops 7 [oo 81 (.fldA 2) [.t 5], oo 82 .ld1 [.t 81], oo 83 (.ldA 4) [.t 8], ⟨(some 84), none, (.mksl 1 4 [(.lit (.bool false)), (.lit (.bool false)), (.sl 0 [] .exact), (.sl 0 [] .exact)] [(0, 4)]), [.t 83], none⟩, oo 85 (.app 84 4 56) [.t 82, .t 84], oo 86 (.fldA 2) [.t 5], ⟨none, none, (.st 1), [.t 86, .t 85], none⟩])
abbrev c_theorboref10_Of_p14 : VC := (.seq (.seq (.ops 0 [oo 9 .mv [kk 0]]) (.block 2 (.loop c_theorboref10_Of_p11))) c_theorboref10_Of_p13)
abbrev c_theorboref10_Of_p15 : VC := (.seq (.ops 10 [oo 36 (.fldA 0) [.t 7], oo 37 .ld1 [.t 36], oo 38 (.fldA 4) [.t 7], oo 39 .ld1 [.t 38], oo 40 (.fldA 1) [.t 7], oo 41 (.ldA 3) [.t 40], oo 42 (.mksl 1 3 [li 0, (.lit (.bool false)), (.lit (.bool false))] [(0, 3)]) [.t 41], ⟨(some 43), none, (.build [(.lit (.bool false)), (.lit (.bool false)), (.sl 0 [] .exact), (.sl 0 [] .exact)] [(0, 1), (1, 1), (2, 1)]), [.t 37, .t 39, .t 42], none⟩, ⟨(some 8), none, (.alloc 84 [(.lit (.bool false)), (.lit (.bool false)), (.sl 0 [] .exact), (.sl 0 [] .exact)]), [], none⟩, ⟨none, none, (.st 4), [.t 8, .t 43], none⟩]) c_theorboref10_Of_p14)
abbrev c_theorboref10_Of_p16 : VC := (.ops 0 [oo 29 .mv [.t 6], oo 30 (.bin .add) [.t 29, kk 1], oo 6 .mv [.t 30]])
abbrev c_theorboref10_Of_p17 : VC := (.seq (.block 1 (.seq (.ops 7 [oo 31 (.fldA 2) [.t 1], oo 32 .ld1 [.t 31], oo 33 .mv [.t 6], oo 34 (.ixA 6) [.t 32, .t 33], oo 35 (.ldA 6) [.t 34], ⟨(some 7), none, (.alloc 136 [(.lit (.bool false)), li 0, (.lit (.bool false)), (.lit (.bool false)), (.lit (.bool false)), (.sl 0 [] .exact)]), [], none⟩, ⟨none, none, (.st 6), [.t 7, .t 35], none⟩]) c_theorboref10_Of_p15)) c_theorboref10_Of_p16)
abbrev c_theorboref10_Of_p18 : VC := (.seq (.seq (.ops 0 [oo 24 .mv [.t 6], oo 25 (.fldA 2) [.t 1], oo 26 .ld1 [.t 25], oo 27 .len [.t 26], oo 28 (.bin .lss) [.t 24, .t 27]]) (.cond (.t 28) .skip (.exit 0))) c_theorboref10_Of_p17)
@[go_sem] abbrev w_theorboref10_Of_p18 : Nat := 154742504910672534345617344
abbrev c_theorboref10_Of_p20 : VC := (.seq (.ops 0 [oo 87 (.ldA 3) [.t 5], ⟨none, none, (.st 3), [.t 2, .t 87], none⟩, oo 3 .mv [kk 0]]) .ret)
abbrev c_theorboref10_Of_p21 : VC := (.seq (.seq (.ops 0 [oo 6 .mv [kk 0]]) (.block 0 (.loop c_theorboref10_Of_p18))) c_theorboref10_Of_p20)
abbrev c_theorboref10_Of_p22 : VC := (.seq (.ops 5 [oo 21 (.fldA 0) [.t 1], oo 22 (.ldA 2) [.t 21], ⟨(some 23), none, (.build [(.sl 0 [] .exact), (.sl 0 [] .exact), (.sl 0 [] .exact)] [(0, 2)]), [.t 22], none⟩, ⟨(some 5), none, (.alloc 28 [(.sl 0 [] .exact), (.sl 0 [] .exact), (.sl 0 [] .exact)]), [], none⟩, ⟨none, none, (.st 3), [.t 5, .t 23], none⟩]) c_theorboref10_Of_p21)
abbrev c_theorboref10_Of_p23 : VC := (.seq (.seq (.ops 0 [oo 17 .mv [.t 4], oo 18 (.bin .neq) [.t 17, kk 0]]) (.cond (.t 18) c_theorboref10_Of_p1 .skip)) c_theorboref10_Of_p22)
abbrev c_theorboref10_Of_p24 : VC := (.seq (.ops 0 [oo 13 (.ldA 3) [.t 1], oo 14 (.call 94) [.t 13], oo 12 .mv [.t 14], oo 15 (.ext 0) [.t 12], oo 16 (.ext 1) [.t 12], ⟨none, none, (.st 3), [.t 1, .t 15], none⟩, oo 4 .mv [.t 16]]) c_theorboref10_Of_p23)
def c_theorboref10_Of : VC := (.seq (.ops 3 [oo 1 (.box 49) [.t 0], ⟨(some 2), none, (.alloc 28 [(.sl 0 [] .exact), (.sl 0 [] .exact), (.sl 0 [] .exact)]), [], none⟩, oo 3 .mv [kk 0]]) c_theorboref10_Of_p24)
theorem k_theorboref10_Of : Comp Tryz.prog nobx gtab 40 88 c_theorboref10_Of [(.c 2 3 true), .t 3] := ⟨⟨Tryz.f40, _, Tryz.func40, rfl, rfl, kr, kr⟩⟩
end Go.Proofs.YtdefefeifcdogaaGreat
namespace Go.Proofs.YtdefefeifcdogaaGreat
open Go.RowKit
set_option maxRecDepth 100000

abbrev c_piece_plucks_a_p1 : VC := (.seq (.ops 0 [oo 5 (.fldA 5) [.t 2], oo 6 .ld1 [.t 5], oo 7 (.mkfn 346) [.t 3], oo 8 (.call 188) [.t 6, .t 7], oo 4 .mv [.t 8]]) .ret)
def c_piece_plucks_a : VC := (.seq (.ops 0 [oo 2 .boxE [.t 0], oo 3 .boxE [.t 1], oo 4 .mv [(.c (.lit (.bool false)))]]) c_piece_plucks_a_p1)
theorem k_piece_plucks_a : Comp Tryz.prog allbx gtab 317 9 c_piece_plucks_a [.t 4] := ⟨⟨Tryz.f317, _, Tryz.func317, rfl, rfl, kr, kr⟩⟩
end Go.Proofs.YtdefefeifcdogaaGreat
namespace Go.Proofs.YtdefefeifcdogaaGreat
open Go.RowKit
set_option linter.unusedSimpArgs false
set_option linter.unusedVariables false

/-- The first error of some. -/
def fstE (f : Nat → Int) : Nat → Int
  | 0 => 0
  | k + 1 => if fstE f k ≠ 0 then fstE f k else f k
theorem fstE_zero {f : Nat → Int} : ∀ {n : Nat}, fstE f n = 0 ↔ ∀ i, i < n → f i = 0
  | 0 => ⟨fun _ i hi => by omega, fun _ => rfl⟩
  | n + 1 => by
    rw [fstE]
    constructor
    · intro h i hi
      split at h
      · rename_i h1; exact absurd h h1
      · rename_i h1
        by_cases e : i = n
        · subst e; exact h
        · exact (fstE_zero (n := n)).1 (Decidable.not_not.1 h1) i (by omega)
    · intro h
      rw [if_neg (by have := (fstE_zero (f := f) (n := n)).2 fun i hi => h i (by omega); omega)]
      exact h n (by omega)
theorem fstE_at {f : Nat → Int} {k : Nat} (h0 : ∀ i, i < k → f i = 0) (hk : f k ≠ 0) : ∀ {n : Nat}, k < n → fstE f n = f k
  | 0, h => by omega
  | n + 1, h => by
    by_cases e : k = n
    · subst e
      rw [fstE, if_neg (by have := (fstE_zero (f := f) (n := k)).2 h0; omega)]
    · rw [fstE, fstE_at h0 hk (show k < n by omega), if_pos hk]
/-- A sign that may stand in a piece. -/
def rgtS (s : Sg) : Bool := okS s || (decide (s.v = 0) && !s.d && !s.t)
def hasC (x : Evt) (c : Int) : Bool := x.ss.any fun s => s.co == c
def rstE (x : Evt) : Bool := decide (x.ss.length = 0) && !x.tie
/-- How long a note may be held: from these events, at most n. -/
def lgL : Nat → List Evt → Int → Nat
  | 0, _, _ => 0
  | _ + 1, [], _ => 0
  | n + 1, x :: l, c => if (rstE x || hasC x c) = true then 0 else lgL n l c + 1
def lgst (p : Pce) (i : Nat) (c : Int) : Nat := lgL 15 (p.es.drop (i + 1)) c
def stpE (p : Pce) (i : Nat) (s : Stp) (last : Int) : Int :=
  if s.co < 1 ∨ (p.ins.cs.length : Int) < s.co then 12
  else if s.fr < 0 ∨ (p.ins.cs.getD (s.co - 1).toNat default).f < s.fr then 13
  else if s.co ≤ last then 22
  else if s.ri < 0 ∨ 3 < s.ri ∨ s.gr < 0 ∨ 4 < s.gr then 23
  else if s.ho < 0 ∨ (lgst p i s.co : Int) < s.ho ∨ 0 < s.ho ∧ s.fr = 0 then 24 else 0
def lstC (l : List Stp) (k : Nat) : Int := if k = 0 then 0 else (l.getD (k - 1) default).co
def evtE (p : Pce) (i : Nat) : Int :=
  if rgtS (p.es.getD i default).sg = false ∨ i = 0 ∧ (p.es.getD i default).sg.v = 0 then 20
  else if (p.es.getD i default).tie = true ∧ ((p.es.getD i default).ss.length ≠ 0 ∨ i = 0) then 21
  else fstE (fun k => stpE p i ((p.es.getD i default).ss.getD k default) (lstC (p.es.getD i default).ss k)) (p.es.getD i default).ss.length
/-- The first error of a piece. -/
noncomputable def chkP (p : Pce) : Int := if chkI p.ins ≠ 0 then chkI p.ins else if 400 < p.es.length then 2 else fstE (evtE p) p.es.length
theorem chkP_zero {p : Pce} (h : chkP p = 0) : chkI p.ins = 0 ∧ p.es.length ≤ 400 ∧ ∀ i, i < p.es.length → evtE p i = 0 := by
  unfold chkP at h
  split at h
  · rename_i h1; exact absurd h h1
  · split at h
    · cases h
    · exact ⟨by omega, by omega, fstE_zero.1 h⟩
/-- The sign in force behind the first k events. -/
def frc (l : List Evt) : Nat → Sg
  | 0 => ⟨0, false, false⟩
  | k + 1 => if (l.getD k default).sg.v ≠ 0 then (l.getD k default).sg else frc l k
/-- The events in plain. -/
def plnE (l : List Evt) (k : Nat) : List Evt := (List.range k).map fun i => { l.getD i default with sg := frc l (i + 1) }
theorem plnE_succ (l : List Evt) (k : Nat) : plnE l (k + 1) = plnE l k ++ [{ l.getD k default with sg := frc l (k + 1) }] := by rw [plnE, List.range_succ, List.map_append]; rfl
theorem plnE_len (l : List Evt) (k : Nat) : (plnE l k).length = k := by rw [plnE, List.length_map, List.length_range]
theorem plnE_at {l : List Evt} {k i : Nat} (h : i < k) : (plnE l k).getD i default = { l.getD i default with sg := frc l (i + 1) } := by
  rw [List.getD_eq_getElem?_getD, plnE, List.getElem?_map, List.getElem?_range h]; rfl
/-- A piece with every sign written. -/
def plnP (p : Pce) : Pce := ⟨p.ins, plnE p.es p.es.length⟩
/-- The number of a course in an event: of the last stop there. -/
def numC (l : List Stp) (c : Int) : Nat → Int
  | 0 => -1
  | j + 1 => if (l.getD j default).co = c then (l.getD j default).fr else numC l c j
/-- The column of an event. -/
def clmO (n : Nat) (x : Evt) : Clm := ⟨x.bar, x.tie, [x.sg], (List.range n).map fun k => [numC x.ss ((k + 1 : Nat) : Int) x.ss.length]⟩
/-- The leaf of a piece. -/
def lfO (p : Pce) : Lf := ⟨p.ins, (plnP p).es.map (clmO p.ins.cs.length)⟩
def noL : Lf := ⟨⟨[], []⟩, []⟩
/-- What Of answers. -/
noncomputable def ofR (p : Pce) : Lf × Int := if chkP p ≠ 0 then (noL, chkP p) else (lfO p, 0)
end Go.Proofs.YtdefefeifcdogaaGreat
namespace Go.Proofs.YtdefefeifcdogaaGreat
open Go.RowKit
set_option linter.unusedSimpArgs false
set_option linter.unusedVariables false

theorem rest_fn (x : Evt) : Fn Tryz.prog Gd 316 [x.val] (vbool (rstE x)) := by
  refine Fn.of_vx0 k_piece_isRest (by simp) (by rw [V.pures, pure_evt]; rfl) ?_
  obtain ⟨b, ⟨v, d, tt⟩, ti, ss⟩ := x
  unfold c_piece_isRest
  by_cases h : ss.length = 0
  · have c1 : ((ss.length : Int) == 0) = true := by rw [beq_iff_eq]; omega
    have hq : rstE ⟨b, ⟨v, d, tt⟩, ti, ss⟩ = !ti := by rw [rstE, decide_eq_true h]; rfl
    rw [hq]
    clear h hq
    repeat' (with_reducible first | refine x_ops ?_ | refine wk ?_ | ((first | refine gd1 ?_ ?_ | refine gd2 ?_ ?_ | refine gd3 ?_ ?_) <;> (first | exact @False.elim _ | intro hc)))
    exact finV_lit vv rfl
  · have c1 : ((ss.length : Int) == 0) = false := by rw [beq_eq_false_iff_ne]; omega
    have hq : rstE ⟨b, ⟨v, d, tt⟩, ti, ss⟩ = false := by rw [rstE, decide_eq_false h]; rfl
    rw [hq]
    clear h hq
    repeat' (with_reducible first | refine x_ops ?_ | refine wk ?_ | ((first | refine gd1 ?_ ?_ | refine gd2 ?_ ?_ | refine gd3 ?_ ?_) <;> (first | exact @False.elim _ | intro hc)))
    exact finV_lit vv rfl
theorem rrest_fn (x : Evt) : Fn Tryz.prog Gd 314 [x.val] (vbool (rstE x)) := by
  refine Fn.of_vx0 k_theorboref02_Rest (by simp) (by rw [V.pures, pure_evt]; rfl) ?_
  obtain ⟨b, ⟨v, d, tt⟩, ti, ss⟩ := x
  unfold c_theorboref02_Rest
  by_cases h : ss.length = 0
  · have c1 : ((ss.length : Int) == 0) = true := by rw [beq_iff_eq]; omega
    have hq : rstE ⟨b, ⟨v, d, tt⟩, ti, ss⟩ = !ti := by rw [rstE, decide_eq_true h]; rfl
    rw [hq]
    clear h hq
    repeat' (with_reducible first | refine x_ops ?_ | refine wk ?_ | ((first | refine gd1 ?_ ?_ | refine gd2 ?_ ?_ | refine gd3 ?_ ?_) <;> (first | exact @False.elim _ | intro hc)))
    exact finV_lit vv rfl
  · have c1 : ((ss.length : Int) == 0) = false := by rw [beq_eq_false_iff_ne]; omega
    have hq : rstE ⟨b, ⟨v, d, tt⟩, ti, ss⟩ = false := by rw [rstE, decide_eq_false h]; rfl
    rw [hq]
    clear h hq
    repeat' (with_reducible first | refine x_ops ?_ | refine wk ?_ | ((first | refine gd1 ?_ ?_ | refine gd2 ?_ ?_ | refine gd3 ?_ ?_) <;> (first | exact @False.elim _ | intro hc)))
    exact finV_lit vv rfl
theorem indexT_fn (l : List Stp) (p : Stp → Bool) {f : FuncId} {cs : List V} (hc : callable Tryz.prog f = true) (hp : V.pures cs = true) (hn : V.norms cs = cs) (hf : ∀ x : Stp, Fn Tryz.prog Gd f (.agg x.cells :: cs) (vbool (p x))) (hl : l.length ≤ 4611686018427387904) :
    Fn Tryz.prog Gd 232 [tL Stp.cells l, .fn f cs] (vint (idxI p l)) := by
  refine Fn.of_vx0 k_slices_IndexFunc_api_Stop_api_Stop (by simp) (by rw [V.pures, pure_tL, V.pures, V.pure, hp]; rfl) ?_
  unfold c_slices_IndexFunc_api_Stop_api_Stop
  replace hc := Hid.mk hc
  replace hp := Hid.mk hp
  replace hf := Hid.mk hf
  repeat' (with_reducible first | refine x_ops ?_ | refine wk ?_ | ((first | refine gd1 ?_ ?_ | refine gd2 ?_ ?_ | refine gd3 ?_ ?_) <;> (first | exact @False.elim _ | intro hc)))
  refine x_loopF w_slices_IndexFunc_api_Stop_api_Stop_p7 kr l.length (fun k t => t 8 = vint k ∧ ∀ i, i < k → p (l.getD i default) = false) ?_ ?_
  · exact ⟨vv, fun i h => by omega⟩
  rintro k t hk ⟨h8, hI⟩
  replace hI := Hid.mk hI
  by_cases hlt : k < l.length
  · have g1 := stp_take (l := l) (k := k) hlt
    have g2 := stps_len l
    have c2 : (k : Int) < (l.length : Int) := by omega
    have c3 : k * 5 + 5 ≤ l.length * 5 := by omega
    have w2 := w_add1 (k := k) (by omega)
    have hx := hf.out (l.getD k default)
    have hlt0 := Hid.mk hlt
    cases hb : p (l.getD k default)
    · rw [hb] at hx
      replace hb := Hid.mk hb
      clear hlt hk
      repeat' (with_reducible first | refine x_ops ?_ | refine wk ?_ | (with_reducible refine xcv hx hc.out ?_) | ((first | refine gd1 ?_ ?_ | refine gd2 ?_ ?_ | refine gd3 ?_ ?_) <;> (first | exact @False.elim _ | intro hc)))
      refine nf hlt0.out ⟨vv, fun i h => ?_⟩ rfl
      by_cases hi : i = k
      · subst hi; exact hb.out
      · exact hI.out i (by omega)
    · rw [hb] at hx
      replace hb := Hid.mk hb
      clear hlt hk
      repeat' (with_reducible first | refine x_ops ?_ | refine wk ?_ | (with_reducible refine xcv hx hc.out ?_) | ((first | refine gd1 ?_ ?_ | refine gd2 ?_ ?_ | refine gd3 ?_ ?_) <;> (first | exact @False.elim _ | intro hc)))
      refine finV_lit vv ?_
      rw [idxI_at hlt0.out hb.out hI.out]
  · have c1 : ¬ ((k : Int) < (l.length : Int)) := by omega
    have hq : idxI p l = -1 := idxI_none fun i hi => hI.out i (by omega)
    rw [hq]
    clear hlt hk hq
    repeat' (with_reducible first | refine x_ops ?_ | refine wk ?_ | ((first | refine gd1 ?_ ?_ | refine gd2 ?_ ?_ | refine gd3 ?_ ?_) <;> (first | exact @False.elim _ | intro hc)))
    exact finV_lit vv rfl
theorem containsT_fn (l : List Stp) (p : Stp → Bool) {f : FuncId} {cs : List V} (hc : callable Tryz.prog f = true) (hp : V.pures cs = true) (hn : V.norms cs = cs) (hf : ∀ x : Stp, Fn Tryz.prog Gd f (.agg x.cells :: cs) (vbool (p x))) (hl : l.length ≤ 4611686018427387904) :
    Fn Tryz.prog Gd 188 [tL Stp.cells l, .fn f cs] (vbool (l.any p)) := by
  refine Fn.of_vx0 k_slices_ContainsFunc_api_Stop_api_Stop (by simp) (by rw [V.pures, pure_tL, V.pures, V.pure, hp]; rfl) ?_
  unfold c_slices_ContainsFunc_api_Stop_api_Stop
  have I := indexT_fn l p hc hp hn hf hl
  have G := idxI_ge p l
  clear hp hc hf
  repeat' (with_reducible first | refine x_ops ?_ | refine wk ?_ | (with_reducible refine xc (I) ?_) | ((first | refine gd1 ?_ ?_ | refine gd2 ?_ ?_ | refine gd3 ?_ ?_) <;> (first | exact @False.elim _ | intro hc)))
  refine finV_lit vv ?_
  rw [← G]
theorem plucks1_fn (x : Stp) (c : Int) : Fn Tryz.prog Gd 346 [.agg x.cells, .ept [vint c] 0] (vbool (x.co == c)) := by
  refine Fn.of_vx0 k_piece_plucks_1 (by simp) rfl ?_
  obtain ⟨a1, a2, a3, a4, a5⟩ := x
  unfold c_piece_plucks_1
  repeat' (with_reducible first | refine x_ops ?_ | refine wk ?_ | ((first | refine gd1 ?_ ?_ | refine gd2 ?_ ?_ | refine gd3 ?_ ?_) <;> (first | exact @False.elim _ | intro hc)))
  exact finV_lit vv rfl
theorem plucks_fn (x : Evt) (c : Int) (hl : x.ss.length ≤ 4611686018427387904) : Fn Tryz.prog Gd 317 [x.val, vint c] (vbool (hasC x c)) := by
  refine Fn.of_vx0 k_piece_plucks_a (by simp) (by rw [V.pures, pure_evt]; rfl) ?_
  have C := containsT_fn x.ss (fun s => s.co == c) (f := 346) (cs := [.ept [vint c] 0]) kr rfl rfl (fun s => plucks1_fn s c) hl
  rw [tL] at C
  have hq : hasC x c = x.ss.any fun s => s.co == c := rfl
  rw [hq]
  generalize (x.ss.any fun s => s.co == c) = z at *
  obtain ⟨b, ⟨v, d, tt⟩, ti, ss⟩ := x
  dsimp only at C
  clear hl hq
  unfold c_piece_plucks_a
  repeat' (with_reducible first | refine x_ops ?_ | refine wk ?_ | (with_reducible refine xc (C) ?_) | ((first | refine gd1 ?_ ?_ | refine gd2 ?_ ?_ | refine gd3 ?_ ?_) <;> (first | exact @False.elim _ | intro hc)))
  exact finV_lit vv rfl
theorem rhas_fn (x : Evt) (c : Int) (hl : x.ss.length ≤ 4611686018427387904) : Fn Tryz.prog Gd 315 [x.val, vint c] (vbool (hasC x c)) := by
  refine Fn.of_vx0 k_theorboref02_Has (by simp) (by rw [V.pures, pure_evt]; rfl) ?_
  have hq : hasC x c = x.ss.any fun s => s.co == c := rfl
  obtain ⟨b, ⟨v, d, tt⟩, ti, ss⟩ := x
  dsimp only at hq hl
  unfold c_theorboref02_Has
  replace hq := Hid.mk hq
  repeat' (with_reducible first | refine x_ops ?_ | refine wk ?_ | ((first | refine gd1 ?_ ?_ | refine gd2 ?_ ?_ | refine gd3 ?_ ?_) <;> (first | exact @False.elim _ | intro hc)))
  refine x_loopF w_theorboref02_Has_p4 kr ss.length (fun k t => t 5 = vint k ∧ ∀ i, i < k → ((ss.getD i default).co == c) = false) ?_ ?_
  · exact ⟨vv, fun i h => by omega⟩
  rintro k t hk ⟨h5, hI⟩
  replace hI := Hid.mk hI
  by_cases hlt : k < ss.length
  · have g1 := stp_at0 (l := ss) (k := k) hlt
    have g2 := stps_len ss
    have c2 : (k : Int) < (ss.length : Int) := by omega
    have w2 := w_add1 (k := k) (by omega)
    have hlt0 := Hid.mk hlt
    cases hb : ((ss.getD k default).co == c)
    · have hb0 := Hid.mk hb
      clear hlt hk
      repeat' (with_reducible first | refine x_ops ?_ | refine wk ?_ | ((first | refine gd1 ?_ ?_ | refine gd2 ?_ ?_ | refine gd3 ?_ ?_) <;> (first | exact @False.elim _ | intro hc)))
      refine nf hlt0.out ⟨vv, fun i h => ?_⟩ rfl
      by_cases hi : i = k
      · subst hi; exact hb0.out
      · exact hI.out i (by omega)
    · have hb0 := Hid.mk hb
      clear hlt hk
      repeat' (with_reducible first | refine x_ops ?_ | refine wk ?_ | ((first | refine gd1 ?_ ?_ | refine gd2 ?_ ?_ | refine gd3 ?_ ?_) <;> (first | exact @False.elim _ | intro hc)))
      refine finV_lit vv ?_
      rw [hq.out, List.any_eq_true.2 ⟨_, getD_mem hlt0.out, hb0.out⟩]
  · have c1 : ¬ ((k : Int) < (ss.length : Int)) := by omega
    have hq2 : (ss.any fun s => s.co == c) = false := by
      rw [List.any_eq_false]
      intro s hs
      obtain ⟨i, hi, rfl⟩ := List.mem_iff_getElem.1 hs
      have := hI.out i (by omega)
      rw [List.getD_eq_getElem?_getD, List.getElem?_eq_getElem hi] at this
      rw [← Bool.not_eq_true] at this
      exact this
    rw [hq.out, hq2]
    clear hlt hk hq2
    repeat' (with_reducible first | refine x_ops ?_ | refine wk ?_ | ((first | refine gd1 ?_ ?_ | refine gd2 ?_ ?_ | refine gd3 ?_ ?_) <;> (first | exact @False.elim _ | intro hc)))
    exact finV_lit vv rfl
theorem lgL_stop {x : Evt} {c : Int} (h : (rstE x || hasC x c) = true) (n : Nat) (l : List Evt) : lgL n (x :: l) c = 0 := by
  cases n with
  | zero => rfl
  | succ n => rw [lgL, if_pos h]
theorem lgL_go {x : Evt} {c : Int} (h : (rstE x || hasC x c) = false) (n : Nat) (l : List Evt) : lgL (n + 1) (x :: l) c = lgL n l c + 1 := by
  rw [lgL, if_neg (by rw [h]; decide)]
theorem lgL_nil (n : Nat) (c : Int) : lgL n [] c = 0 := by cases n <;> rfl
theorem drop_cons {α : Type} [Inhabited α] {l : List α} {k : Nat} (h : k < l.length) : l.drop k = l.getD k default :: l.drop (k + 1) := by
  rw [List.drop_eq_getElem_cons h, List.getD_eq_getElem?_getD, List.getElem?_eq_getElem h]; rfl
theorem drop_flat {α : Type} {enc : α → List V} {sz : Nat} (he : ∀ x, (enc x).length = sz) : ∀ (l : List α) (k : Nat), (l.flatMap enc).drop (k * sz) = (l.drop k).flatMap enc
  | l, 0 => by simp
  | [], k + 1 => by simp
  | a :: l, k + 1 => by
    rw [List.flatMap_cons, List.drop_succ_cons, Nat.succ_mul, Nat.add_comm, ← List.drop_drop, List.drop_left' (he a)]
    exact drop_flat he l k
/-- The events behind one. -/
theorem evs_cut (l : List Evt) (i : Nat) (h : i + 1 ≤ l.length) : vslc 6 true false (.sl l.length (l.flatMap Evt.cells) .no) [.lit (.int .i64 ((i + 1 : Nat) : Int))] = some (.sl (l.drop (i + 1)).length ((l.drop (i + 1)).flatMap Evt.cells) .no) := by
  simp only [vslc, bnds, if_true, Bool.false_eq_true, if_false]
  rw [if_pos (by omega)]
  have e : (l.length : Int).toNat - ((i + 1 : Nat) : Int).toNat = (l.drop (i + 1)).length := by rw [List.length_drop]; omega
  rw [e, show ((i + 1 : Nat) : Int).toNat = i + 1 by omega, drop_flat evt_len, List.take_of_length_le (by rw [evts_len]; exact Nat.le_refl _)]
/-- A piece as three rows. -/
theorem plong_fn (p : Pce) (hs : PcSm p) (i : Nat) (hi : i < p.es.length) (c : Int) : Fn Tryz.prog Gd 261 [p.val, vint i, vint c] (vint (lgst p i c)) := by
  refine Fn.of_vx0 k_piece_Longest (by simp) (by rw [V.pures, pure_pce]; rfl) ?_
  obtain ⟨⟨cs, st⟩, es⟩ := p
  have hn : es.length ≤ 17592186044416 := hs.n
  have he : ∀ i, i < es.length → (es.getD i default).ss.length ≤ 17592186044416 := hs.e
  have hi : i < es.length := hi
  have hq : lgst ⟨⟨cs, st⟩, es⟩ i c = lgL 15 (es.drop (i + 1)) c := rfl
  have cut := evs_cut es i hi
  have c1 : ¬ ((i : Int) < 0) := by omega
  have c2 : ¬ ((es.length : Int) ≤ (i : Int)) := by omega
  have w1 := w_add1 (k := i) (by omega)
  have hL : ∀ j, j < (es.drop (i + 1)).length → ((es.drop (i + 1)).getD j default).ss.length ≤ 17592186044416 := fun j hj => by
    rw [List.length_drop] at hj
    have := he (i + 1 + j) (by omega)
    rw [List.getD_eq_getElem?_getD] at this ⊢
    rwa [List.getElem?_drop]
  have hLn : (es.drop (i + 1)).length ≤ 17592186044416 := by rw [List.length_drop]; omega
  rw [hq]
  clear hs he hi hn hq
  generalize es.drop (i + 1) = L at *
  replace hL := Hid.mk hL
  unfold c_piece_Longest
  repeat' (with_reducible first | refine x_ops ?_ | refine wk ?_ | ((first | refine gd1 ?_ ?_ | refine gd2 ?_ ?_ | refine gd3 ?_ ?_) <;> (first | exact @False.elim _ | intro hc)))
  clear cut c1 c2 w1
  refine x_loopW w_piece_Longest_p6 kr L.length (fun k t m => t 25 = vint k ∧ t 7 = vint k ∧ k ≤ 15 ∧ lgL 15 L c = k + lgL (15 - k) (L.drop k) c) ?_ ?_
  · exact ⟨vv, vv, by omega, by simp⟩
  rintro k t m hk ⟨h25, h7, h15, hI⟩
  by_cases hlt : k < L.length
  case neg =>
    have c1 : ¬ ((k : Int) < (L.length : Int)) := by omega
    have hq : lgL 15 L c = k := by rw [hI, List.drop_of_length_le (by omega), lgL_nil]; rfl
    rw [hq]
    clear hlt hk hI hq h15
    repeat' (with_reducible first | refine x_ops ?_ | refine wk ?_ | ((first | refine gd1 ?_ ?_ | refine gd2 ?_ ?_ | refine gd3 ?_ ?_) <;> (first | exact @False.elim _ | intro hc)))
    exact finV_lit vv rfl
  have c1 : (k : Int) < (L.length : Int) := by omega
  have g1 := evt_take (l := L) (k := k) hlt
  have g2 := evts_len L
  have c3 : k * 6 + 6 ≤ L.length * 6 := by omega
  have w1 := w_add1 (k := k) (by omega)
  have hd := drop_cons hlt
  rw [hd] at hI
  have R := rest_fn (L.getD k default)
  have U := plucks_fn (L.getD k default) c (by have := hL.out k hlt; omega)
  have hlt0 := Hid.mk hlt
  generalize L.getD k default = x at *
  by_cases h1 : k = 15
  · have c4 : ((k : Int) == 15) = true := by rw [beq_iff_eq]; omega
    have hq : lgL 15 L c = k := by rw [hI, h1]; rfl
    rw [hq]
    obtain ⟨b, ⟨v, d, tt⟩, ti, ss⟩ := x
    clear hlt hk hI hq h15 h1 hd
    repeat' (with_reducible first | refine x_ops ?_ | refine wk ?_ | ((first | refine gd1 ?_ ?_ | refine gd2 ?_ ?_ | refine gd3 ?_ ?_) <;> (first | exact @False.elim _ | intro hc)))
    exact finV_lit vv rfl
  have c4 : ((k : Int) == 15) = false := by rw [beq_eq_false_iff_ne]; omega
  have e15 : 15 - k = 14 - k + 1 := by omega
  cases hr : rstE x with
  | true =>
    have hq : lgL 15 L c = k := by rw [hI, lgL_stop (by rw [hr]; rfl)]; rfl
    rw [hq]
    rw [hr] at R
    obtain ⟨b, ⟨v, d, tt⟩, ti, ss⟩ := x
    clear hlt hk hI hq h15 h1 hd hr e15
    repeat' (with_reducible first | refine x_ops ?_ | refine wk ?_ | (with_reducible refine xc (R) ?_) | ((first | refine gd1 ?_ ?_ | refine gd2 ?_ ?_ | refine gd3 ?_ ?_) <;> (first | exact @False.elim _ | intro hc)))
    exact finV_lit vv rfl
  | false =>
    rw [hr] at R
    cases hp : hasC x c with
    | true =>
      have hq : lgL 15 L c = k := by rw [hI, lgL_stop (by rw [hr, hp]; rfl)]; rfl
      rw [hq]
      rw [hp] at U
      obtain ⟨b, ⟨v, d, tt⟩, ti, ss⟩ := x
      clear hlt hk hI hq h15 h1 hd hr e15 hp
      repeat' (with_reducible first | refine x_ops ?_ | refine wk ?_ | (with_reducible refine xc (R) ?_) | (with_reducible refine xc (U) ?_) | ((first | refine gd1 ?_ ?_ | refine gd2 ?_ ?_ | refine gd3 ?_ ?_) <;> (first | exact @False.elim _ | intro hc)))
      exact finV_lit vv rfl
    | false =>
      have hq : lgL 15 L c = k + 1 + lgL (15 - (k + 1)) (L.drop (k + 1)) c := by
        rw [hI, e15, lgL_go (by rw [hr, hp]; rfl), show 15 - (k + 1) = 14 - k by omega]; omega
      have h16 : k + 1 ≤ 15 := by omega
      replace hq := Hid.mk hq
      rw [hp] at U
      obtain ⟨b, ⟨v, d, tt⟩, ti, ss⟩ := x
      clear hlt hk hI h15 h1 hd hr e15 hp
      repeat' (with_reducible first | refine x_ops ?_ | refine wk ?_ | (with_reducible refine xc (R) ?_) | (with_reducible refine xc (U) ?_) | ((first | refine gd1 ?_ ?_ | refine gd2 ?_ ?_ | refine gd3 ?_ ?_) <;> (first | exact @False.elim _ | intro hc)))
      exact nx hlt0.out ⟨vv, vv, h16, hq.out⟩
theorem rlong_fn (p : Pce) (hs : PcSm p) (i : Nat) (hi : i < p.es.length) (c : Int) : Fn Tryz.prog Gd 260 [p.val, vint i, vint c] (vint (lgst p i c)) := by
  refine Fn.of_vx0 k_theorboref02_Longest (by simp) (by rw [V.pures, pure_pce]; rfl) ?_
  obtain ⟨⟨cs, st⟩, es⟩ := p
  have hn : es.length ≤ 17592186044416 := hs.n
  have he : ∀ i, i < es.length → (es.getD i default).ss.length ≤ 17592186044416 := hs.e
  have hi : i < es.length := hi
  have hq : lgst ⟨⟨cs, st⟩, es⟩ i c = lgL 15 (es.drop (i + 1)) c := rfl
  have c1 : ¬ ((i : Int) < 0) := by omega
  have c2 : ¬ ((es.length : Int) ≤ (i : Int)) := by omega
  rw [hq]
  clear hs hq
  replace he := Hid.mk he
  have hi0 := Hid.mk hi
  have hn0 := Hid.mk hn
  clear hi hn
  unfold c_theorboref02_Longest
  repeat' (with_reducible first | refine x_ops ?_ | refine wk ?_ | ((first | refine gd1 ?_ ?_ | refine gd2 ?_ ?_ | refine gd3 ?_ ?_) <;> (first | exact @False.elim _ | intro hc)))
  clear c1 c2
  refine x_loopW w_theorboref02_Longest_p5 kr 16 (fun k t m => t 7 = vint k ∧ (m.obj 0 = some (.box [.sl cs.length (cs.flatMap Crs.cells) .no, .sl st.length (st.map vint) .no, .sl es.length (es.flatMap Evt.cells) .no] 49) ∧ 0 < m.next) ∧ k ≤ 15 ∧ lgL 15 (es.drop (i + 1)) c = k + lgL (15 - k) (es.drop (i + 1 + k)) c) ?_ ?_
  · exact ⟨vv, ⟨vv, by show 0 < 2; omega⟩, by omega, by simp⟩
  rintro k t m hk ⟨h7, ⟨hm, hmn⟩, h15, hI⟩
  have hin := hi0.out
  have hnn := hn0.out
  by_cases h1 : k = 15
  · have c4 : ¬ ((k : Int) < 15) := by omega
    have hq : lgL 15 (es.drop (i + 1)) c = k := by rw [hI, h1]; rfl
    rw [hq]
    clear hk hI hq h15 h1 hin hnn
    repeat' (with_reducible first | refine x_ops ?_ | refine wk ?_ | ((first | refine gd1 ?_ ?_ | refine gd2 ?_ ?_ | refine gd3 ?_ ?_) <;> (first | exact @False.elim _ | intro hc)))
    exact finV_lit vv rfl
  have c4 : (k : Int) < 15 := by omega
  obtain ⟨r, hr0⟩ : ∃ r, r = i + k := ⟨_, rfl⟩
  obtain ⟨q, hq0⟩ : ∃ q, q = i + k + 1 := ⟨_, rfl⟩
  have w1 : IntKind.i64.wrap ((i : Int) + (k : Int)) = (r : Int) := by rw [w_in (by omega)]; omega
  have w2 : IntKind.i64.wrap ((r : Int) + 1) = (q : Int) := by rw [w_in (by omega)]; omega
  have w3 := w_add1 (k := k) (by omega)
  by_cases hlt : q < es.length
  case neg =>
    have c5 : ¬ ((q : Int) < (es.length : Int)) := by omega
    have hq : lgL 15 (es.drop (i + 1)) c = k := by rw [hI, List.drop_of_length_le (by omega), lgL_nil]; rfl
    rw [hq]
    clear hlt hk hI hq h15 h1 hin hnn hr0 hq0
    repeat' (with_reducible first | refine x_ops ?_ | refine wk ?_ | ((first | refine gd1 ?_ ?_ | refine gd2 ?_ ?_ | refine gd3 ?_ ?_) <;> (first | exact @False.elim _ | intro hc)))
    exact finV_lit vv rfl
  have c5 : (q : Int) < (es.length : Int) := by omega
  have g1 := evt_take (l := es) (k := q) hlt
  have g2 := evts_len es
  have c3 : q * 6 + 6 ≤ es.length * 6 := by omega
  have hd := drop_cons hlt
  rw [show i + 1 + k = q by omega, hd] at hI
  have R := rrest_fn (es.getD q default)
  have U := rhas_fn (es.getD q default) c (by have := he.out q hlt; omega)
  have e15 : 15 - k = 14 - k + 1 := by omega
  have ei : i + 1 + (k + 1) = q + 1 := by omega
  generalize es.getD q default = x at *
  cases hr : rstE x with
  | true =>
    have hq : lgL 15 (es.drop (i + 1)) c = k := by rw [hI, lgL_stop (by rw [hr]; rfl)]; rfl
    rw [hq]
    rw [hr] at R
    obtain ⟨b, ⟨v, d, tt⟩, ti, ss⟩ := x
    clear hlt hk hI hq h15 h1 hd hr e15 hin hnn ei hr0 hq0
    repeat' (with_reducible first | refine x_ops ?_ | refine wk ?_ | (with_reducible refine xc (R) ?_) | ((first | refine gd1 ?_ ?_ | refine gd2 ?_ ?_ | refine gd3 ?_ ?_) <;> (first | exact @False.elim _ | intro hc)))
    exact finV_lit vv rfl
  | false =>
    rw [hr] at R
    cases hp : hasC x c with
    | true =>
      have hq : lgL 15 (es.drop (i + 1)) c = k := by rw [hI, lgL_stop (by rw [hr, hp]; rfl)]; rfl
      rw [hq]
      rw [hp] at U
      obtain ⟨b, ⟨v, d, tt⟩, ti, ss⟩ := x
      clear hlt hk hI hq h15 h1 hd hr e15 hp hin hnn ei hr0 hq0
      repeat' (with_reducible first | refine x_ops ?_ | refine wk ?_ | (with_reducible refine xc (R) ?_) | (with_reducible refine xc (U) ?_) | ((first | refine gd1 ?_ ?_ | refine gd2 ?_ ?_ | refine gd3 ?_ ?_) <;> (first | exact @False.elim _ | intro hc)))
      exact finV_lit vv rfl
    | false =>
      have hq : lgL 15 (es.drop (i + 1)) c = k + 1 + lgL (15 - (k + 1)) (es.drop (i + 1 + (k + 1))) c := by
        rw [hI, e15, lgL_go (by rw [hr, hp]; rfl), show 15 - (k + 1) = 14 - k by omega, ei]; omega
      have h16 : k + 1 ≤ 15 := by omega
      have hk16 : k < 16 := by omega
      replace hq := Hid.mk hq
      rw [hp] at U
      obtain ⟨b, ⟨v, d, tt⟩, ti, ss⟩ := x
      clear hlt hk hI h15 h1 hd hr e15 hp hin hnn ei hr0 hq0
      repeat' (with_reducible first | refine x_ops ?_ | refine wk ?_ | (with_reducible refine xc (R) ?_) | (with_reducible refine xc (U) ?_) | ((first | refine gd1 ?_ ?_ | refine gd2 ?_ ?_ | refine gd3 ?_ ?_) <;> (first | exact @False.elim _ | intro hc)))
      refine nx hk16 ⟨vv, ⟨?_, ?_⟩, h16, ?_⟩
      · (simp only [put_obj]; repeat rw [if_neg (by omega)]); exact hm
      · show 0 < m.next + 10; omega
      · rw [← Nat.add_assoc i 1]; exact hq.out
end Go.Proofs.YtdefefeifcdogaaGreat
namespace Go.Proofs.YtdefefeifcdogaaGreat
open Go.RowKit
set_option linter.unusedSimpArgs false
set_option linter.unusedVariables false

theorem tkS_pos (s : Sg) : decide (0 < tkS s) = okS s := by
  cases h : okS s with
  | false => rw [tkS, h]; rfl
  | true =>
    have h2 := h
    unfold okS at h2
    simp only [Bool.and_eq_true, decide_eq_true_eq] at h2
    obtain ⟨⟨h1, h7⟩, _⟩ := h2
    obtain ⟨n, hn⟩ : ∃ n : Nat, s.v = n := ⟨s.v.toNat, by omega⟩
    have q := tk0_cases (n := n) (by omega) (by omega)
    have hp : 0 < tk0 n / 2 * 3 ∧ 0 < tk0 n / 3 * 2 ∧ 0 < tk0 n := by
      have : n = 1 ∨ n = 2 ∨ n = 3 ∨ n = 4 ∨ n = 5 ∨ n = 6 ∨ n = 7 := by omega
      rcases this with rfl | rfl | rfl | rfl | rfl | rfl | rfl <;> decide
    rw [tkS, if_pos h, hn, Int.toNat_natCast]
    apply decide_eq_true
    split
    · exact hp.1
    · split
      · exact hp.2.1
      · exact hp.2.2
theorem valid_fn (s : Sg) : Fn Tryz.prog Gd 220 [s.val] (vbool (rgtS s)) := by
  refine Fn.of_vx0 k_piece_valid (by simp) (by rw [V.pures, pure_sg]; rfl) ?_
  have T := ticks_fn s
  have hp := tkS_pos s
  have hq : rgtS s = (okS s || (decide (s.v = 0) && !s.d && !s.t)) := rfl
  obtain ⟨v, d, t⟩ := s
  dsimp only at hq
  unfold c_piece_valid
  by_cases h : v = 0
  · subst h
    have ho : ∀ d t, okS ⟨0, d, t⟩ = false := fun d t => rfl
    rw [hq, ho]
    rw [ho] at hp
    have hp2 : ¬ 0 < tkS ⟨0, d, t⟩ := of_decide_eq_false hp
    clear hq ho hp
    cases d <;> cases t
    all_goals repeat' (with_reducible first | refine x_ops ?_ | simp only [go_sem, Nat.reduceAdd, Nat.reduceEqDiff, Nat.reduceLT, Nat.reduceLeDiff, Nat.reduceMul, Nat.reduceSub, Nat.reducePow, Nat.reduceDiv, Nat.reduceMod, Nat.reduceBEq, Int.reduceBEq, Int.reduceLT, reduceIte, tIs, tBs, tPs, Bool.true_and, Bool.and_true, Bool.false_and, Bool.and_false, *] | (with_reducible refine xc (T) ?_) | ((first | refine gd1 ?_ ?_ | refine gd2 ?_ ?_ | refine gd3 ?_ ?_) <;> (first | exact @False.elim _ | intro hc)))
    all_goals exact finV_lit vv rfl
  · have c1 : (v == 0) = false := by rw [beq_eq_false_iff_ne]; exact h
    rw [hq, decide_eq_false h, Bool.false_and, Bool.false_and, Bool.or_false, ← hp]
    clear hq h hp
    repeat' (with_reducible first | refine x_ops ?_ | simp only [go_sem, Nat.reduceAdd, Nat.reduceEqDiff, Nat.reduceLT, Nat.reduceLeDiff, Nat.reduceMul, Nat.reduceSub, Nat.reducePow, Nat.reduceDiv, Nat.reduceMod, Nat.reduceBEq, Int.reduceBEq, Int.reduceLT, reduceIte, tIs, tBs, tPs, Bool.false_and, *] | (with_reducible refine xc (T) ?_) | ((first | refine gd1 ?_ ?_ | refine gd2 ?_ ?_ | refine gd3 ?_ ?_) <;> (first | exact @False.elim _ | intro hc)))
    exact finV_lit vv rfl
set_option maxHeartbeats 1000000 in
theorem pstop_fn (p : Pce) (hs : PcSm p) (i : Nat) (hi : i < p.es.length) (s : Stp) (last : Int) : Fn Tryz.prog Gd 221 [p.val, vint i, .agg s.cells, vint last] (vint (stpE p i s last)) := by
  have hps : (V.agg s.cells).pure = true := by rw [V.pure]; rfl
  refine Fn.of_vx0 k_piece_checkStop (by simp) (by rw [V.pures, pure_pce, V.pures, vint, V.pure, V.pures, hps]; rfl) ?_
  have Lg := plong_fn p hs i hi s.co
  have hcn := hs.c
  have hq : stpE p i s last = if s.co < 1 ∨ (p.ins.cs.length : Int) < s.co then 12
  else if s.fr < 0 ∨ (p.ins.cs.getD (s.co - 1).toNat default).f < s.fr then 13
  else if s.co ≤ last then 22
  else if s.ri < 0 ∨ 3 < s.ri ∨ s.gr < 0 ∨ 4 < s.gr then 23
  else if s.ho < 0 ∨ (lgst p i s.co : Int) < s.ho ∨ 0 < s.ho ∧ s.fr = 0 then 24 else 0 := rfl
  generalize lgst p i s.co = lg at *
  obtain ⟨⟨cs, st⟩, es⟩ := p
  obtain ⟨co, fr, ri, gr, ho⟩ := s
  dsimp only at hq hcn Lg
  clear hs hi
  unfold c_piece_checkStop
  by_cases h1 : co < 1
  · rw [if_pos (.inl h1)] at hq
    rw [hq]
    clear hq
    repeat' (with_reducible first | refine x_ops ?_ | refine wk ?_ | ((first | refine gd1 ?_ ?_ | refine gd2 ?_ ?_ | refine gd3 ?_ ?_) <;> (first | exact @False.elim _ | intro hc)))
    exact finV_lit vv rfl
  by_cases h2 : (cs.length : Int) < co
  · rw [if_pos (.inr h2)] at hq
    rw [hq]
    clear hq
    repeat' (with_reducible first | refine x_ops ?_ | refine wk ?_ | ((first | refine gd1 ?_ ?_ | refine gd2 ?_ ?_ | refine gd3 ?_ ?_) <;> (first | exact @False.elim _ | intro hc)))
    exact finV_lit vv rfl
  obtain ⟨k, rfl⟩ : ∃ k : Nat, co = ((k + 1 : Nat) : Int) := ⟨(co - 1).toNat, by omega⟩
  have hk : k < cs.length := by omega
  have g1 := crs_at1 (l := cs) (k := k) hk
  have g2 := crss_len cs
  have c1 : (k : Int) < (cs.length : Int) := by omega
  have w1 := w_sub1 (k := k + 1) (by omega) (by omega)
  rw [Nat.add_sub_cancel] at w1
  have ek : (((k + 1 : Nat) : Int) - 1).toNat = k := by omega
  rw [if_neg (by omega), ek] at hq
  generalize (cs.getD k default).f = fk at *
  replace hq := Hid.mk hq
  clear hk ek hcn
  have hfb : fr = 0 → (fr == 0) = true := fun e => by rw [e]; rfl
  have hfb2 : ¬ fr = 0 → (fr == 0) = false := fun e => by rw [beq_eq_false_iff_ne]; exact e
  by_cases h0 : fr = 0
  · have c9 := hfb h0
    have h00 := Hid.mk h0
    clear hfb hfb2 h0
    repeat' (with_reducible first | refine x_ops ?_ | refine wk ?_ | (with_reducible refine xc (Lg) ?_) | ((first | refine gd1 ?_ ?_ | refine gd2 ?_ ?_ | refine gd3 ?_ ?_) <;> (first | exact @False.elim _ | intro hc)))
    all_goals refine finV_lit vv ?_
    all_goals rw [hq.out]
    all_goals congr 1
    all_goals have h0 := h00.out
    all_goals (repeat' split)
    all_goals first
      | rfl
      | omega
  · have c9 := hfb2 h0
    have h00 := Hid.mk h0
    clear hfb hfb2 h0
    repeat' (with_reducible first | refine x_ops ?_ | refine wk ?_ | (with_reducible refine xc (Lg) ?_) | ((first | refine gd1 ?_ ?_ | refine gd2 ?_ ?_ | refine gd3 ?_ ?_) <;> (first | exact @False.elim _ | intro hc)))
    all_goals refine finV_lit vv ?_
    all_goals rw [hq.out]
    all_goals congr 1
    all_goals have h0 := h00.out
    all_goals (repeat' split)
    all_goals first
      | rfl
      | omega
end Go.Proofs.YtdefefeifcdogaaGreat
namespace Go.Proofs.YtdefefeifcdogaaGreat
open Go.RowKit
set_option linter.unusedSimpArgs false
set_option linter.unusedVariables false

theorem rgtS_zero {d t : Bool} (h : rgtS ⟨0, d, t⟩ = true) : d = false ∧ t = false := by
  cases d <;> cases t <;> first | exact ⟨rfl, rfl⟩ | cases h
theorem lstC_succ (l : List Stp) (j : Nat) : lstC l (j + 1) = (l.getD j default).co := by rw [lstC, if_neg (by omega), Nat.add_sub_cancel]
/-- What the check of an event comes to, of a sign that may stand. -/
theorem evtE_ok {p : Pce} {k : Nat} (h1 : rgtS (p.es.getD k default).sg = true) (h2 : ¬ (k = 0 ∧ (p.es.getD k default).sg.v = 0)) : evtE p k =
  if (p.es.getD k default).tie = true ∧ ((p.es.getD k default).ss.length ≠ 0 ∨ k = 0) then 21
  else fstE (fun j => stpE p k ((p.es.getD k default).ss.getD j default) (lstC (p.es.getD k default).ss j)) (p.es.getD k default).ss.length := by
  rw [evtE, if_neg]
  rintro (h | h)
  · rw [h1] at h; cases h
  · exact h2 h
theorem chkP_at {p : Pce} {k : Nat} (h0 : chkI p.ins = 0) (h1 : ¬ 400 < p.es.length) (hI : ∀ i, i < k → evtE p i = 0) (hk : k < p.es.length) (he : evtE p k ≠ 0) : chkP p = evtE p k := by
  rw [chkP, if_neg (by omega), if_neg h1, fstE_at hI he hk]
theorem chkP_ok {p : Pce} (h0 : chkI p.ins = 0) (h1 : ¬ 400 < p.es.length) (hI : ∀ i, i < p.es.length → evtE p i = 0) : chkP p = 0 := by
  rw [chkP, if_neg (by omega), if_neg h1, fstE_zero.2 hI]
set_option maxHeartbeats 2000000 in
theorem pcheck_fn (p : Pce) (hs : PcSm p) : Fn Tryz.prog Gd 169 [p.val] (vint (chkP p)) := by
  refine Fn.of_vx0 k_piece_Check (by simp) (by rw [V.pures, pure_pce]; rfl) ?_
  have I := icheck_fn p.ins
  unfold c_piece_Check
  by_cases h0 : chkI p.ins = 0
  case neg =>
    have c1 : (chkI p.ins == 0) = false := by rw [beq_eq_false_iff_ne]; exact h0
    have hq : chkP p = chkI p.ins := by rw [chkP, if_pos h0]
    replace hq := Hid.mk hq
    clear h0
    repeat' (with_reducible first | refine x_ops ?_ | refine wk ?_ | (with_reducible refine xc (I) ?_) | ((first | refine gd1 ?_ ?_ | refine gd2 ?_ ?_ | refine gd3 ?_ ?_) <;> (first | exact @False.elim _ | intro hc)))
    exact finV_lit vv (by rw [hq.out])
  have c1 : (chkI p.ins == 0) = true := by rw [h0]; rfl
  by_cases h1 : 400 < p.es.length
  · have c2 : (400 : Int) < (p.es.length : Int) := by omega
    have hq : chkP p = 2 := by rw [chkP, if_neg (by omega), if_pos h1]
    replace hq := Hid.mk hq
    clear h0 h1
    repeat' (with_reducible first | refine x_ops ?_ | refine wk ?_ | (with_reducible refine xc (I) ?_) | ((first | refine gd1 ?_ ?_ | refine gd2 ?_ ?_ | refine gd3 ?_ ?_) <;> (first | exact @False.elim _ | intro hc)))
    exact finV_lit vv (by rw [hq.out])
  have c2 : ¬ (400 : Int) < (p.es.length : Int) := by omega
  have hat := fun k => chkP_at (p := p) (k := k) h0 h1
  have hok := chkP_ok (p := p) h0 h1
  have hn := hs.n
  replace hat := Hid.mk hat
  replace hok := Hid.mk hok
  replace hs := Hid.mk hs
  clear h0 h1
  repeat' (with_reducible first | refine x_ops ?_ | refine wk ?_ | (with_reducible refine xc (I) ?_) | ((first | refine gd1 ?_ ?_ | refine gd2 ?_ ?_ | refine gd3 ?_ ?_) <;> (first | exact @False.elim _ | intro hc)))
  clear I c1 c2
  refine x_loopW w_piece_Check_p20 kr p.es.length (fun k t m => t 23 = vint k ∧ (m.obj 0 = some (.box [.sl p.ins.cs.length (p.ins.cs.flatMap Crs.cells) .no, .sl p.ins.st.length (p.ins.st.map vint) .no, .sl p.es.length (p.es.flatMap Evt.cells) .no] 49) ∧ 0 < m.next) ∧ ∀ i, i < k → evtE p i = 0) ?_ ?_
  · exact ⟨vv, ⟨vv, by show 0 < 2; omega⟩, fun i h => by omega⟩
  rintro k t m hk ⟨h23, ⟨hm, hmn⟩, hI⟩
  replace hI := Hid.mk hI
  by_cases hlt : k < p.es.length
  case neg =>
    have c1 : ¬ ((k : Int) < (p.es.length : Int)) := by omega
    have hz := hok.out fun i hi => hI.out i (by omega)
    rw [hz]
    clear hlt hk hz
    repeat' (with_reducible first | refine x_ops ?_ | refine wk ?_ | ((first | refine gd1 ?_ ?_ | refine gd2 ?_ ?_ | refine gd3 ?_ ?_) <;> (first | exact @False.elim _ | intro hc)))
    exact finV_lit vv rfl
  have g1 := evt_take (l := p.es) (k := k) hlt
  have g2 := evts_len p.es
  have c1 : (k : Int) < (p.es.length : Int) := by omega
  have c3 : k * 6 + 6 ≤ p.es.length * 6 := by omega
  have w1 := w_add1 (k := k) (by omega)
  have VA := valid_fn (p.es.getD k default).sg
  have E0 : rgtS (p.es.getD k default).sg = false → evtE p k = 20 := fun h => by rw [evtE, if_pos (.inl h)]
  have E1 : k = 0 ∧ (p.es.getD k default).sg.v = 0 → evtE p k = 20 := fun h => by rw [evtE, if_pos (.inr h)]
  have E2 := evtE_ok (p := p) (k := k)
  have hat2 : evtE p k ≠ 0 → chkP p = evtE p k := fun h => hat.out k hI.out hlt h
  have hst : ∀ i, evtE p k = 0 → i < k + 1 → evtE p i = 0 := fun i he hi => by
    by_cases e : i = k
    · subst e; exact he
    · exact hI.out i (by omega)
  have S := fun s last => pstop_fn p hs.out k hlt s last
  have hsn := hs.out.e k hlt
  have hlt0 := Hid.mk hlt
  have hmn0 := Hid.mk hmn
  replace S := Hid.mk S
  replace hat2 := Hid.mk hat2
  replace hst := Hid.mk hst
  clear hI hlt hk hat hok
  generalize p.es.getD k default = x at *
  obtain ⟨bb, ⟨v, d, tt⟩, ti, ss⟩ := x
  dsimp only at E0 E1 E2 VA hsn
  cases hr : rgtS ⟨v, d, tt⟩ with
  | false =>
    have he := E0 hr
    have hz := hat2.out (by rw [he]; decide)
    rw [hz, he]
    rw [hr] at VA
    clear hz he hr E0 E1 E2
    repeat' (with_reducible first | refine x_ops ?_ | refine wk ?_ | (with_reducible refine xc (VA) ?_) | ((first | refine gd1 ?_ ?_ | refine gd2 ?_ ?_ | refine gd3 ?_ ?_) <;> (first | exact @False.elim _ | intro hc)))
    exact finV_lit vv rfl
  | true =>
  rw [hr] at VA
  by_cases hk0 : k = 0 ∧ v = 0
  · have he := E1 hk0
    have hz := hat2.out (by rw [he]; decide)
    rw [hz, he]
    obtain ⟨e1, e2⟩ := hk0
    subst e2
    obtain ⟨rfl, rfl⟩ := rgtS_zero hr
    have c4 : ((k : Int) == 0) = true := by rw [beq_iff_eq]; omega
    clear hz he hr E0 E1 E2 e1
    repeat' (with_reducible first | refine x_ops ?_ | simp only [go_sem, Nat.reduceAdd, Nat.reduceEqDiff, Nat.reduceLT, Nat.reduceLeDiff, Nat.reduceMul, Nat.reduceSub, Nat.reducePow, Nat.reduceDiv, Nat.reduceMod, Nat.reduceBEq, Int.reduceBEq, Int.reduceLT, reduceIte, tIs, tBs, tPs, Bool.true_and, *] | (with_reducible refine xc (VA) ?_) | ((first | refine gd1 ?_ ?_ | refine gd2 ?_ ?_ | refine gd3 ?_ ?_) <;> (first | exact @False.elim _ | intro hc)))
    exact finV_lit vv rfl
  have hE := E2 hr hk0
  have hsk : ((k : Int) == 0) = false ∨ ((k : Int) == 0) = true ∧ (v == 0) = false := by
    by_cases e : k = 0
    · exact .inr ⟨by rw [beq_iff_eq]; omega, by rw [beq_eq_false_iff_ne]; exact fun ev => hk0 ⟨e, ev⟩⟩
    · exact .inl (by rw [beq_eq_false_iff_ne]; omega)
  have ht21 : ti = true → (ss.length ≠ 0 ∨ k = 0) → evtE p k = 21 := fun h1 h2 => by rw [hE, if_pos ⟨h1, h2⟩]
  have htl : ¬ (ti = true ∧ (ss.length ≠ 0 ∨ k = 0)) → evtE p k = fstE (fun j => stpE p k (ss.getD j default) (lstC ss j)) ss.length := fun h => by rw [hE, if_neg h]
  clear hE E0 E1 E2 hr hk0
  have htie : ti = false ∨ ti = true ∧ ((k : Int) == 0) = true ∨ ti = true ∧ ((k : Int) == 0) = false ∧ (0 : Int) < (ss.length : Int) ∨ ti = true ∧ ((k : Int) == 0) = false ∧ ¬ (0 : Int) < (ss.length : Int) := by
    cases ti
    · exact .inl rfl
    · by_cases e : k = 0
      · exact .inr (.inl ⟨rfl, by rw [beq_iff_eq]; omega⟩)
      · by_cases e2 : (0 : Int) < (ss.length : Int)
        · exact .inr (.inr (.inl ⟨rfl, by rw [beq_eq_false_iff_ne]; omega, e2⟩))
        · exact .inr (.inr (.inr ⟨rfl, by rw [beq_eq_false_iff_ne]; omega, e2⟩))
  replace ht21 := Hid.mk ht21
  replace htl := Hid.mk htl
  replace hsk := Hid.mk hsk
  rcases htie with htie | ⟨htie, c5⟩ | ⟨htie, c5, c6⟩ | ⟨htie, c5, c6⟩
  rotate_left
  · have hz := hat2.out (by rw [ht21.out htie (.inr (by rw [beq_iff_eq] at c5; omega))]; decide)
    rw [ht21.out htie (.inr (by rw [beq_iff_eq] at c5; omega))] at hz
    rw [hz]
    rcases hsk.out with c4 | ⟨c4, c7⟩
    · rw [c5] at c4; cases c4
    clear hz
    repeat' (with_reducible first | refine x_ops ?_ | simp only [go_sem, Nat.reduceAdd, Nat.reduceEqDiff, Nat.reduceLT, Nat.reduceLeDiff, Nat.reduceMul, Nat.reduceSub, Nat.reducePow, Nat.reduceDiv, Nat.reduceMod, Nat.reduceBEq, Int.reduceBEq, Int.reduceLT, reduceIte, tIs, tBs, tPs, Bool.false_and, *] | (with_reducible refine xc (VA) ?_) | ((first | refine gd1 ?_ ?_ | refine gd2 ?_ ?_ | refine gd3 ?_ ?_) <;> (first | exact @False.elim _ | intro hc)))
    exact finV_lit vv rfl
  · have hz := hat2.out (by rw [ht21.out htie (.inl (by omega))]; decide)
    rw [ht21.out htie (.inl (by omega))] at hz
    rw [hz]
    clear hz
    repeat' (with_reducible first | refine x_ops ?_ | simp only [go_sem, Nat.reduceAdd, Nat.reduceEqDiff, Nat.reduceLT, Nat.reduceLeDiff, Nat.reduceMul, Nat.reduceSub, Nat.reducePow, Nat.reduceDiv, Nat.reduceMod, Nat.reduceBEq, Int.reduceBEq, Int.reduceLT, reduceIte, tIs, tBs, tPs, Bool.false_and, *] | (with_reducible refine xc (VA) ?_) | ((first | refine gd1 ?_ ?_ | refine gd2 ?_ ?_ | refine gd3 ?_ ?_) <;> (first | exact @False.elim _ | intro hc)))
    exact finV_lit vv rfl
  all_goals
    have hel := htl.out (by
      rintro ⟨a, b⟩
      first
        | (rw [htie] at a; cases a; done)
        | (rw [beq_eq_false_iff_ne] at c5; omega))
    rcases hsk.out with c4 | ⟨c4, c7⟩
    all_goals
      replace hel := Hid.mk hel
      clear hsk htl ht21
      repeat' (with_reducible first | refine x_ops ?_ | simp only [go_sem, Nat.reduceAdd, Nat.reduceEqDiff, Nat.reduceLT, Nat.reduceLeDiff, Nat.reduceMul, Nat.reduceSub, Nat.reducePow, Nat.reduceDiv, Nat.reduceMod, Nat.reduceBEq, Int.reduceBEq, Int.reduceLT, reduceIte, tIs, tBs, tPs, Bool.false_and, *] | (with_reducible refine xc (VA) ?_) | ((first | refine gd1 ?_ ?_ | refine gd2 ?_ ?_ | refine gd3 ?_ ?_) <;> (first | exact @False.elim _ | intro hc)))
      clear VA g1 g2 c3 htie
      refine x_loopW w_piece_Check_p12 kr ss.length (fun j t' m' => t' 57 = vint j ∧ t' 6 = vint (lstC ss j) ∧ (m'.obj 0 = some (.box [.sl p.ins.cs.length (p.ins.cs.flatMap Crs.cells) .no, .sl p.ins.st.length (p.ins.st.map vint) .no, .sl p.es.length (p.es.flatMap Evt.cells) .no] 49) ∧ 0 < m'.next) ∧ ∀ i, i < j → stpE p k (ss.getD i default) (lstC ss i) = 0) ?_ ?_
      · refine ⟨vv, vv, ⟨?_, ?_⟩, fun i hi => by omega⟩
        · (simp only [put_obj]; repeat rw [if_neg (by omega)]); exact hm
        · show 0 < m.next + 6; omega
      clear hm hmn
      rintro j t1 m2 hj ⟨h57, h6, ⟨hm, hmn⟩, hI2⟩
      replace hI2 := Hid.mk hI2
      by_cases hlt2 : j < ss.length
      case neg =>
        have d1 : ¬ ((j : Int) < (ss.length : Int)) := by omega
        have hz : evtE p k = 0 := by rw [hel.out]; exact fstE_zero.2 fun i hi => hI2.out i (by omega)
        have hst2 := fun i => hst.out i hz
        replace hst2 := Hid.mk hst2
        clear hlt2 hj hz
        repeat' (with_reducible first | refine x_ops ?_ | refine wk ?_ | ((first | refine gd1 ?_ ?_ | refine gd2 ?_ ?_ | refine gd3 ?_ ?_) <;> (first | exact @False.elim _ | intro hc)))
        exact nx hlt0.out ⟨vv, ⟨hm, hmn⟩, hst2.out⟩
      have d1 : (j : Int) < (ss.length : Int) := by omega
      have g1 := stp_take (l := ss) (k := j) hlt2
      have g2 := stps_len ss
      have d3 : j * 5 + 5 ≤ ss.length * 5 := by omega
      have w2 := w_add1 (k := j) (by omega)
      have hco := lstC_succ ss j
      have SS := S.out (ss.getD j default) (lstC ss j)
      by_cases hz : stpE p k (ss.getD j default) (lstC ss j) = 0
      case neg =>
        have d4 : (stpE p k (ss.getD j default) (lstC ss j) == 0) = false := by rw [beq_eq_false_iff_ne]; exact hz
        have he : evtE p k = stpE p k (ss.getD j default) (lstC ss j) := by rw [hel.out]; exact fstE_at (f := fun j => stpE p k (ss.getD j default) (lstC ss j)) hI2.out hz hlt2
        have hzz := hat2.out (by rw [he]; exact hz)
        rw [hzz, he]
        generalize stpE p k (ss.getD j default) (lstC ss j) = e at *
        generalize ss.getD j default = s at *
        obtain ⟨a1, a2, a3, a4, a5⟩ := s
        clear hlt2 hj hz he hzz hco
        repeat' (with_reducible first | refine x_ops ?_ | refine wk ?_ | (with_reducible refine xc (SS) ?_) | ((first | refine gd1 ?_ ?_ | refine gd2 ?_ ?_ | refine gd3 ?_ ?_) <;> (first | exact @False.elim _ | intro hc)))
        exact finV_lit vv rfl
      have hlt20 := Hid.mk hlt2
      have hI3 : ∀ i, i < j + 1 → stpE p k (ss.getD i default) (lstC ss i) = 0 := fun i hi => by
        by_cases e : i = j
        · subst e; exact hz
        · exact hI2.out i (by omega)
      rw [hz] at SS
      replace hI3 := Hid.mk hI3
      replace hco := Hid.mk hco
      clear hlt2 hj hz
      generalize hsd : ss.getD j default = s at *
      replace hsd := Hid.mk hsd
      obtain ⟨a1, a2, a3, a4, a5⟩ := s
      repeat' (with_reducible first | refine x_ops ?_ | refine wk ?_ | (with_reducible refine xc (SS) ?_) | ((first | refine gd1 ?_ ?_ | refine gd2 ?_ ?_ | refine gd3 ?_ ?_) <;> (first | exact @False.elim _ | intro hc)))
      refine nx hlt20.out ⟨vv, ?_, ⟨?_, ?_⟩, hI3.out⟩
      · rw [hco.out]; exact vv
      · (simp only [put_obj]; repeat rw [if_neg (by omega)]); exact hm
      · show 0 < m2.next + 4; omega
end Go.Proofs.YtdefefeifcdogaaGreat
namespace Go.Proofs.YtdefefeifcdogaaGreat
open Go.RowKit
set_option linter.unusedSimpArgs false
set_option linter.unusedVariables false

def noP : Pce := ⟨⟨[], []⟩, []⟩
end Go.Proofs.YtdefefeifcdogaaGreat
namespace Go.Proofs.YtdefefeifcdogaaGreat
open Go.RowKit
set_option linter.unusedSimpArgs false
set_option linter.unusedVariables false

theorem chkI_small {x : Ins} (h : chkI x = 0) : x.cs.length ≤ 14 ∧ x.st.length ≤ 18 ∧ 0 < x.cs.length ∧ stB x.st = true ∧ ∀ i, i < x.cs.length → crsE x.st (x.cs.getD i default) = 0 := by
  unfold chkI at h
  split at h
  · cases h
  · split at h
    · cases h
    · split at h
      · rename_i h1 h2 h3
        exact ⟨by omega, by omega, by omega, h3, firE_zero h⟩
      · cases h
theorem lchk_zero {f : Lf} (h : lchk f = 0) : chkI f.ins = 0 ∧ f.cols.length ≤ 400 ∧ ColsOk f := by
  unfold lchk at h
  split at h
  · rename_i h1; exact absurd h h1
  · split at h
    · cases h
    · split at h
      · rename_i h1 h2 h3
        exact ⟨by omega, by omega, h3⟩
      · cases h
end Go.Proofs.YtdefefeifcdogaaGreat
namespace Go.Proofs.YtdefefeifcdogaaGreat
open Go.RowKit
set_option linter.unusedSimpArgs false
set_option linter.unusedVariables false

theorem stp_zero {p : Pce} {i : Nat} {s : Stp} {last : Int} (h : stpE p i s last = 0) : (1 ≤ s.co ∧ s.co ≤ p.ins.cs.length) ∧ (0 ≤ s.fr ∧ s.fr ≤ (p.ins.cs.getD (s.co - 1).toNat default).f) ∧ last < s.co ∧ ((0 ≤ s.ri ∧ s.ri ≤ 3) ∧ 0 ≤ s.gr ∧ s.gr ≤ 4) ∧ (0 ≤ s.ho ∧ s.ho ≤ lgst p i s.co) ∧ (s.fr = 0 → s.ho = 0) := by
  unfold stpE at h
  split at h
  · cases h
  · split at h
    · cases h
    · split at h
      · cases h
      · split at h
        · cases h
        · split at h
          · cases h
          · omega
structure EvOk (p : Pce) (i : Nat) (x : Evt) : Prop where
  sg : rgtS x.sg = true
  s0 : i = 0 → x.sg.v ≠ 0
  tie : x.tie = true → x.ss.length = 0 ∧ i ≠ 0
  st : ∀ j, j < x.ss.length → stpE p i (x.ss.getD j default) (lstC x.ss j) = 0
theorem evt_zero {p : Pce} {i : Nat} (h : evtE p i = 0) : EvOk p i (p.es.getD i default) := by
  unfold evtE at h
  split at h
  · cases h
  · rename_i h1
    split at h
    · cases h
    · rename_i h2
      refine ⟨?_, fun e ev => h1 (.inr ⟨e, ev⟩), fun ht => ?_, fstE_zero.1 h⟩
      · cases hr : rgtS (p.es.getD i default).sg with
        | true => rfl
        | false => exact absurd (.inl hr) h1
      · constructor
        · exact Decidable.byContradiction fun hl => h2 ⟨ht, .inl hl⟩
        · exact fun e => h2 ⟨ht, .inr e⟩
theorem EvOk.co {p : Pce} {i : Nat} {x : Evt} (h : EvOk p i x) : ∀ j, j < x.ss.length → (j + 1 : Int) ≤ (x.ss.getD j default).co
  | 0, hj => by have := (stp_zero (h.st 0 hj)).1.1; omega
  | j + 1, hj => by
    have h1 := h.co j (by omega)
    have h2 := (stp_zero (h.st (j + 1) hj)).2.2.1
    rw [lstC_succ] at h2
    omega
theorem EvOk.len {p : Pce} {i : Nat} {x : Evt} (h : EvOk p i x) : x.ss.length ≤ p.ins.cs.length := by
  rcases Nat.eq_zero_or_pos x.ss.length with h0 | h0
  · omega
  · have h1 := h.co (x.ss.length - 1) (by omega)
    have h2 := (stp_zero (h.st (x.ss.length - 1) (by omega))).1.2
    omega
structure PcOk (p : Pce) : Prop where
  i : chkI p.ins = 0
  n : p.es.length ≤ 400
  e : ∀ i, i < p.es.length → EvOk p i (p.es.getD i default)
  l : ∀ i, i < p.es.length → (p.es.getD i default).ss.length ≤ 14
  c : p.ins.cs.length ≤ 14
  s : p.ins.st.length ≤ 18
theorem PcOk.of {p : Pce} (h : chkP p = 0) : PcOk p := by
  obtain ⟨h1, h2, h3⟩ := chkP_zero h
  obtain ⟨h4, h5, _⟩ := chkI_small h1
  exact ⟨h1, h2, fun i hi => evt_zero (h3 i hi), fun i hi => by have := (evt_zero (h3 i hi)).len; omega, h4, h5⟩
theorem clones_fn (l : List Stp) (hl : l.length ≤ 1099511627776) : Fn Tryz.prog Gd 157 [tL Stp.cells l] (tL Stp.cells l) := by
  refine Fn.of_vx0 k_slices_Clone_api_Stop_api_Stop (by simp) (by rw [V.pures, pure_tL]; rfl) ?_
  unfold c_slices_Clone_api_Stop_api_Stop tL
  repeat' (with_reducible first | refine x_ops ?_ | refine wk ?_ | ((first | refine gd1 ?_ ?_ | refine gd2 ?_ ?_ | refine gd3 ?_ ?_) <;> (first | exact @False.elim _ | intro hc)))
  refine x_eqN (by exact vw) ?_
  intro b hb
  cases b
  · repeat' (with_reducible first | refine x_ops ?_ | refine wk ?_ | ((first | refine gd1 ?_ ?_ | refine gd2 ?_ ?_ | refine gd3 ?_ ?_) <;> (first | exact @False.elim _ | intro hc)))
    refine x_appE (xs := []) (n := 0) vw vw rfl (stps_len l) (by omega) (by unfold Go.maxLen; omega) ?_
    repeat' (with_reducible first | refine x_ops ?_ | refine wk ?_ | ((first | refine gd1 ?_ ?_ | refine gd2 ?_ ?_ | refine gd3 ?_ ?_) <;> (first | exact @False.elim _ | intro hc)))
    exact finV_ret vv (.sl _ _ _)
  · have hl0 : l = [] := by cases l with
      | nil => rfl
      | cons a l => exact absurd (hb (by simp [Stp.cells])) (by simp)
    subst hl0
    repeat' (with_reducible first | refine x_ops ?_ | refine wk ?_ | ((first | refine gd1 ?_ ?_ | refine gd2 ?_ ?_ | refine gd3 ?_ ?_) <;> (first | exact @False.elim _ | intro hc)))
    exact finV_ret vv (.sl _ _ _)
theorem pcopied_fn (x : Evt) (hl : x.ss.length ≤ 1099511627776) : Fn Tryz.prog Gd 174 [x.val] x.val := by
  refine Fn.of_vx0 k_piece_copied (by simp) (by rw [V.pures, pure_evt]; rfl) ?_
  have C := clones_fn x.ss hl
  obtain ⟨b, ⟨v, d, t⟩, ti, ss⟩ := x
  dsimp only at C
  clear hl
  unfold c_piece_copied
  repeat' (with_reducible first | refine x_ops ?_ | refine wk ?_ | (with_reducible refine xc (C) ?_) | ((first | refine gd1 ?_ ?_ | refine gd2 ?_ ?_ | refine gd3 ?_ ?_) <;> (first | exact @False.elim _ | intro hc)))
  exact finV_ret vv (.agg (.cons (.lit _) (.cons (.lit _) (.cons (.lit _) (.cons (.lit _) (.cons (.lit _) (.cons (.sl _ _ _) .nil)))))))
theorem copiedIns_fn (x : Ins) (h1 : x.cs.length ≤ 1099511627776) (h2 : x.st.length ≤ 1099511627776) : Fn Tryz.prog Gd 171 [x.val] x.val := by
  refine Fn.of_vx0 k_piece_copiedInstrument (by simp) (by rw [V.pures, pure_ins]; rfl) ?_
  have A := clonec_fn x.cs h1
  have B := clone_fn x.st h2
  unfold c_piece_copiedInstrument
  repeat' (with_reducible first | refine x_ops ?_ | refine wk ?_ | (with_reducible refine xc (A) ?_) | (with_reducible refine xc (B) ?_) | ((first | refine gd1 ?_ ?_ | refine gd2 ?_ ?_ | refine gd3 ?_ ?_) <;> (first | exact @False.elim _ | intro hc)))
  exact finV_ret vv (.agg (.cons (.sl _ _ _) (.cons (.sl _ _ _) .nil)))
/-- A call gives an event with another sign, and leaves that sign in a box. -/
def P1Post (m : Mm) (b : Nat) (x : Evt) (f : Sg) (r : V) (m' : Mm) : Prop := r = .agg [vbool x.bar, vint f.v, vbool f.d, vbool f.t, vbool x.tie, .sl x.ss.length (x.ss.flatMap Stp.cells) .no] ∧ m'.obj b = some (.box f.cells 110) ∧ (∀ q, q < m.next → q ≠ b → m'.obj q = m.obj q) ∧ m.next ≤ m'.next
theorem P1Post.ne {m : Mm} {b : Nat} (hb : b < m.next) (x : Evt) (f : Sg) : ∃ r m', P1Post m b x f r m' :=
  ⟨_, m.put b (.box f.cells 110), rfl, if_pos rfl, fun q _ hq => if_neg hq, Nat.le_refl _⟩
theorem plain1_sfn {m : Mm} {b : Nat} (x : Evt) (g f : Sg) (hb : b < m.next) (ho : m.obj b = some (.box g.cells 110)) (hf : f = if x.sg.v ≠ 0 then x.sg else g) (hr : rgtS x.sg = true) :
    SFn Tryz.prog Gd 112 [x.val, .ptr b 0] m (P1Post m b x f) := by
  refine SFn.of_vxS k_piece_Plain_1 (by simp) ?_
  unfold c_piece_Plain_1
  obtain ⟨bb, ⟨v, d, t⟩, ti, ss⟩ := x
  obtain ⟨g1, g2, g3⟩ := g
  dsimp only at hf hr
  have n1 : ¬ b = m.next := by omega
  have n2 : ¬ b = m.next + 1 := by omega
  have n3 : ¬ m.next = b := by omega
  have n4 : ¬ m.next + 1 = b := by omega
  have n5 : b < m.next + 2 := by omega
  have hb0 := Hid.mk hb
  clear hb
  by_cases h0 : v = 0
  · subst h0
    obtain ⟨rfl, rfl⟩ := rgtS_zero hr
    rw [if_neg (by simp)] at hf
    subst hf
    clear hr
    repeat' (with_reducible first | refine x_ops ?_ | simp only [go_sem, Nat.reduceAdd, Nat.reduceEqDiff, Nat.reduceLT, Nat.reduceLeDiff, Nat.reduceMul, Nat.reduceSub, Nat.reducePow, Nat.reduceDiv, Nat.reduceMod, Nat.reduceBEq, Int.reduceBEq, Int.reduceLT, reduceIte, tIs, tBs, tPs, Bool.true_and, Bool.and_self, *] | ((first | refine gd1 ?_ ?_ | refine gd2 ?_ ?_ | refine gd3 ?_ ?_) <;> (first | exact @False.elim _ | intro hc)))
    refine finS_ret vv ⟨rfl, ?_, fun q hq hqb => ?_, ?_⟩
    · (simp only [put_obj]; repeat rw [if_neg (by omega)]); exact ho
    · have := hb0.out
      simp only [put_obj]
      repeat rw [if_neg (by omega)]
    · show m.next ≤ m.next + 2; omega
  · rw [if_pos h0] at hf
    subst hf
    have c1 : (v == 0) = false := by rw [beq_eq_false_iff_ne]; exact h0
    clear hr h0
    repeat' (with_reducible first | refine x_ops ?_ | simp only [go_sem, Nat.reduceAdd, Nat.reduceEqDiff, Nat.reduceLT, Nat.reduceLeDiff, Nat.reduceMul, Nat.reduceSub, Nat.reducePow, Nat.reduceDiv, Nat.reduceMod, Nat.reduceBEq, Int.reduceBEq, Int.reduceLT, reduceIte, tIs, tBs, tPs, Bool.false_and, *] | ((first | refine gd1 ?_ ?_ | refine gd2 ?_ ?_ | refine gd3 ?_ ?_) <;> (first | exact @False.elim _ | intro hc)))
    refine finS_ret vv ⟨rfl, ?_, fun q hq hqb => ?_, ?_⟩
    · have := hb0.out
      simp only [put_obj]
      repeat rw [if_neg (by omega)]
      rw [if_pos trivial]
      rfl
    · have := hb0.out
      simp only [put_obj]
      repeat rw [if_neg (by omega)]
    · show m.next ≤ m.next + 2; omega
end Go.Proofs.YtdefefeifcdogaaGreat
namespace Go.Proofs.YtdefefeifcdogaaGreat
open Go.RowKit
set_option linter.unusedSimpArgs false
set_option linter.unusedVariables false

theorem rewr1_sfn {m : Mm} {b c : Nat} (x : Evt) (g f : Sg) (hb : b < m.next) (hcb : c < m.next) (ho : m.obj b = some (.box g.cells 110)) (hc : m.obj c = some (.box [.fn 112 [.ptr b 0]] 164)) (hf : f = if x.sg.v ≠ 0 then x.sg else g) (hr : rgtS x.sg = true) (hl : x.ss.length ≤ 1099511627776) :
    SFn Tryz.prog Gd 173 [x.val, .ptr c 0] m (P1Post m b x f) := by
  refine SFn.of_vxS k_piece_rewritten_1 (by simp) ?_
  have C := pcopied_fn x hl
  have K := fun (m' : Mm) h1 h2 => plain1_sfn (m := m') (b := b) x g f h1 h2 hf hr
  unfold c_piece_rewritten_1
  obtain ⟨bb, ⟨v, d, t⟩, ti, ss⟩ := x
  have n1 : ¬ c = m.next := by omega
  have n2 : ¬ c = m.next + 1 := by omega
  have n3 : ¬ m.next = c := by omega
  have n4 : ¬ m.next + 1 = c := by omega
  have n5 : c < m.next + 2 := by omega
  have n6 : m.next < m.next + 2 := by omega
  have hb0 := Hid.mk hb
  replace ho := Hid.mk ho
  replace K := Hid.mk K
  clear hb hcb hf hr hl
  repeat' (with_reducible first | refine x_ops ?_ | refine wk ?_ | (with_reducible refine xc (C) ?_) | ((first | refine gd1 ?_ ?_ | refine gd2 ?_ ?_ | refine gd3 ?_ ?_) <;> (first | exact @False.elim _ | intro hc)))
  refine x_callv (f := 112) (cs := [.ptr b 0]) vw kr (K.out _ (by show b < m.next + 2; have := hb0.out; omega) (by
    have := hb0.out
    simp only [put_obj]
    repeat rw [if_neg (by omega)]
    exact ho.out)) (P1Post.ne (by show b < m.next + 2; have := hb0.out; omega) _ _) ?_
  rintro r m' ⟨rfl, q1, q2, q3⟩
  replace q3 : m.next + 2 ≤ m'.next := q3
  have q4 : m'.obj (m.next + 1) = some (.box [vbool false, vint 0, vbool false, vbool false, vbool false, .sl 0 [] .exact] 136) := by
    have := hb0.out
    rw [q2 (m.next + 1) (by show m.next + 1 < m.next + 2; omega) (by omega)]
    exact if_pos rfl
  have q5 : ∀ q, q < m.next → q ≠ b → m'.obj q = m.obj q := fun q h1 h2 => by
    rw [q2 q (by show q < m.next + 2; omega) h2]
    simp only [put_obj]
    repeat rw [if_neg (by omega)]
  replace q1 := Hid.mk q1
  replace q5 := Hid.mk q5
  clear q2
  repeat' (with_reducible first | refine x_ops ?_ | refine wk ?_ | ((first | refine gd1 ?_ ?_ | refine gd2 ?_ ?_ | refine gd3 ?_ ?_) <;> (first | exact @False.elim _ | intro hc)))
  refine finS_ret vv ⟨rfl, ?_, fun q hq hqb => ?_, ?_⟩
  · have := hb0.out
    simp only [put_obj]
    rw [if_neg (by omega)]
    exact q1.out
  · have := hb0.out
    simp only [put_obj]
    rw [if_neg (by omega)]
    exact q5.out q hq hqb
  · show m.next ≤ m'.next; omega
/-- A row of events, all else but a box as it was. -/
def MpPost (m : Mm) (b : Nat) (es : List Evt) (r : V) (m' : Mm) : Prop := ∃ tok, r = .sl es.length ((plnE es es.length).flatMap Evt.cells) tok ∧ (∀ q, q < m.next → q ≠ b → m'.obj q = m.obj q) ∧ m.next ≤ m'.next
theorem frc_succ (l : List Evt) (k : Nat) : frc l (k + 1) = if (l.getD k default).sg.v ≠ 0 then (l.getD k default).sg else frc l k := rfl
set_option maxHeartbeats 1000000 in
theorem mapped_sfn {m : Mm} {b c : Nat} (es : List Evt) (hb : b < m.next) (hcb : c < m.next) (hbc : c ≠ b) (ho : m.obj b = some (.box [vint 0, vbool false, vbool false] 110)) (hc : m.obj c = some (.box [.fn 112 [.ptr b 0]] 164))
    (hn : es.length ≤ 400) (hr : ∀ i, i < es.length → rgtS (es.getD i default).sg = true) (hl : ∀ i, i < es.length → (es.getD i default).ss.length ≤ 14) :
    SFn Tryz.prog Gd 172 [tL Evt.cells es, .fn 173 [.ptr c 0]] m (MpPost m b es) := by
  refine SFn.of_vxS k_piece_mapped_api_Event (by simp) ?_
  unfold c_piece_mapped_api_Event
  replace hr := Hid.mk hr
  replace hl := Hid.mk hl
  have hb0 := Hid.mk hb
  have hcb0 := Hid.mk hcb
  have hc0 := Hid.mk hc
  have ho0 := Hid.mk ho
  clear hb hcb ho hc
  repeat' (with_reducible first | refine x_ops ?_ | refine wk ?_ | ((first | refine gd1 ?_ ?_ | refine gd2 ?_ ?_ | refine gd3 ?_ ?_) <;> (first | exact @False.elim _ | intro hc)))
  refine x_loopW w_piece_mapped_api_Event_p5 kr es.length (fun k t m' => t 10 = vint k ∧ (m'.obj b = some (.box (frc es k).cells 110) ∧ m'.obj c = some (.box [.fn 112 [.ptr b 0]] 164) ∧ (∀ q, q < m.next → q ≠ b → m'.obj q = m.obj q) ∧ m.next ≤ m'.next) ∧ ∃ tok, t 5 = .sl k ((plnE es k).flatMap Evt.cells) tok ∧ Apb m' tok k 136 6 ∧ ∀ q, tok = .own q → m.next ≤ q) ?_ ?_
  · exact ⟨vv, ⟨ho0.out, hc0.out, fun _ _ _ => rfl, Nat.le_refl _⟩, .exact, vv, .inl rfl, fun q e => by cases e⟩
  rintro k t m1 hk ⟨h10, ⟨hob, hoc, hfr, hnx⟩, tok, h5, hap, htk⟩
  replace htk := Hid.mk htk
  replace hap := Hid.mk hap
  replace hfr := Hid.mk hfr
  by_cases hlt : k < es.length
  case neg =>
    have c1 : ¬ ((k : Int) < (es.length : Int)) := by omega
    have hkl : k = es.length := by omega
    subst hkl
    clear hlt hk
    repeat' (with_reducible first | refine x_ops ?_ | refine wk ?_ | ((first | refine gd1 ?_ ?_ | refine gd2 ?_ ?_ | refine gd3 ?_ ?_) <;> (first | exact @False.elim _ | intro hc)))
    exact finS_ret vv ⟨tok, rfl, hfr.out, hnx⟩
  have g1 := evt_take (l := es) (k := k) hlt
  have g2 := evts_len es
  have c1 : (k : Int) < (es.length : Int) := by omega
  have c3 : k * 6 + 6 ≤ es.length * 6 := by omega
  have w1 := w_add1 (k := k) (by omega)
  have hfs := frc_succ es k
  have hps := plnE_succ es k
  have hrk := hr.out k hlt
  have hlk := hl.out k hlt
  have hlt0 := Hid.mk hlt
  have hsl : ((plnE es k).flatMap Evt.cells).length = k * 6 := by rw [evts_len, plnE_len]
  generalize hf1 : frc es (k + 1) = f at *
  generalize frc es k = g at *
  have K := fun (m' : Mm) h1 h2 h3 h4 => rewr1_sfn (m := m') (b := b) (c := c) (es.getD k default) g f h1 h2 h3 h4 hfs hrk (by omega)
  generalize es.getD k default = x at *
  generalize hP9 : plnE es (k + 1) = P9 at *
  generalize plnE es k = P8 at *
  replace hP9 := Hid.mk hP9
  obtain ⟨bb, ⟨v, d, tt⟩, ti, ss⟩ := x
  replace K := Hid.mk K
  replace hps := Hid.mk hps
  replace hsl := Hid.mk hsl
  replace hf1 := Hid.mk hf1
  have hn0 := Hid.mk hn
  replace hob := Hid.mk hob
  replace hoc := Hid.mk hoc
  clear hlt hk hfs hrk hlk hn
  repeat' (with_reducible first | refine x_ops ?_ | refine wk ?_ | ((first | refine gd1 ?_ ?_ | refine gd2 ?_ ?_ | refine gd3 ?_ ?_) <;> (first | exact @False.elim _ | intro hc)))
  have hb1 := hb0.out
  have hc1 := hcb0.out
  refine x_callv (f := 173) (cs := [.ptr c 0]) vw kr (K.out _ (by show b < m1.next + 11; omega) (by show c < m1.next + 11; omega) (by
    simp only [put_obj]
    repeat rw [if_neg (by omega)]
    exact hob.out) (by
    simp only [put_obj]
    repeat rw [if_neg (by omega)]
    exact hoc.out)) (P1Post.ne (by show b < m1.next + 11; omega) _ _) ?_
  rintro r m2 ⟨rfl, q1, q2, q3⟩
  replace q3 : m1.next + 11 ≤ m2.next := q3
  have q5 : ∀ q, q < m1.next → q ≠ b → m2.obj q = m1.obj q := fun q h1 h2 => by
    rw [q2 q (by show q < m1.next + 11; omega) h2]
    simp only [put_obj]
    repeat rw [if_neg (by omega)]
  have hap2 : Apb m2 tok k 136 6 := hap.out.keep (by omega) fun q hq e => q5 q hq fun e2 => by
    subst e2
    exact absurd e (hap.out.box hob.out)
  have hoc2 : m2.obj c = some (.box [.fn 112 [.ptr b 0]] 164) := (q5 c (by omega) hbc).trans hoc.out
  have hfr2 : ∀ q, q < m.next → q ≠ b → m2.obj q = m.obj q := fun q h1 h2 => (q5 q (by omega) h2).trans (hfr.out q h1 h2)
  replace q1 := Hid.mk q1
  replace hap2 := Hid.mk hap2
  replace hoc2 := Hid.mk hoc2
  replace hfr2 := Hid.mk hfr2
  clear q2 q5
  repeat' (with_reducible first | refine x_ops ?_ | refine wk ?_ | ((first | refine gd1 ?_ ?_ | refine gd2 ?_ ?_ | refine gd3 ?_ ?_) <;> (first | exact @False.elim _ | intro hc)))
  refine x_appc (n := k) (xs := P8.flatMap Evt.cells) (j := 1) (ys := [vbool bb, vint f.v, vbool f.d, vbool f.t, vbool ti, .sl ss.length (ss.flatMap Stp.cells) .no]) (k := tok) (k2 := .exact) vw vw hap2.out hsl.out rfl (by have := hlt0.out; have := hn0.out; omega) (by have := hlt0.out; have := hn0.out; unfold Go.maxLen; omega) (by show m1.next + 9 < m2.next; omega) ?_
  intro tok3 m3 hap3 hn3 hf3 hq3
  have hnn : m3.next = m2.next := hn3
  have old : ∀ q cs t, m2.obj q = some (.box cs t) → q < m1.next → m3.obj q = some (.box cs t) := fun q cs t h h1 => (hf3 q (by show ¬ q = m1.next + 9; omega) (hap2.out.box h)).trans h
  have a1 := old _ _ _ q1.out (by omega)
  have a2 := old _ _ _ hoc2.out (by omega)
  have a3 : ∀ q, q < m.next → q ≠ b → m3.obj q = m.obj q := fun q h1 h2 => by
    exact (hf3 q (by show ¬ q = m1.next + 9; omega) fun e => by have := htk.out q e; omega).trans (hfr2.out q h1 h2)
  have htk3 : ∀ q, tok3 = .own q → m.next ≤ q := fun q e => by
    rcases hq3 q e with h | h
    · have h' : q = m1.next + 9 := h
      omega
    · exact htk.out q h
  replace htk3 := Hid.mk htk3
  replace hap3 := Hid.mk hap3
  replace a1 := Hid.mk a1
  replace a3 := Hid.mk a3
  replace a2 := Hid.mk a2
  clear hf3 hq3 old
  repeat' (with_reducible first | refine x_ops ?_ | refine wk ?_ | ((first | refine gd1 ?_ ?_ | refine gd2 ?_ ?_ | refine gd3 ?_ ?_) <;> (first | exact @False.elim _ | intro hc)))
  refine nx hlt0.out ⟨vv, ⟨?_, a2.out, a3.out, by show m.next ≤ m2.next; omega⟩, tok3, ?_, hap3.out.mono (fun _ _ _ => rfl) (by show m3.next ≤ m2.next; omega), htk3.out⟩
  · rw [hf1.out]; exact a1.out
  · rw [hP9.out, hps.out, List.flatMap_append]; exact vv
/-- A piece, and whether it went well; all else but a box as it was. -/
def RwPost (m : Mm) (b : Nat) (p : Pce) (r : V) (m' : Mm) : Prop := (∀ q, q < m.next → q ≠ b → m'.obj q = m.obj q) ∧ if chkP p ≠ 0 then r = .tup [.agg [.sl 0 [] .exact, .sl 0 [] .exact, .sl 0 [] .exact], vint (chkP p)] else
  ∃ tok, r = .tup [.agg [.sl p.ins.cs.length (p.ins.cs.flatMap Crs.cells) .no, .sl p.ins.st.length (p.ins.st.map vint) .no, .sl p.es.length ((plnE p.es p.es.length).flatMap Evt.cells) tok], vint 0]
theorem rewr_sfn {m : Mm} {b : Nat} (p : Pce) (hs : PcSm p) (hb : b < m.next) (ho : m.obj b = some (.box [vint 0, vbool false, vbool false] 110)) :
    SFn Tryz.prog Gd 108 [p.val, .fn 112 [.ptr b 0]] m (RwPost m b p) := by
  refine SFn.of_vxS k_piece_rewritten (by simp) ?_
  have K := pcheck_fn p hs
  unfold c_piece_rewritten
  by_cases h0 : chkP p = 0
  case neg =>
    have c1 : (chkP p == 0) = false := by rw [beq_eq_false_iff_ne]; exact h0
    have hq : ∀ r m', RwPost m b p r m' ↔ (∀ q, q < m.next → q ≠ b → m'.obj q = m.obj q) ∧ r = .tup [.agg [.sl 0 [] .exact, .sl 0 [] .exact, .sl 0 [] .exact], vint (chkP p)] := fun r m' => by rw [RwPost, if_pos h0]
    replace hq := Hid.mk hq
    clear h0 hs ho hb
    repeat' (with_reducible first | refine x_ops ?_ | refine wk ?_ | (with_reducible refine xc (K) ?_) | ((first | refine gd1 ?_ ?_ | refine gd2 ?_ ?_ | refine gd3 ?_ ?_) <;> (first | exact @False.elim _ | intro hc)))
    refine finS_ret vv ((hq.out _ _).2 ⟨fun q h1 h2 => ?_, rfl⟩)
    simp only [put_obj]
    repeat rw [if_neg (by omega)]
  have c1 : (chkP p == 0) = true := by rw [h0]; rfl
  have ok := PcOk.of h0
  have hq : ∀ r m', RwPost m b p r m' ↔ (∀ q, q < m.next → q ≠ b → m'.obj q = m.obj q) ∧ ∃ tok, r = .tup [.agg [.sl p.ins.cs.length (p.ins.cs.flatMap Crs.cells) .no, .sl p.ins.st.length (p.ins.st.map vint) .no, .sl p.es.length ((plnE p.es p.es.length).flatMap Evt.cells) tok], vint 0] := fun r m' => by rw [RwPost, if_neg (by omega)]
  have C := copiedIns_fn p.ins (by have := ok.c; omega) (by have := ok.s; omega)
  have MP := fun (m' : Mm) c h1 h2 h3 h4 h5 => mapped_sfn (m := m') (b := b) (c := c) p.es h1 h2 h3 h4 h5 ok.n (fun i hi => (ok.e i hi).sg) ok.l
  replace hq := Hid.mk hq
  replace MP := Hid.mk MP
  replace ho := Hid.mk ho
  have hb0 := Hid.mk hb
  have n3 : m.next + 4 + 4 < m.next + 4 + 6 := by omega
  clear h0 hs ok hb
  repeat' (with_reducible first | refine x_ops ?_ | refine wk ?_ | (with_reducible refine xc (K) ?_) | (with_reducible refine xc (C) ?_) | ((first | refine gd1 ?_ ?_ | refine gd2 ?_ ?_ | refine gd3 ?_ ?_) <;> (first | exact @False.elim _ | intro hc)))
  have hbb := hb0.out
  refine x_scallR [tL Evt.cells p.es, .fn 173 [.ptr (m.next + 1) 0]] vw (MP.out _ _ (by show b < m.next + 10; omega) (by show m.next + 1 < m.next + 10; omega) (by omega) (by
    simp only [put_obj]
    repeat rw [if_neg (by omega)]
    exact ho.out) (by
    simp only [put_obj]
    repeat rw [if_neg (by omega)]
    first
      | rw [if_pos rfl]
      | rw [if_pos trivial])) ⟨_, _, .exact, rfl, fun _ _ _ => rfl, Nat.le_refl _⟩ ?_
  rintro r m2 ⟨tok, rfl, q2, q3⟩
  replace q3 : m.next + 10 ≤ m2.next := q3
  have q8 := q2 (m.next + 8) (by show m.next + 8 < m.next + 10; omega) (by omega)
  have q4 := q2 (m.next + 2) (by show m.next + 2 < m.next + 10; omega) (by omega)
  have q5 : ∀ q, q < m.next → q ≠ b → m2.obj q = m.obj q := fun q h1 h2 => by
    rw [q2 q (by show q < m.next + 10; omega) h2]
    simp only [put_obj]
    repeat rw [if_neg (by omega)]
  replace q5 := Hid.mk q5
  clear q2
  simp only [put_obj] at q8 q4
  rw [if_pos trivial] at q8
  rw [if_neg (by omega), if_neg (by omega), if_pos trivial] at q4
  repeat' (with_reducible first | refine x_ops ?_ | refine wk ?_ | ((first | refine gd1 ?_ ?_ | refine gd2 ?_ ?_ | refine gd3 ?_ ?_) <;> (first | exact @False.elim _ | intro hc)))
  refine finS_ret vv ((hq.out _ _).2 ⟨fun q h1 h2 => ?_, tok, rfl⟩)
  simp only [put_obj]
  repeat rw [if_neg (by omega)]
  exact q5.out q h1 h2
/-- What Plain answers. -/
noncomputable def plnR (p : Pce) : Pce × Int := if chkP p ≠ 0 then (noP, chkP p) else (plnP p, 0)
theorem pplain_fn (p : Pce) (hs : PcSm p) : Fn Tryz.prog Gd 47 [p.val] (.tup [(plnR p).1.val, vint (plnR p).2]) := by
  refine Fn.of_vx0 k_piece_Plain (by simp) (by rw [V.pures, pure_pce]; rfl) ?_
  have K := fun (m : Mm) h1 h2 => rewr_sfn (m := m) (b := 4) p hs h1 h2
  replace K := Hid.mk K
  unfold c_piece_Plain
  repeat' (with_reducible first | refine x_ops ?_ | refine wk ?_ | ((first | refine gd1 ?_ ?_ | refine gd2 ?_ ?_ | refine gd3 ?_ ?_) <;> (first | exact @False.elim _ | intro hc)))
  refine x_scallR [p.val, .fn 112 [.ptr 4 0]] vw (K.out _ (by show 4 < 6; omega) vv) ?_ ?_
  · by_cases h0 : chkP p = 0
    · exact ⟨_, _, fun _ _ _ => rfl, by rw [if_neg (by omega)]; exact ⟨.exact, rfl⟩⟩
    · exact ⟨_, _, fun _ _ _ => rfl, by rw [if_pos h0]⟩
  rintro r m2 ⟨q1, q2⟩
  have q3 := q1 1 (by show 1 < 6; omega) (by omega)
  simp only [put_obj] at q3
  clear q1
  by_cases h0 : chkP p = 0
  · rw [if_neg (by omega)] at q2
    obtain ⟨tok, rfl⟩ := q2
    have hq : plnR p = (plnP p, 0) := by rw [plnR, if_neg (by omega)]
    have hl := plnE_len p.es p.es.length
    rw [hq]
    clear hq h0
    have q4 : m2.obj 1 = some (.box [.sl 0 [] .exact, .sl 0 [] .exact, .sl 0 [] .exact] 49) := q3
    clear q3
    repeat' (with_reducible first | refine x_ops ?_ | refine wk ?_ | ((first | refine gd1 ?_ ?_ | refine gd2 ?_ ?_ | refine gd3 ?_ ?_) <;> (first | exact @False.elim _ | intro hc)))
    refine finV_ret vv ?_
    rw [show (plnP p).es = plnE p.es p.es.length from rfl, hl]
    exact .tup (.cons (.agg (.cons (.sl _ _ _) (.cons (.sl _ _ _) (.cons (.sl _ _ _) .nil)))) (.cons (.lit _) .nil))
  · rw [if_pos h0] at q2
    subst q2
    have hq : plnR p = (noP, chkP p) := by rw [plnR, if_pos h0]
    rw [hq]
    clear hq h0
    have q4 : m2.obj 1 = some (.box [.sl 0 [] .exact, .sl 0 [] .exact, .sl 0 [] .exact] 49) := q3
    clear q3
    repeat' (with_reducible first | refine x_ops ?_ | refine wk ?_ | ((first | refine gd1 ?_ ?_ | refine gd2 ?_ ?_ | refine gd3 ?_ ?_) <;> (first | exact @False.elim _ | intro hc)))
    refine finV_ret vv ?_
    exact .tup (.cons (.agg (.cons (.sl _ _ _) (.cons (.sl _ _ _) (.cons (.sl _ _ _) .nil)))) (.cons (.lit _) .nil))
end Go.Proofs.YtdefefeifcdogaaGreat
