/- Functions of the program, as code on values by numbers: printed by a program from the program that was given, and held against it here. Valid pieces, pieces in plain, the leaf of a piece: in plain. Nothing is run here. Rests, what is plucked, how long a note may be held: of both. Valid signs, stops, events and pieces: of the program. Check of pieces: of the program. A leaf with one reading: in plain. Nothing is run here. Piece of the reference. Plain of the program: a piece with every sign written. Plain of the program, the rest of it. Of of the program. Copy, Forces and Plain of the reference. A leaf is the same as itself; the law LeafOf, if the look at the example says true. Shapes of leaves: of the program. One leaf inside another one, and Reads: of the program. Reads of both, and the law LeafReads, if the look at the example says true. Two leaves that fit one another, Within of both; what rows have in common. What rows of numbers have in common. Bare of the program: a piece without marks, ornaments and holds. A leaf made of two, by pure functions. Meet of the program. Onsets of the program: a loop over a function. Meet of the program, the walk. -/
import Derived.Test.YtdefefeifcdogaaGreatG0
import Derived.Test.YtdefefeifcdogaaGreatWk
import Derived.Test.YtdefefeifcdogaaGreatR03
import Derived.Test.YtdefefeifcdogaaGreatVr
set_option linter.unusedSimpArgs false
set_option linter.unusedVariables false
namespace Go.Proofs.YtdefefeifcdogaaGreat
open Go.RowKit
set_option maxRecDepth 100000

abbrev c_piece_Check_p1 : VC := (.seq (.ops 0 [oo 15 .mv [.t 3], oo 2 .mv [.t 15]]) .ret)
abbrev c_piece_Check_p2 : VC := (.seq (.ops 0 [oo 13 .mv [.t 3], oo 14 (.bin .neq) [.t 13, kk 0]]) (.cond (.t 14) c_piece_Check_p1 .skip))
abbrev c_piece_Check_p3 : VC := (.seq (.ops 0 [oo 2 .mv [kk 2]]) .ret)
abbrev c_piece_Check_p4 : VC := (.seq (.ops 0 [oo 2 .mv [kk 20]]) .ret)
abbrev c_piece_Check_p5 : VC := (.seq (.ops 0 [oo 2 .mv [kk 21]]) .ret)
abbrev c_piece_Check_p6 : VC := (.seq (.ops 0 [oo 68 .mv [.t 9], oo 2 .mv [.t 68]]) .ret)
abbrev c_piece_Check_p7 : VC := (.seq (.ops 0 [oo 66 .mv [.t 9], oo 67 (.bin .neq) [.t 66, kk 0]]) (.cond (.t 67) c_piece_Check_p6 .skip))
abbrev c_piece_Check_p8 : VC := (.ops 0 [oo 69 (.fldA 0) [.t 8], oo 70 .ld1 [.t 69], oo 6 .mv [.t 70]])
abbrev c_piece_Check_p9 : VC := (.seq (.seq (.ops 0 [oo 61 (.ldA 3) [.t 1], oo 62 .mv [.t 4], oo 63 (.ldA 5) [.t 8], oo 64 .mv [.t 6], oo 65 (.call 221) [.t 61, .t 62, .t 63, .t 64], oo 9 .mv [.t 65]]) c_piece_Check_p7) c_piece_Check_p8)
abbrev c_piece_Check_p10 : VC := (.ops 0 [oo 71 (.bin .add) [.t 57, kk 1], oo 57 .mv [.t 71]])
abbrev c_piece_Check_p11 : VC := (.seq (.block 3 (.seq (.ops 4 [oo 59 (.ixA 5) [.t 55, .t 57], oo 60 (.ldA 5) [.t 59], oo 8 (.alloc 152 [li 0, li 0, li 0, li 0, li 0]) [], ⟨none, none, (.st 5), [.t 8, .t 60], none⟩]) c_piece_Check_p9)) c_piece_Check_p10)
abbrev c_piece_Check_p12 : VC := (.seq (.ops 0 [oo 58 (.bin .lss) [.t 57, .t 56]]) (.seq (.cond (.t 58) .skip (.exit 2)) c_piece_Check_p11))
@[go_sem] abbrev w_piece_Check_p12 : Nat := 4722222367681569358660
abbrev c_piece_Check_p14 : VC := (.seq (.ops 0 [oo 54 (.fldA 5) [.t 5], oo 55 .ld1 [.t 54], oo 56 .len [.t 55], oo 57 .mv [kk 0]]) (.block 2 (.loop c_piece_Check_p12)))
abbrev c_piece_Check_p15 : VC := (.seq (.ops 0 [oo 6 .mv [kk 0]]) c_piece_Check_p14)
abbrev c_piece_Check_p16 : VC := (.seq (.seq (.ops 0 [oo 42 (.fldA 4) [.t 5], oo 43 .ld1 [.t 42], oo 44 .mv [.t 43], og 45 44 true .mv [.t 4], og 46 44 true (.bin .eql) [.t 45, kk 0], og 47 44 true .mv [.t 46], og 48 47 false (.fldA 5) [.t 5], og 49 47 false .ld1 [.t 48], og 50 47 false .len [.t 49], og 51 47 false (.bin .gtr) [.t 50, kk 0], og 52 44 true .pick [.t 47, (.c (.lit (.bool true))), .t 51], oo 53 .pick [.t 44, .t 52, (.c (.lit (.bool false)))]]) (.cond (.t 53) c_piece_Check_p5 .skip)) c_piece_Check_p15)
abbrev c_piece_Check_p17 : VC := (.seq (.seq (.ops 0 [oo 28 (.fldA 1) [.t 5], oo 29 (.ldA 3) [.t 28], oo 30 (.call 220) [.t 29], oo 31 (.un .not) [.t 30], oo 32 .mv [.t 31], og 33 32 false .mv [.t 4], og 34 32 false (.bin .eql) [.t 33, kk 0], og 35 32 false .mv [.t 34], og 36 35 true (.fldA 1) [.t 5], og 37 35 true (.ldA 3) [.t 36], og 38 35 true (.build [li 0, (.lit (.bool false)), (.lit (.bool false))] []) [], og 39 35 true (.eqP [(0, 0), (1, 1), (2, 1)] false) [.t 37, .t 38], og 40 32 false .pick [.t 35, .t 39, (.c (.lit (.bool false)))], oo 41 .pick [.t 32, (.c (.lit (.bool true))), .t 40]]) (.cond (.t 41) c_piece_Check_p4 .skip)) c_piece_Check_p16)
abbrev c_piece_Check_p18 : VC := (.ops 0 [oo 72 (.bin .add) [.t 23, kk 1], oo 23 .mv [.t 72]])
abbrev c_piece_Check_p19 : VC := (.seq (.block 1 (.seq (.ops 6 [oo 25 .mv [.t 23], oo 26 (.ixA 6) [.t 21, .t 23], oo 27 (.ldA 6) [.t 26], ⟨(some 5), none, (.alloc 136 [(.lit (.bool false)), li 0, (.lit (.bool false)), (.lit (.bool false)), (.lit (.bool false)), (.sl 0 [] .exact)]), [], none⟩, oo 4 .mv [.t 25], ⟨none, none, (.st 6), [.t 5, .t 27], none⟩]) c_piece_Check_p17)) c_piece_Check_p18)
abbrev c_piece_Check_p20 : VC := (.seq (.ops 0 [oo 24 (.bin .lss) [.t 23, .t 22]]) (.seq (.cond (.t 24) .skip (.exit 0)) c_piece_Check_p19))
@[go_sem] abbrev w_piece_Check_p20 : Nat := 9444732965739282039668
abbrev c_piece_Check_p22 : VC := (.seq (.ops 0 [oo 2 .mv [kk 0]]) .ret)
abbrev c_piece_Check_p23 : VC := (.seq (.seq (.ops 0 [oo 20 (.fldA 2) [.t 1], oo 21 .ld1 [.t 20], oo 22 .len [.t 21], oo 23 .mv [kk 0]]) (.block 0 (.loop c_piece_Check_p20))) c_piece_Check_p22)
abbrev c_piece_Check_p24 : VC := (.seq (.seq (.ops 0 [oo 16 (.fldA 2) [.t 1], oo 17 .ld1 [.t 16], oo 18 .len [.t 17], oo 19 (.bin .gtr) [.t 18, kk 400]]) (.cond (.t 19) c_piece_Check_p3 .skip)) c_piece_Check_p23)
abbrev c_piece_Check_p25 : VC := (.seq (.seq (.ops 0 [oo 10 (.fldA 0) [.t 1], oo 11 (.ldA 2) [.t 10], oo 12 (.call 71) [.t 11], oo 3 .mv [.t 12]]) c_piece_Check_p2) c_piece_Check_p24)
def c_piece_Check : VC := (.seq (.ops 2 [oo 1 (.box 49) [.t 0], oo 2 .mv [kk 0]]) c_piece_Check_p25)
theorem k_piece_Check : Comp Tryz.prog nobx gtab 169 73 c_piece_Check [.t 2] := ⟨⟨Tryz.f169, _, Tryz.func169, rfl, rfl, kr, kr⟩⟩
abbrev c_piece_checkStop_p1 : VC := (.seq (.ops 0 [oo 8 .mv [kk 12]]) .ret)
abbrev c_piece_checkStop_p2 : VC := (.seq (.ops 0 [oo 8 .mv [kk 13]]) .ret)
abbrev c_piece_checkStop_p3 : VC := (.seq (.ops 0 [oo 8 .mv [kk 22]]) .ret)
abbrev c_piece_checkStop_p4 : VC := (.seq (.ops 0 [oo 8 .mv [kk 23]]) .ret)
abbrev c_piece_checkStop_p5 : VC := (.seq (.ops 0 [oo 8 .mv [kk 24]]) .ret)
abbrev c_piece_checkStop_p6 : VC := (.seq (.ops 0 [oo 65 (.fldA 4) [.t 6], oo 66 .ld1 [.t 65], oo 67 (.bin .lss) [.t 66, kk 0], oo 68 .mv [.t 67], og 69 68 false (.fldA 4) [.t 6], ⟨(some 70), (some (68, false)), .ld1, [.t 69], (some [0, 1, 2, 3, 4])⟩, ⟨(some 71), (some (68, false)), (.ldA 3), [.t 4], (some [0, 1, 2, 3])⟩, og 72 68 false .mv [.t 1], og 73 68 false (.fldA 0) [.t 6], ⟨(some 74), (some (68, false)), .ld1, [.t 73], (some [0, 1, 2, 3, 8])⟩, ⟨(some 75), (some (68, false)), (.call 261), [.t 71, .t 72, .t 74], (some [0, 1, 2, 3, 6, 7, 8, 9])⟩, og 76 68 false (.bin .gtr) [.t 70, .t 75], oo 77 .pick [.t 68, (.c (.lit (.bool true))), .t 76], oo 78 .mv [.t 77], og 79 78 false (.fldA 4) [.t 6], og 80 78 false .ld1 [.t 79], og 81 78 false (.bin .gtr) [.t 80, kk 0], og 82 78 false .mv [.t 81], og 83 82 true (.fldA 1) [.t 6], og 84 82 true .ld1 [.t 83], og 85 82 true (.bin .eql) [.t 84, kk 0], og 86 78 false .pick [.t 82, .t 85, (.c (.lit (.bool false)))], oo 87 .pick [.t 78, (.c (.lit (.bool true))), .t 86], oo 64 .mv [.t 87]]) (.cond (.t 64) c_piece_checkStop_p5 .skip))
abbrev c_piece_checkStop_p7 : VC := (.seq (.ops 0 [oo 46 (.fldA 2) [.t 6], oo 47 .ld1 [.t 46], oo 48 (.bin .lss) [.t 47, kk 0], oo 49 .mv [.t 48], og 50 49 false (.fldA 2) [.t 6], og 51 49 false .ld1 [.t 50], og 52 49 false (.bin .gtr) [.t 51, kk 3], oo 53 .pick [.t 49, (.c (.lit (.bool true))), .t 52], oo 54 .mv [.t 53], og 55 54 false (.fldA 3) [.t 6], og 56 54 false .ld1 [.t 55], og 57 54 false (.bin .lss) [.t 56, kk 0], oo 58 .pick [.t 54, (.c (.lit (.bool true))), .t 57], oo 59 .mv [.t 58], og 60 59 false (.fldA 3) [.t 6], og 61 59 false .ld1 [.t 60], og 62 59 false (.bin .gtr) [.t 61, kk 4], oo 63 .pick [.t 59, (.c (.lit (.bool true))), .t 62], oo 45 .mv [.t 63]]) (.cond (.t 45) c_piece_checkStop_p4 c_piece_checkStop_p6))
abbrev c_piece_checkStop_p8 : VC := (.seq (.ops 0 [oo 41 (.fldA 0) [.t 6], oo 42 .ld1 [.t 41], oo 43 .mv [.t 3], oo 44 (.bin .leq) [.t 42, .t 43], oo 40 .mv [.t 44]]) (.cond (.t 40) c_piece_checkStop_p3 c_piece_checkStop_p7))
abbrev c_piece_checkStop_p9 : VC := (.seq (.ops 0 [oo 23 (.fldA 1) [.t 6], oo 24 .ld1 [.t 23], oo 25 (.bin .lss) [.t 24, kk 0], oo 26 .mv [.t 25], og 27 26 false (.fldA 1) [.t 6], ⟨(some 28), (some (26, false)), .ld1, [.t 27], (some [0, 1, 2, 3, 4])⟩, og 29 26 false (.fldA 0) [.t 4], og 30 26 false (.fldA 0) [.t 29], ⟨(some 31), (some (26, false)), .ld1, [.t 30], (some [0, 1, 2, 3, 6, 7])⟩, og 32 26 false (.fldA 0) [.t 6], ⟨(some 33), (some (26, false)), .ld1, [.t 32], (some [0, 1, 2, 3, 9])⟩, og 34 26 false (.bin .sub) [.t 33, kk 1], og 35 26 false (.ixA 3) [.t 31, .t 34], og 36 26 false (.fldA 1) [.t 35], ⟨(some 37), (some (26, false)), .ld1, [.t 36], (some [0, 1, 2, 3, 6, 7, 8, 9, 10, 11, 12, 13])⟩, og 38 26 false (.bin .gtr) [.t 28, .t 37], oo 39 .pick [.t 26, (.c (.lit (.bool true))), .t 38], oo 22 .mv [.t 39]]) (.cond (.t 22) c_piece_checkStop_p2 c_piece_checkStop_p8))
abbrev c_piece_checkStop_p10 : VC := (.seq (.ops 0 [oo 8 .mv [kk 0]]) .ret)
abbrev c_piece_checkStop_p11 : VC := (.seq (.block 0 (.seq (.ops 0 [oo 10 (.fldA 0) [.t 6], oo 11 .ld1 [.t 10], oo 12 (.bin .lss) [.t 11, kk 1], oo 13 .mv [.t 12], og 14 13 false (.fldA 0) [.t 6], og 15 13 false .ld1 [.t 14], og 16 13 false (.fldA 0) [.t 4], og 17 13 false (.fldA 0) [.t 16], og 18 13 false .ld1 [.t 17], og 19 13 false .len [.t 18], og 20 13 false (.bin .gtr) [.t 15, .t 19], oo 21 .pick [.t 13, (.c (.lit (.bool true))), .t 20], oo 9 .mv [.t 21]]) (.cond (.t 9) c_piece_checkStop_p1 c_piece_checkStop_p9))) c_piece_checkStop_p10)
def c_piece_checkStop : VC := (.seq (.ops 3 [oo 4 (.box 49) [.t 0], oo 6 (.box 152) [.t 2], oo 8 .mv [kk 0]]) c_piece_checkStop_p11)
theorem k_piece_checkStop : Comp Tryz.prog nobx gtab 221 88 c_piece_checkStop [.t 8] := ⟨⟨Tryz.f221, _, Tryz.func221, rfl, rfl, kr, kr⟩⟩
abbrev c_piece_Longest_p1 : VC := (.seq (.ops 0 [oo 6 .mv [kk 0]]) .ret)
abbrev c_piece_Longest_p2 : VC := (.ops 0 [oo 40 .mv [.t 7], oo 41 (.bin .add) [.t 40, kk 1], oo 7 .mv [.t 41]])
abbrev c_piece_Longest_p3 : VC := (.seq (.seq (.ops 0 [oo 29 .mv [.t 7], oo 30 (.bin .eql) [.t 29, kk 15], oo 31 .mv [.t 30], og 32 31 false (.ldA 6) [.t 9], og 33 31 false (.call 316) [.t 32], oo 34 .pick [.t 31, (.c (.lit (.bool true))), .t 33], oo 35 .mv [.t 34], og 36 35 false (.ldA 6) [.t 9], og 37 35 false .mv [.t 2], og 38 35 false (.call 317) [.t 36, .t 37], oo 39 .pick [.t 35, (.c (.lit (.bool true))), .t 38]]) (.cond (.t 39) (.exit 0) .skip)) c_piece_Longest_p2)
abbrev c_piece_Longest_p4 : VC := (.ops 0 [oo 42 (.bin .add) [.t 25, kk 1], oo 25 .mv [.t 42]])
abbrev c_piece_Longest_p5 : VC := (.seq (.block 1 (.seq (.ops 4 [oo 27 (.ixA 6) [.t 23, .t 25], oo 28 (.ldA 6) [.t 27], ⟨(some 9), none, (.alloc 136 [(.lit (.bool false)), li 0, (.lit (.bool false)), (.lit (.bool false)), (.lit (.bool false)), (.sl 0 [] .exact)]), [], none⟩, ⟨none, none, (.st 6), [.t 9, .t 28], none⟩]) c_piece_Longest_p3)) c_piece_Longest_p4)
abbrev c_piece_Longest_p6 : VC := (.seq (.ops 0 [oo 26 (.bin .lss) [.t 25, .t 24]]) (.seq (.cond (.t 26) .skip (.exit 0)) c_piece_Longest_p5))
@[go_sem] abbrev w_piece_Longest_p6 : Nat := 8796059468416
abbrev c_piece_Longest_p8 : VC := (.seq (.ops 0 [oo 43 .mv [.t 7], oo 6 .mv [.t 43]]) .ret)
abbrev c_piece_Longest_p9 : VC := (.seq (.seq (.ops 0 [oo 19 (.fldA 2) [.t 3], oo 20 .ld1 [.t 19], oo 21 .mv [.t 1], oo 22 (.bin .add) [.t 21, kk 1], oo 23 (.slc 6 true false) [.t 20, .t 22], oo 24 .len [.t 23], oo 25 .mv [kk 0]]) (.block 0 (.loop c_piece_Longest_p6))) c_piece_Longest_p8)
abbrev c_piece_Longest_p10 : VC := (.seq (.ops 0 [oo 7 .mv [kk 0]]) c_piece_Longest_p9)
abbrev c_piece_Longest_p11 : VC := (.seq (.seq (.ops 0 [oo 10 .mv [.t 1], oo 11 (.bin .lss) [.t 10, kk 0], oo 12 .mv [.t 11], og 13 12 false .mv [.t 1], og 14 12 false (.fldA 2) [.t 3], og 15 12 false .ld1 [.t 14], og 16 12 false .len [.t 15], og 17 12 false (.bin .geq) [.t 13, .t 16], oo 18 .pick [.t 12, (.c (.lit (.bool true))), .t 17]]) (.cond (.t 18) c_piece_Longest_p1 .skip)) c_piece_Longest_p10)
def c_piece_Longest : VC := (.seq (.ops 2 [oo 3 (.box 49) [.t 0], oo 6 .mv [kk 0]]) c_piece_Longest_p11)
theorem k_piece_Longest : Comp Tryz.prog nobx gtab 261 44 c_piece_Longest [.t 6] := ⟨⟨Tryz.f261, _, Tryz.func261, rfl, rfl, kr, kr⟩⟩
abbrev c_piece_isRest_p1 : VC := (.seq (.ops 0 [oo 3 (.fldA 5) [.t 1], oo 4 .ld1 [.t 3], oo 5 .len [.t 4], oo 6 (.bin .eql) [.t 5, kk 0], oo 7 .mv [.t 6], og 8 7 true (.fldA 4) [.t 1], og 9 7 true .ld1 [.t 8], og 10 7 true (.un .not) [.t 9], oo 11 .pick [.t 7, .t 10, (.c (.lit (.bool false)))], oo 2 .mv [.t 11]]) .ret)
def c_piece_isRest : VC := (.seq (.ops 2 [oo 1 (.box 136) [.t 0], oo 2 .mv [(.c (.lit (.bool false)))]]) c_piece_isRest_p1)
theorem k_piece_isRest : Comp Tryz.prog nobx gtab 316 12 c_piece_isRest [.t 2] := ⟨⟨Tryz.f316, _, Tryz.func316, rfl, rfl, kr, kr⟩⟩
abbrev c_piece_plucks_1_p1 : VC := (.seq (.ops 0 [oo 4 (.fldA 0) [.t 2], oo 5 .ld1 [.t 4], oo 6 .ld1 [.t 1], oo 7 (.bin .eql) [.t 5, .t 6], oo 3 .mv [.t 7]]) .ret)
def c_piece_plucks_1 : VC := (.seq (.ops 2 [oo 2 (.box 152) [.t 0], oo 3 .mv [(.c (.lit (.bool false)))]]) c_piece_plucks_1_p1)
theorem k_piece_plucks_1 : Comp Tryz.prog nobx gtab 346 8 c_piece_plucks_1 [.t 3] := ⟨⟨Tryz.f346, _, Tryz.func346, rfl, rfl, kr, kr⟩⟩
abbrev c_slices_ContainsFunc_api_Stop_api_Stop_p1 : VC := (.seq (.ops 0 [oo 5 .mv [.t 0], oo 6 .mv [.t 1], oo 7 (.call 232) [.t 5, .t 6], oo 8 (.bin .geq) [.t 7, kk 0], oo 4 .mv [.t 8]]) .ret)
def c_slices_ContainsFunc_api_Stop_api_Stop : VC := (.seq (.ops 0 [oo 4 .mv [(.c (.lit (.bool false)))]]) c_slices_ContainsFunc_api_Stop_api_Stop_p1)
theorem k_slices_ContainsFunc_api_Stop_api_Stop : Comp Tryz.prog nobx gtab 188 9 c_slices_ContainsFunc_api_Stop_api_Stop [.t 4] := ⟨⟨Tryz.f188, _, Tryz.func188, rfl, rfl, kr, kr⟩⟩
abbrev c_slices_IndexFunc_api_Stop_api_Stop_p1 : VC := (.seq (.ops 0 [oo 17 .mv [.t 5], oo 4 .mv [.t 17]]) .ret)
abbrev c_slices_IndexFunc_api_Stop_api_Stop_p2 : VC := (.cond (.t 16) c_slices_IndexFunc_api_Stop_api_Stop_p1 .skip)
abbrev c_slices_IndexFunc_api_Stop_api_Stop_p3 : VC := (.seq (.ops 0 [oo 11 .mv [.t 1], oo 12 .mv [.t 0], oo 13 .mv [.t 5], oo 14 (.ixA 5) [.t 12, .t 13], oo 15 (.ldA 5) [.t 14], oo 16 .callv [.t 11, .t 15]]) c_slices_IndexFunc_api_Stop_api_Stop_p2)
abbrev c_slices_IndexFunc_api_Stop_api_Stop_p4 : VC := (.ops 0 [oo 18 (.bin .add) [.t 8, kk 1], oo 8 .mv [.t 18]])
abbrev c_slices_IndexFunc_api_Stop_api_Stop_p5 : VC := (.seq (.block 1 (.seq (.ops 0 [oo 10 .mv [.t 8], oo 5 .mv [.t 10]]) c_slices_IndexFunc_api_Stop_api_Stop_p3)) c_slices_IndexFunc_api_Stop_api_Stop_p4)
abbrev c_slices_IndexFunc_api_Stop_api_Stop_p6 : VC := (.seq (.cond (.t 9) .skip (.exit 0)) c_slices_IndexFunc_api_Stop_api_Stop_p5)
abbrev c_slices_IndexFunc_api_Stop_api_Stop_p7 : VC := (.seq (.ops 0 [oo 9 (.bin .lss) [.t 8, .t 7]]) c_slices_IndexFunc_api_Stop_api_Stop_p6)
@[go_sem] abbrev w_slices_IndexFunc_api_Stop_api_Stop_p7 : Nat := 524080
abbrev c_slices_IndexFunc_api_Stop_api_Stop_p9 : VC := (.seq (.ops 0 [oo 4 .mv [kk (-1)]]) .ret)
abbrev c_slices_IndexFunc_api_Stop_api_Stop_p10 : VC := (.seq (.seq (.ops 0 [oo 6 .mv [.t 0], oo 7 .len [.t 6], oo 8 .mv [kk 0]]) (.block 0 (.loop c_slices_IndexFunc_api_Stop_api_Stop_p7))) c_slices_IndexFunc_api_Stop_api_Stop_p9)
def c_slices_IndexFunc_api_Stop_api_Stop : VC := (.seq (.ops 0 [oo 4 .mv [kk 0]]) c_slices_IndexFunc_api_Stop_api_Stop_p10)
theorem k_slices_IndexFunc_api_Stop_api_Stop : Comp Tryz.prog nobx gtab 232 19 c_slices_IndexFunc_api_Stop_api_Stop [.t 4] := ⟨⟨Tryz.f232, _, Tryz.func232, rfl, rfl, kr, kr⟩⟩
abbrev c_piece_valid_p1 : VC := (.seq (.ops 0 [oo 3 (.ldA 3) [.t 1], oo 4 (.build [li 0, (.lit (.bool false)), (.lit (.bool false))] []) [], oo 5 (.eqP [(0, 0), (1, 1), (2, 1)] false) [.t 3, .t 4], oo 6 .mv [.t 5], og 7 6 false (.ldA 3) [.t 1], og 8 6 false (.call 146) [.t 7], og 9 6 false (.bin .gtr) [.t 8, kk 0], oo 10 .pick [.t 6, (.c (.lit (.bool true))), .t 9], oo 2 .mv [.t 10]]) .ret)
def c_piece_valid : VC := (.seq (.ops 2 [oo 1 (.box 110) [.t 0], oo 2 .mv [(.c (.lit (.bool false)))]]) c_piece_valid_p1)
theorem k_piece_valid : Comp Tryz.prog nobx gtab 220 11 c_piece_valid [.t 2] := ⟨⟨Tryz.f220, _, Tryz.func220, rfl, rfl, kr, kr⟩⟩
abbrev c_piece_rewritten_p1 : VC := (.seq (.ops 0 [⟨(some 12), none, (.build [(.sl 0 [] .exact), (.sl 0 [] .exact), (.sl 0 [] .exact)] []), [], none⟩, oo 13 .mv [.t 6], ⟨none, none, (.st 3), [.t 4, .t 12], none⟩, oo 5 .mv [.t 13]]) .ret)
abbrev c_piece_rewritten_p2 : VC := (.seq (.ops 0 [oo 10 .mv [.t 6], oo 11 (.bin .neq) [.t 10, kk 0]]) (.cond (.t 11) c_piece_rewritten_p1 .skip))
abbrev c_piece_rewritten_p3 : VC := (.seq (.ops 0 [oo 23 (.ldA 3) [.t 7], ⟨none, none, (.st 3), [.t 4, .t 23], none⟩, oo 5 .mv [kk 0]]) .ret)
abbrev c_piece_rewritten_p4 : VC := (.seq (.ops 0 [oo 18 (.fldA 2) [.t 2], oo 19 .ld1 [.t 18], oo 20 (.mkfn 173) [.t 3], oo 21 (.call 172) [.t 19, .t 20], oo 22 (.fldA 2) [.t 7], ⟨none, none, (.st 1), [.t 22, .t 21], none⟩]) c_piece_rewritten_p3)
abbrev c_piece_rewritten_p5 : VC := (.seq (.ops 6 [oo 14 (.fldA 0) [.t 2], oo 15 (.ldA 2) [.t 14], oo 16 (.call 171) [.t 15], ⟨(some 17), none, (.build [(.sl 0 [] .exact), (.sl 0 [] .exact), (.sl 0 [] .exact)] [(0, 2)]), [.t 16], none⟩, ⟨(some 7), none, (.alloc 49 [(.sl 0 [] .exact), (.sl 0 [] .exact), (.sl 0 [] .exact)]), [], none⟩, ⟨none, none, (.st 3), [.t 7, .t 17], none⟩]) c_piece_rewritten_p4)
abbrev c_piece_rewritten_p6 : VC := (.seq (.seq (.ops 0 [oo 8 (.ldA 3) [.t 2], oo 9 (.call 169) [.t 8], oo 6 .mv [.t 9]]) c_piece_rewritten_p2) c_piece_rewritten_p5)
def c_piece_rewritten : VC := (.seq (.ops 4 [oo 2 (.box 49) [.t 0], oo 3 (.box 164) [.t 1], ⟨(some 4), none, (.alloc 49 [(.sl 0 [] .exact), (.sl 0 [] .exact), (.sl 0 [] .exact)]), [], none⟩, oo 5 .mv [kk 0]]) c_piece_rewritten_p6)
theorem k_piece_rewritten : Comp Tryz.prog nobx gtab 108 24 c_piece_rewritten [(.c 4 3 true), .t 5] := ⟨⟨Tryz.f108, _, Tryz.func108, rfl, rfl, kr, kr⟩⟩
abbrev c_piece_mapped_api_Event_p1 : VC := (.ops 7 [oo 14 .mv [.t 5], oo 15 .mv [.t 1], oo 16 (.ldA 6) [.t 7], oo 17 .callv [.t 15, .t 16], ⟨(some 18), none, (.mksl 1 6 [(.lit (.bool false)), li 0, (.lit (.bool false)), (.lit (.bool false)), (.lit (.bool false)), (.sl 0 [] .exact)] [(0, 6)]), [.t 17], none⟩, oo 19 (.app 136 6 56) [.t 14, .t 18], oo 5 .mv [.t 19]])
abbrev c_piece_mapped_api_Event_p2 : VC := (.ops 0 [oo 20 (.bin .add) [.t 10, kk 1], oo 10 .mv [.t 20]])
abbrev c_piece_mapped_api_Event_p3 : VC := (.seq (.block 1 (.seq (.ops 4 [oo 12 (.ixA 6) [.t 8, .t 10], oo 13 (.ldA 6) [.t 12], ⟨(some 7), none, (.alloc 136 [(.lit (.bool false)), li 0, (.lit (.bool false)), (.lit (.bool false)), (.lit (.bool false)), (.sl 0 [] .exact)]), [], none⟩, ⟨none, none, (.st 6), [.t 7, .t 13], none⟩]) c_piece_mapped_api_Event_p1)) c_piece_mapped_api_Event_p2)
abbrev c_piece_mapped_api_Event_p4 : VC := (.seq (.cond (.t 11) .skip (.exit 0)) c_piece_mapped_api_Event_p3)
abbrev c_piece_mapped_api_Event_p5 : VC := (.seq (.ops 0 [oo 11 (.bin .lss) [.t 10, .t 9]]) c_piece_mapped_api_Event_p4)
@[go_sem] abbrev w_piece_mapped_api_Event_p5 : Nat := 2096288
abbrev c_piece_mapped_api_Event_p7 : VC := (.seq (.ops 0 [oo 21 .mv [.t 5], oo 4 .mv [.t 21]]) .ret)
abbrev c_piece_mapped_api_Event_p8 : VC := (.seq (.seq (.ops 0 [oo 8 .mv [.t 0], oo 9 .len [.t 8], oo 10 .mv [kk 0]]) (.block 0 (.loop c_piece_mapped_api_Event_p5))) c_piece_mapped_api_Event_p7)
abbrev c_piece_mapped_api_Event_p9 : VC := (.seq (.ops 0 [oo 5 .mv [(.c (.sl 0 [] .exact))]]) c_piece_mapped_api_Event_p8)
def c_piece_mapped_api_Event : VC := (.seq (.ops 0 [oo 4 .mv [(.c (.sl 0 [] .exact))]]) c_piece_mapped_api_Event_p9)
theorem k_piece_mapped_api_Event : Comp Tryz.prog nobx gtab 172 22 c_piece_mapped_api_Event [.t 4] := ⟨⟨Tryz.f172, _, Tryz.func172, rfl, rfl, kr, kr⟩⟩
abbrev c_piece_rewritten_1_p1 : VC := (.seq (.ops 0 [od 4 .ld1 [.t 1] [], od 5 (.ldA 6) [.t 2] [], od 6 (.call 174) [.t 5] [1], oo 7 .callv [.t 4, .t 6], ⟨none, none, (.st 6), [.t 3, .t 7], none⟩]) .ret)
def c_piece_rewritten_1 : VC := (.seq (.ops 2 [oo 2 (.box 136) [.t 0], ⟨(some 3), none, (.alloc 136 [(.lit (.bool false)), li 0, (.lit (.bool false)), (.lit (.bool false)), (.lit (.bool false)), (.sl 0 [] .exact)]), [], none⟩]) c_piece_rewritten_1_p1)
theorem k_piece_rewritten_1 : Comp Tryz.prog nobx gtab 173 8 c_piece_rewritten_1 [(.c 3 6 true)] := ⟨⟨Tryz.f173, _, Tryz.func173, rfl, rfl, kr, kr⟩⟩
abbrev c_piece_copied_p1 : VC := (.seq (.ops 0 [oo 7 (.ldA 6) [.t 1], ⟨none, none, (.st 6), [.t 2, .t 7], none⟩]) .ret)
abbrev c_piece_copied_p2 : VC := (.seq (.ops 0 [oo 3 (.fldA 5) [.t 1], oo 4 .ld1 [.t 3], oo 5 (.call 157) [.t 4], oo 6 (.fldA 5) [.t 1], ⟨none, none, (.st 1), [.t 6, .t 5], none⟩]) c_piece_copied_p1)
def c_piece_copied : VC := (.seq (.ops 2 [oo 1 (.box 136) [.t 0], ⟨(some 2), none, (.alloc 136 [(.lit (.bool false)), li 0, (.lit (.bool false)), (.lit (.bool false)), (.lit (.bool false)), (.sl 0 [] .exact)]), [], none⟩]) c_piece_copied_p2)
theorem k_piece_copied : Comp Tryz.prog nobx gtab 174 8 c_piece_copied [(.c 2 6 true)] := ⟨⟨Tryz.f174, _, Tryz.func174, rfl, rfl, kr, kr⟩⟩
abbrev c_piece_copiedInstrument_p1 : VC := (.seq (.ops 0 [oo 3 (.fldA 0) [.t 1], od 4 .ld1 [.t 3] [0], od 5 (.call 134) [.t 4] [0, 1], oo 6 (.fldA 1) [.t 1], od 7 .ld1 [.t 6] [3], oo 8 (.call 135) [.t 7], ⟨(some 9), none, (.build [(.sl 0 [] .exact), (.sl 0 [] .exact)] [(0, 1), (1, 1)]), [.t 5, .t 8], none⟩, ⟨none, none, (.st 2), [.t 2, .t 9], none⟩]) .ret)
def c_piece_copiedInstrument : VC := (.seq (.ops 2 [oo 1 (.box 25) [.t 0], ⟨(some 2), none, (.alloc 25 [(.sl 0 [] .exact), (.sl 0 [] .exact)]), [], none⟩]) c_piece_copiedInstrument_p1)
theorem k_piece_copiedInstrument : Comp Tryz.prog nobx gtab 171 10 c_piece_copiedInstrument [(.c 2 2 true)] := ⟨⟨Tryz.f171, _, Tryz.func171, rfl, rfl, kr, kr⟩⟩
abbrev c_piece_Plain_p1 : VC := (.seq (.ops 0 [oo 6 (.ldA 3) [.t 1], oo 7 (.mkfn 112) [.t 4], oo 8 (.call 108) [.t 6, .t 7], oo 9 (.ext 0) [.t 8], oo 10 (.ext 1) [.t 8], ⟨none, none, (.st 3), [.t 2, .t 9], none⟩, oo 3 .mv [.t 10]]) .ret)
abbrev c_piece_Plain_p2 : VC := (.seq (.ops 3 [oo 5 (.build [li 0, (.lit (.bool false)), (.lit (.bool false))] []) [], oo 4 (.alloc 110 [li 0, (.lit (.bool false)), (.lit (.bool false))]) [], ⟨none, none, (.st 3), [.t 4, .t 5], none⟩]) c_piece_Plain_p1)
def c_piece_Plain : VC := (.seq (.ops 3 [oo 1 (.box 49) [.t 0], ⟨(some 2), none, (.alloc 49 [(.sl 0 [] .exact), (.sl 0 [] .exact), (.sl 0 [] .exact)]), [], none⟩, oo 3 .mv [kk 0]]) c_piece_Plain_p2)
theorem k_piece_Plain : Comp Tryz.prog nobx gtab 47 11 c_piece_Plain [(.c 2 3 true), .t 3] := ⟨⟨Tryz.f47, _, Tryz.func47, rfl, rfl, kr, kr⟩⟩
abbrev c_piece_Plain_1_p1 : VC := (.ops 0 [oo 8 (.fldA 1) [.t 2], oo 9 (.ldA 3) [.t 8], ⟨none, none, (.st 3), [.t 1, .t 9], none⟩])
abbrev c_piece_Plain_1_p2 : VC := (.seq (.ops 0 [oo 12 (.ldA 6) [.t 2], ⟨none, none, (.st 6), [.t 3, .t 12], none⟩]) .ret)
abbrev c_piece_Plain_1_p3 : VC := (.seq (.ops 0 [oo 10 (.ldA 3) [.t 1], oo 11 (.fldA 1) [.t 2], ⟨none, none, (.st 3), [.t 11, .t 10], none⟩]) c_piece_Plain_1_p2)
abbrev c_piece_Plain_1_p4 : VC := (.seq (.seq (.ops 0 [oo 4 (.fldA 1) [.t 2], oo 5 (.ldA 3) [.t 4], oo 6 (.build [li 0, (.lit (.bool false)), (.lit (.bool false))] []) [], oo 7 (.eqP [(0, 0), (1, 1), (2, 1)] true) [.t 5, .t 6]]) (.cond (.t 7) c_piece_Plain_1_p1 .skip)) c_piece_Plain_1_p3)
def c_piece_Plain_1 : VC := (.seq (.ops 2 [oo 2 (.box 136) [.t 0], ⟨(some 3), none, (.alloc 136 [(.lit (.bool false)), li 0, (.lit (.bool false)), (.lit (.bool false)), (.lit (.bool false)), (.sl 0 [] .exact)]), [], none⟩]) c_piece_Plain_1_p4)
theorem k_piece_Plain_1 : Comp Tryz.prog nobx gtab 112 13 c_piece_Plain_1 [(.c 3 6 true)] := ⟨⟨Tryz.f112, _, Tryz.func112, rfl, rfl, kr, kr⟩⟩
abbrev c_slices_Clone_api_Stop_api_Stop_p1 : VC := (.seq (.ops 0 [oo 2 .mv [(.c (.sl 0 [] .exact))]]) .ret)
abbrev c_slices_Clone_api_Stop_api_Stop_p2 : VC := (.seq (.ops 4 [oo 5 (.mksl 0 5 [] []) [], oo 6 .mv [.t 0], oo 7 (.app 152 5 40) [.t 5, .t 6], oo 2 .mv [.t 7]]) .ret)
abbrev c_slices_Clone_api_Stop_api_Stop_p3 : VC := (.seq (.seq (.ops 0 [oo 3 .mv [.t 0], oo 4 (.eqN false) [.t 3]]) (.cond (.t 4) c_slices_Clone_api_Stop_api_Stop_p1 .skip)) c_slices_Clone_api_Stop_api_Stop_p2)
def c_slices_Clone_api_Stop_api_Stop : VC := (.seq (.ops 0 [oo 2 .mv [(.c (.sl 0 [] .exact))]]) c_slices_Clone_api_Stop_api_Stop_p3)
theorem k_slices_Clone_api_Stop_api_Stop : Comp Tryz.prog nobx gtab 157 8 c_slices_Clone_api_Stop_api_Stop [.t 2] := ⟨⟨Tryz.f157, _, Tryz.func157, rfl, rfl, kr, kr⟩⟩
abbrev c_leaf_Of_p1 : VC := (.seq (.ops 0 [⟨(some 21), none, (.build [(.sl 0 [] .exact), (.sl 0 [] .exact), (.sl 0 [] .exact)] []), [], none⟩, oo 22 .mv [.t 5], ⟨none, none, (.st 3), [.t 2, .t 21], none⟩, oo 3 .mv [.t 22]]) .ret)
abbrev c_leaf_Of_p2 : VC := (.ops 0 [oo 61 (.fldA 1) [.t 13], oo 62 .ld1 [.t 61], oo 11 .mv [.t 62]])
abbrev c_leaf_Of_p3 : VC := (.seq (.ops 0 [oo 56 (.fldA 0) [.t 13], oo 57 .ld1 [.t 56], oo 58 .mv [.t 10], oo 59 (.bin .add) [.t 58, kk 1], oo 60 (.bin .eql) [.t 57, .t 59]]) (.cond (.t 60) c_leaf_Of_p2 .skip))
abbrev c_leaf_Of_p4 : VC := (.ops 0 [oo 63 (.bin .add) [.t 52, kk 1], oo 52 .mv [.t 63]])
abbrev c_leaf_Of_p5 : VC := (.seq (.block 5 (.seq (.ops 4 [oo 54 (.ixA 5) [.t 50, .t 52], oo 55 (.ldA 5) [.t 54], oo 13 (.alloc 152 [li 0, li 0, li 0, li 0, li 0]) [], ⟨none, none, (.st 5), [.t 13, .t 55], none⟩]) c_leaf_Of_p3)) c_leaf_Of_p4)
abbrev c_leaf_Of_p6 : VC := (.seq (.ops 0 [oo 53 (.bin .lss) [.t 52, .t 51]]) (.seq (.cond (.t 53) .skip (.exit 4)) c_leaf_Of_p5))
@[go_sem] abbrev w_leaf_Of_p6 : Nat := 18442240474082191360
abbrev c_leaf_Of_p8 : VC := (.ops 8 [oo 64 (.fldA 3) [.t 9], oo 65 .ld1 [.t 64], oo 66 .mv [.t 11], oo 67 (.mksl 1 1 [li 0] [(0, 1)]) [.t 66], ⟨(some 68), none, (.mksl 1 1 [(.sl 0 [] .exact)] [(0, 1)]), [.t 67], none⟩, oo 69 (.app 23 1 24) [.t 65, .t 68], oo 70 (.fldA 3) [.t 9], ⟨none, none, (.st 1), [.t 70, .t 69], none⟩])
abbrev c_leaf_Of_p9 : VC := (.seq (.seq (.ops 0 [oo 49 (.fldA 5) [.t 8], oo 50 .ld1 [.t 49], oo 51 .len [.t 50], oo 52 .mv [kk 0]]) (.block 4 (.loop c_leaf_Of_p6))) c_leaf_Of_p8)
abbrev c_leaf_Of_p10 : VC := (.seq (.ops 0 [oo 11 .mv [kk (-1)]]) c_leaf_Of_p9)
abbrev c_leaf_Of_p11 : VC := (.ops 0 [oo 71 (.bin .add) [.t 46, kk 1], oo 46 .mv [.t 71]])
abbrev c_leaf_Of_p12 : VC := (.seq (.block 3 (.seq (.ops 0 [oo 48 .mv [.t 46], oo 10 .mv [.t 48]]) c_leaf_Of_p10)) c_leaf_Of_p11)
abbrev c_leaf_Of_p13 : VC := (.seq (.ops 0 [oo 47 (.bin .lss) [.t 46, .t 45]]) (.seq (.cond (.t 47) .skip (.exit 2)) c_leaf_Of_p12))
@[go_sem] abbrev w_leaf_Of_p13 : Nat := 4722366412500901047296
abbrev c_leaf_Of_p15 : VC := (.ops 7 [oo 72 (.fldA 2) [.t 6], oo 73 .ld1 [.t 72], oo 74 (.ldA 4) [.t 9], ⟨(some 75), none, (.mksl 1 4 [(.lit (.bool false)), (.lit (.bool false)), (.sl 0 [] .exact), (.sl 0 [] .exact)] [(0, 4)]), [.t 74], none⟩, oo 76 (.app 84 4 56) [.t 73, .t 75], oo 77 (.fldA 2) [.t 6], ⟨none, none, (.st 1), [.t 77, .t 76], none⟩])
abbrev c_leaf_Of_p16 : VC := (.seq (.seq (.ops 0 [oo 42 (.fldA 0) [.t 1], oo 43 (.fldA 0) [.t 42], oo 44 .ld1 [.t 43], oo 45 .len [.t 44], oo 46 .mv [kk 0]]) (.block 2 (.loop c_leaf_Of_p13))) c_leaf_Of_p15)
abbrev c_leaf_Of_p17 : VC := (.seq (.ops 10 [oo 34 (.fldA 0) [.t 8], oo 35 .ld1 [.t 34], oo 36 (.fldA 4) [.t 8], oo 37 .ld1 [.t 36], oo 38 (.fldA 1) [.t 8], oo 39 (.ldA 3) [.t 38], oo 40 (.mksl 1 3 [li 0, (.lit (.bool false)), (.lit (.bool false))] [(0, 3)]) [.t 39], ⟨(some 41), none, (.build [(.lit (.bool false)), (.lit (.bool false)), (.sl 0 [] .exact), (.sl 0 [] .exact)] [(0, 1), (1, 1), (2, 1)]), [.t 35, .t 37, .t 40], none⟩, ⟨(some 9), none, (.alloc 84 [(.lit (.bool false)), (.lit (.bool false)), (.sl 0 [] .exact), (.sl 0 [] .exact)]), [], none⟩, ⟨none, none, (.st 4), [.t 9, .t 41], none⟩]) c_leaf_Of_p16)
abbrev c_leaf_Of_p18 : VC := (.ops 0 [oo 78 (.bin .add) [.t 30, kk 1], oo 30 .mv [.t 78]])
abbrev c_leaf_Of_p19 : VC := (.seq (.block 1 (.seq (.ops 4 [oo 32 (.ixA 6) [.t 28, .t 30], oo 33 (.ldA 6) [.t 32], ⟨(some 8), none, (.alloc 136 [(.lit (.bool false)), li 0, (.lit (.bool false)), (.lit (.bool false)), (.lit (.bool false)), (.sl 0 [] .exact)]), [], none⟩, ⟨none, none, (.st 6), [.t 8, .t 33], none⟩]) c_leaf_Of_p17)) c_leaf_Of_p18)
abbrev c_leaf_Of_p20 : VC := (.seq (.ops 0 [oo 31 (.bin .lss) [.t 30, .t 29]]) (.seq (.cond (.t 31) .skip (.exit 0)) c_leaf_Of_p19))
@[go_sem] abbrev w_leaf_Of_p20 : Nat := 604462909807313513623296
abbrev c_leaf_Of_p22 : VC := (.seq (.ops 0 [oo 79 (.ldA 3) [.t 6], ⟨none, none, (.st 3), [.t 2, .t 79], none⟩, oo 3 .mv [kk 0]]) .ret)
abbrev c_leaf_Of_p23 : VC := (.seq (.seq (.ops 0 [oo 27 (.fldA 2) [.t 4], oo 28 .ld1 [.t 27], oo 29 .len [.t 28], oo 30 .mv [kk 0]]) (.block 0 (.loop c_leaf_Of_p20))) c_leaf_Of_p22)
abbrev c_leaf_Of_p24 : VC := (.seq (.ops 6 [oo 23 (.fldA 0) [.t 1], oo 24 (.ldA 2) [.t 23], oo 25 (.call 63) [.t 24], ⟨(some 26), none, (.build [(.sl 0 [] .exact), (.sl 0 [] .exact), (.sl 0 [] .exact)] [(0, 2)]), [.t 25], none⟩, ⟨(some 6), none, (.alloc 28 [(.sl 0 [] .exact), (.sl 0 [] .exact), (.sl 0 [] .exact)]), [], none⟩, ⟨none, none, (.st 3), [.t 6, .t 26], none⟩]) c_leaf_Of_p23)
abbrev c_leaf_Of_p25 : VC := (.seq (.seq (.ops 0 [oo 19 .mv [.t 5], oo 20 (.bin .neq) [.t 19, kk 0]]) (.cond (.t 20) c_leaf_Of_p1 .skip)) c_leaf_Of_p24)
abbrev c_leaf_Of_p26 : VC := (.seq (.ops 8 [oo 15 (.ldA 3) [.t 1], oo 16 (.call 47) [.t 15], oo 14 .mv [.t 16], oo 17 (.ext 0) [.t 14], oo 18 (.ext 1) [.t 14], ⟨(some 4), none, (.alloc 49 [(.sl 0 [] .exact), (.sl 0 [] .exact), (.sl 0 [] .exact)]), [], none⟩, ⟨none, none, (.st 3), [.t 4, .t 17], none⟩, oo 5 .mv [.t 18]]) c_leaf_Of_p25)
def c_leaf_Of : VC := (.seq (.ops 3 [oo 1 (.box 49) [.t 0], ⟨(some 2), none, (.alloc 28 [(.sl 0 [] .exact), (.sl 0 [] .exact), (.sl 0 [] .exact)]), [], none⟩, oo 3 .mv [kk 0]]) c_leaf_Of_p26)
theorem k_leaf_Of : Comp Tryz.prog nobx gtab 39 80 c_leaf_Of [(.c 2 3 true), .t 3] := ⟨⟨Tryz.f39, _, Tryz.func39, rfl, rfl, kr, kr⟩⟩
end Go.Proofs.YtdefefeifcdogaaGreat
namespace Go.Proofs.YtdefefeifcdogaaGreat
open Go.RowKit
set_option maxRecDepth 100000

abbrev c_piece_plucks_a_p1 : VC := (.seq (.ops 0 [oo 5 (.fldA 5) [.t 2], oo 6 .ld1 [.t 5], oo 7 (.mkfn 346) [.t 3], oo 8 (.call 188) [.t 6, .t 7], oo 4 .mv [.t 8]]) .ret)
def c_piece_plucks_a : VC := (.seq (.ops 0 [oo 2 .boxE [.t 0], oo 3 .boxE [.t 1], oo 4 .mv [(.c (.lit (.bool false)))]]) c_piece_plucks_a_p1)
theorem k_piece_plucks_a : Comp Tryz.prog allbx gtab 317 9 c_piece_plucks_a [.t 4] := ⟨⟨Tryz.f317, _, Tryz.func317, rfl, rfl, kr, kr⟩⟩
end Go.Proofs.YtdefefeifcdogaaGreat
namespace Go.Proofs.YtdefefeifcdogaaGreat
open Go.RowKit
set_option linter.unusedSimpArgs false
set_option linter.unusedVariables false

/-- The first error of some. -/
def fstE (f : Nat → Int) : Nat → Int
  | 0 => 0
  | k + 1 => if fstE f k ≠ 0 then fstE f k else f k
theorem fstE_zero {f : Nat → Int} : ∀ {n : Nat}, fstE f n = 0 ↔ ∀ i, i < n → f i = 0
  | 0 => ⟨fun _ i hi => by omega, fun _ => rfl⟩
  | n + 1 => by
    rw [fstE]
    constructor
    · intro h i hi
      split at h
      · rename_i h1; exact absurd h h1
      · rename_i h1
        by_cases e : i = n
        · subst e; exact h
        · exact (fstE_zero (n := n)).1 (Decidable.not_not.1 h1) i (by omega)
    · intro h
      rw [if_neg (by have := (fstE_zero (f := f) (n := n)).2 fun i hi => h i (by omega); omega)]
      exact h n (by omega)
theorem fstE_at {f : Nat → Int} {k : Nat} (h0 : ∀ i, i < k → f i = 0) (hk : f k ≠ 0) : ∀ {n : Nat}, k < n → fstE f n = f k
  | 0, h => by omega
  | n + 1, h => by
    by_cases e : k = n
    · subst e
      rw [fstE, if_neg (by have := (fstE_zero (f := f) (n := k)).2 h0; omega)]
    · rw [fstE, fstE_at h0 hk (show k < n by omega), if_pos hk]
/-- A sign that may stand in a piece. -/
def rgtS (s : Sg) : Bool := okS s || (decide (s.v = 0) && !s.d && !s.t)
def hasC (x : Evt) (c : Int) : Bool := x.ss.any fun s => s.co == c
def rstE (x : Evt) : Bool := decide (x.ss.length = 0) && !x.tie
/-- How long a note may be held: from these events, at most n. -/
def lgL : Nat → List Evt → Int → Nat
  | 0, _, _ => 0
  | _ + 1, [], _ => 0
  | n + 1, x :: l, c => if (rstE x || hasC x c) = true then 0 else lgL n l c + 1
def lgst (p : Pce) (i : Nat) (c : Int) : Nat := lgL 15 (p.es.drop (i + 1)) c
def stpE (p : Pce) (i : Nat) (s : Stp) (last : Int) : Int :=
  if s.co < 1 ∨ (p.ins.cs.length : Int) < s.co then 12
  else if s.fr < 0 ∨ (p.ins.cs.getD (s.co - 1).toNat default).f < s.fr then 13
  else if s.co ≤ last then 22
  else if s.ri < 0 ∨ 3 < s.ri ∨ s.gr < 0 ∨ 4 < s.gr then 23
  else if s.ho < 0 ∨ (lgst p i s.co : Int) < s.ho ∨ 0 < s.ho ∧ s.fr = 0 then 24 else 0
def lstC (l : List Stp) (k : Nat) : Int := if k = 0 then 0 else (l.getD (k - 1) default).co
def evtE (p : Pce) (i : Nat) : Int :=
  if rgtS (p.es.getD i default).sg = false ∨ i = 0 ∧ (p.es.getD i default).sg.v = 0 then 20
  else if (p.es.getD i default).tie = true ∧ ((p.es.getD i default).ss.length ≠ 0 ∨ i = 0) then 21
  else fstE (fun k => stpE p i ((p.es.getD i default).ss.getD k default) (lstC (p.es.getD i default).ss k)) (p.es.getD i default).ss.length
/-- The first error of a piece. -/
noncomputable def chkP (p : Pce) : Int := if chkI p.ins ≠ 0 then chkI p.ins else if 400 < p.es.length then 2 else fstE (evtE p) p.es.length
theorem chkP_zero {p : Pce} (h : chkP p = 0) : chkI p.ins = 0 ∧ p.es.length ≤ 400 ∧ ∀ i, i < p.es.length → evtE p i = 0 := by
  unfold chkP at h
  split at h
  · rename_i h1; exact absurd h h1
  · split at h
    · cases h
    · exact ⟨by omega, by omega, fstE_zero.1 h⟩
/-- The sign in force behind the first k events. -/
def frc (l : List Evt) : Nat → Sg
  | 0 => ⟨0, false, false⟩
  | k + 1 => if (l.getD k default).sg.v ≠ 0 then (l.getD k default).sg else frc l k
/-- The events in plain. -/
def plnE (l : List Evt) (k : Nat) : List Evt := (List.range k).map fun i => { l.getD i default with sg := frc l (i + 1) }
theorem plnE_succ (l : List Evt) (k : Nat) : plnE l (k + 1) = plnE l k ++ [{ l.getD k default with sg := frc l (k + 1) }] := by rw [plnE, List.range_succ, List.map_append]; rfl
theorem plnE_len (l : List Evt) (k : Nat) : (plnE l k).length = k := by rw [plnE, List.length_map, List.length_range]
theorem plnE_at {l : List Evt} {k i : Nat} (h : i < k) : (plnE l k).getD i default = { l.getD i default with sg := frc l (i + 1) } := by
  rw [List.getD_eq_getElem?_getD, plnE, List.getElem?_map, List.getElem?_range h]; rfl
/-- A piece with every sign written. -/
def plnP (p : Pce) : Pce := ⟨p.ins, plnE p.es p.es.length⟩
/-- The number of a course in an event: of the last stop there. -/
def numC (l : List Stp) (c : Int) : Nat → Int
  | 0 => -1
  | j + 1 => if (l.getD j default).co = c then (l.getD j default).fr else numC l c j
/-- The column of an event. -/
def clmO (n : Nat) (x : Evt) : Clm := ⟨x.bar, x.tie, [x.sg], (List.range n).map fun k => [numC x.ss ((k + 1 : Nat) : Int) x.ss.length]⟩
/-- The leaf of a piece. -/
def lfO (p : Pce) : Lf := ⟨p.ins, (plnP p).es.map (clmO p.ins.cs.length)⟩
def noL : Lf := ⟨⟨[], []⟩, []⟩
/-- What Of answers. -/
noncomputable def ofR (p : Pce) : Lf × Int := if chkP p ≠ 0 then (noL, chkP p) else (lfO p, 0)
end Go.Proofs.YtdefefeifcdogaaGreat
namespace Go.Proofs.YtdefefeifcdogaaGreat
open Go.RowKit
set_option linter.unusedSimpArgs false
set_option linter.unusedVariables false

theorem rest_fn (x : Evt) : Fn Tryz.prog Gd 316 [x.val] (vbool (rstE x)) := by
  refine Fn.of_vx0 k_piece_isRest (by simp) (by rw [V.pures, pure_evt]; rfl) ?_
  obtain ⟨b, ⟨v, d, tt⟩, ti, ss⟩ := x
  unfold c_piece_isRest
  by_cases h : ss.length = 0
  · have c1 : ((ss.length : Int) == 0) = true := by rw [beq_iff_eq]; omega
    have hq : rstE ⟨b, ⟨v, d, tt⟩, ti, ss⟩ = !ti := by rw [rstE, decide_eq_true h]; rfl
    rw [hq]
    clear h hq
    repeat' (with_reducible first | refine x_ops ?_ | refine wk ?_ | ((first | refine gd1 ?_ ?_ | refine gd2 ?_ ?_ | refine gd3 ?_ ?_) <;> (first | exact @False.elim _ | intro hc)))
    exact finV_lit vv rfl
  · have c1 : ((ss.length : Int) == 0) = false := by rw [beq_eq_false_iff_ne]; omega
    have hq : rstE ⟨b, ⟨v, d, tt⟩, ti, ss⟩ = false := by rw [rstE, decide_eq_false h]; rfl
    rw [hq]
    clear h hq
    repeat' (with_reducible first | refine x_ops ?_ | refine wk ?_ | ((first | refine gd1 ?_ ?_ | refine gd2 ?_ ?_ | refine gd3 ?_ ?_) <;> (first | exact @False.elim _ | intro hc)))
    exact finV_lit vv rfl
theorem indexT_fn (l : List Stp) (p : Stp → Bool) {f : FuncId} {cs : List V} (hc : callable Tryz.prog f = true) (hp : V.pures cs = true) (hn : V.norms cs = cs) (hf : ∀ x : Stp, Fn Tryz.prog Gd f (.agg x.cells :: cs) (vbool (p x))) (hl : l.length ≤ 4611686018427387904) :
    Fn Tryz.prog Gd 232 [tL Stp.cells l, .fn f cs] (vint (idxI p l)) := by
  refine Fn.of_vx0 k_slices_IndexFunc_api_Stop_api_Stop (by simp) (by rw [V.pures, pure_tL, V.pures, V.pure, hp]; rfl) ?_
  unfold c_slices_IndexFunc_api_Stop_api_Stop
  replace hc := Hid.mk hc
  replace hp := Hid.mk hp
  replace hf := Hid.mk hf
  repeat' (with_reducible first | refine x_ops ?_ | refine wk ?_ | ((first | refine gd1 ?_ ?_ | refine gd2 ?_ ?_ | refine gd3 ?_ ?_) <;> (first | exact @False.elim _ | intro hc)))
  refine x_loopF w_slices_IndexFunc_api_Stop_api_Stop_p7 kr l.length (fun k t => t 8 = vint k ∧ ∀ i, i < k → p (l.getD i default) = false) ?_ ?_
  · exact ⟨vv, fun i h => by omega⟩
  rintro k t hk ⟨h8, hI⟩
  replace hI := Hid.mk hI
  by_cases hlt : k < l.length
  · have g1 := stp_take (l := l) (k := k) hlt
    have g2 := stps_len l
    have c2 : (k : Int) < (l.length : Int) := by omega
    have c3 : k * 5 + 5 ≤ l.length * 5 := by omega
    have w2 := w_add1 (k := k) (by omega)
    have hx := hf.out (l.getD k default)
    have hlt0 := Hid.mk hlt
    cases hb : p (l.getD k default)
    · rw [hb] at hx
      replace hb := Hid.mk hb
      clear hlt hk
      repeat' (with_reducible first | refine x_ops ?_ | refine wk ?_ | (with_reducible refine xcv hx hc.out ?_) | ((first | refine gd1 ?_ ?_ | refine gd2 ?_ ?_ | refine gd3 ?_ ?_) <;> (first | exact @False.elim _ | intro hc)))
      refine nf hlt0.out ⟨vv, fun i h => ?_⟩ rfl
      by_cases hi : i = k
      · subst hi; exact hb.out
      · exact hI.out i (by omega)
    · rw [hb] at hx
      replace hb := Hid.mk hb
      clear hlt hk
      repeat' (with_reducible first | refine x_ops ?_ | refine wk ?_ | (with_reducible refine xcv hx hc.out ?_) | ((first | refine gd1 ?_ ?_ | refine gd2 ?_ ?_ | refine gd3 ?_ ?_) <;> (first | exact @False.elim _ | intro hc)))
      refine finV_lit vv ?_
      rw [idxI_at hlt0.out hb.out hI.out]
  · have c1 : ¬ ((k : Int) < (l.length : Int)) := by omega
    have hq : idxI p l = -1 := idxI_none fun i hi => hI.out i (by omega)
    rw [hq]
    clear hlt hk hq
    repeat' (with_reducible first | refine x_ops ?_ | refine wk ?_ | ((first | refine gd1 ?_ ?_ | refine gd2 ?_ ?_ | refine gd3 ?_ ?_) <;> (first | exact @False.elim _ | intro hc)))
    exact finV_lit vv rfl
theorem containsT_fn (l : List Stp) (p : Stp → Bool) {f : FuncId} {cs : List V} (hc : callable Tryz.prog f = true) (hp : V.pures cs = true) (hn : V.norms cs = cs) (hf : ∀ x : Stp, Fn Tryz.prog Gd f (.agg x.cells :: cs) (vbool (p x))) (hl : l.length ≤ 4611686018427387904) :
    Fn Tryz.prog Gd 188 [tL Stp.cells l, .fn f cs] (vbool (l.any p)) := by
  refine Fn.of_vx0 k_slices_ContainsFunc_api_Stop_api_Stop (by simp) (by rw [V.pures, pure_tL, V.pures, V.pure, hp]; rfl) ?_
  unfold c_slices_ContainsFunc_api_Stop_api_Stop
  have I := indexT_fn l p hc hp hn hf hl
  have G := idxI_ge p l
  clear hp hc hf
  repeat' (with_reducible first | refine x_ops ?_ | refine wk ?_ | (with_reducible refine xc (I) ?_) | ((first | refine gd1 ?_ ?_ | refine gd2 ?_ ?_ | refine gd3 ?_ ?_) <;> (first | exact @False.elim _ | intro hc)))
  refine finV_lit vv ?_
  rw [← G]
theorem plucks1_fn (x : Stp) (c : Int) : Fn Tryz.prog Gd 346 [.agg x.cells, .ept [vint c] 0] (vbool (x.co == c)) := by
  refine Fn.of_vx0 k_piece_plucks_1 (by simp) rfl ?_
  obtain ⟨a1, a2, a3, a4, a5⟩ := x
  unfold c_piece_plucks_1
  repeat' (with_reducible first | refine x_ops ?_ | refine wk ?_ | ((first | refine gd1 ?_ ?_ | refine gd2 ?_ ?_ | refine gd3 ?_ ?_) <;> (first | exact @False.elim _ | intro hc)))
  exact finV_lit vv rfl
theorem plucks_fn (x : Evt) (c : Int) (hl : x.ss.length ≤ 4611686018427387904) : Fn Tryz.prog Gd 317 [x.val, vint c] (vbool (hasC x c)) := by
  refine Fn.of_vx0 k_piece_plucks_a (by simp) (by rw [V.pures, pure_evt]; rfl) ?_
  have C := containsT_fn x.ss (fun s => s.co == c) (f := 346) (cs := [.ept [vint c] 0]) kr rfl rfl (fun s => plucks1_fn s c) hl
  rw [tL] at C
  have hq : hasC x c = x.ss.any fun s => s.co == c := rfl
  rw [hq]
  generalize (x.ss.any fun s => s.co == c) = z at *
  obtain ⟨b, ⟨v, d, tt⟩, ti, ss⟩ := x
  dsimp only at C
  clear hl hq
  unfold c_piece_plucks_a
  repeat' (with_reducible first | refine x_ops ?_ | refine wk ?_ | (with_reducible refine xc (C) ?_) | ((first | refine gd1 ?_ ?_ | refine gd2 ?_ ?_ | refine gd3 ?_ ?_) <;> (first | exact @False.elim _ | intro hc)))
  exact finV_lit vv rfl
theorem lgL_stop {x : Evt} {c : Int} (h : (rstE x || hasC x c) = true) (n : Nat) (l : List Evt) : lgL n (x :: l) c = 0 := by
  cases n with
  | zero => rfl
  | succ n => rw [lgL, if_pos h]
theorem lgL_go {x : Evt} {c : Int} (h : (rstE x || hasC x c) = false) (n : Nat) (l : List Evt) : lgL (n + 1) (x :: l) c = lgL n l c + 1 := by
  rw [lgL, if_neg (by rw [h]; decide)]
theorem lgL_nil (n : Nat) (c : Int) : lgL n [] c = 0 := by cases n <;> rfl
theorem drop_cons {α : Type} [Inhabited α] {l : List α} {k : Nat} (h : k < l.length) : l.drop k = l.getD k default :: l.drop (k + 1) := by
  rw [List.drop_eq_getElem_cons h, List.getD_eq_getElem?_getD, List.getElem?_eq_getElem h]; rfl
theorem drop_flat {α : Type} {enc : α → List V} {sz : Nat} (he : ∀ x, (enc x).length = sz) : ∀ (l : List α) (k : Nat), (l.flatMap enc).drop (k * sz) = (l.drop k).flatMap enc
  | l, 0 => by simp
  | [], k + 1 => by simp
  | a :: l, k + 1 => by
    rw [List.flatMap_cons, List.drop_succ_cons, Nat.succ_mul, Nat.add_comm, ← List.drop_drop, List.drop_left' (he a)]
    exact drop_flat he l k
/-- The events behind one. -/
theorem evs_cut (l : List Evt) (i : Nat) (h : i + 1 ≤ l.length) : vslc 6 true false (.sl l.length (l.flatMap Evt.cells) .no) [.lit (.int .i64 ((i + 1 : Nat) : Int))] = some (.sl (l.drop (i + 1)).length ((l.drop (i + 1)).flatMap Evt.cells) .no) := by
  simp only [vslc, bnds, if_true, Bool.false_eq_true, if_false]
  rw [if_pos (by omega)]
  have e : (l.length : Int).toNat - ((i + 1 : Nat) : Int).toNat = (l.drop (i + 1)).length := by rw [List.length_drop]; omega
  rw [e, show ((i + 1 : Nat) : Int).toNat = i + 1 by omega, drop_flat evt_len, List.take_of_length_le (by rw [evts_len]; exact Nat.le_refl _)]
/-- A piece as three rows. -/
theorem plong_fn (p : Pce) (hs : PcSm p) (i : Nat) (hi : i < p.es.length) (c : Int) : Fn Tryz.prog Gd 261 [p.val, vint i, vint c] (vint (lgst p i c)) := by
  refine Fn.of_vx0 k_piece_Longest (by simp) (by rw [V.pures, pure_pce]; rfl) ?_
  obtain ⟨⟨cs, st⟩, es⟩ := p
  have hn : es.length ≤ 17592186044416 := hs.n
  have he : ∀ i, i < es.length → (es.getD i default).ss.length ≤ 17592186044416 := hs.e
  have hi : i < es.length := hi
  have hq : lgst ⟨⟨cs, st⟩, es⟩ i c = lgL 15 (es.drop (i + 1)) c := rfl
  have cut := evs_cut es i hi
  have c1 : ¬ ((i : Int) < 0) := by omega
  have c2 : ¬ ((es.length : Int) ≤ (i : Int)) := by omega
  have w1 := w_add1 (k := i) (by omega)
  have hL : ∀ j, j < (es.drop (i + 1)).length → ((es.drop (i + 1)).getD j default).ss.length ≤ 17592186044416 := fun j hj => by
    rw [List.length_drop] at hj
    have := he (i + 1 + j) (by omega)
    rw [List.getD_eq_getElem?_getD] at this ⊢
    rwa [List.getElem?_drop]
  have hLn : (es.drop (i + 1)).length ≤ 17592186044416 := by rw [List.length_drop]; omega
  rw [hq]
  clear hs he hi hn hq
  generalize es.drop (i + 1) = L at *
  replace hL := Hid.mk hL
  unfold c_piece_Longest
  repeat' (with_reducible first | refine x_ops ?_ | refine wk ?_ | ((first | refine gd1 ?_ ?_ | refine gd2 ?_ ?_ | refine gd3 ?_ ?_) <;> (first | exact @False.elim _ | intro hc)))
  clear cut c1 c2 w1
  refine x_loopW w_piece_Longest_p6 kr L.length (fun k t m => t 25 = vint k ∧ t 7 = vint k ∧ k ≤ 15 ∧ lgL 15 L c = k + lgL (15 - k) (L.drop k) c) ?_ ?_
  · exact ⟨vv, vv, by omega, by simp⟩
  rintro k t m hk ⟨h25, h7, h15, hI⟩
  by_cases hlt : k < L.length
  case neg =>
    have c1 : ¬ ((k : Int) < (L.length : Int)) := by omega
    have hq : lgL 15 L c = k := by rw [hI, List.drop_of_length_le (by omega), lgL_nil]; rfl
    rw [hq]
    clear hlt hk hI hq h15
    repeat' (with_reducible first | refine x_ops ?_ | refine wk ?_ | ((first | refine gd1 ?_ ?_ | refine gd2 ?_ ?_ | refine gd3 ?_ ?_) <;> (first | exact @False.elim _ | intro hc)))
    exact finV_lit vv rfl
  have c1 : (k : Int) < (L.length : Int) := by omega
  have g1 := evt_take (l := L) (k := k) hlt
  have g2 := evts_len L
  have c3 : k * 6 + 6 ≤ L.length * 6 := by omega
  have w1 := w_add1 (k := k) (by omega)
  have hd := drop_cons hlt
  rw [hd] at hI
  have R := rest_fn (L.getD k default)
  have U := plucks_fn (L.getD k default) c (by have := hL.out k hlt; omega)
  have hlt0 := Hid.mk hlt
  generalize L.getD k default = x at *
  by_cases h1 : k = 15
  · have c4 : ((k : Int) == 15) = true := by rw [beq_iff_eq]; omega
    have hq : lgL 15 L c = k := by rw [hI, h1]; rfl
    rw [hq]
    obtain ⟨b, ⟨v, d, tt⟩, ti, ss⟩ := x
    clear hlt hk hI hq h15 h1 hd
    repeat' (with_reducible first | refine x_ops ?_ | refine wk ?_ | ((first | refine gd1 ?_ ?_ | refine gd2 ?_ ?_ | refine gd3 ?_ ?_) <;> (first | exact @False.elim _ | intro hc)))
    exact finV_lit vv rfl
  have c4 : ((k : Int) == 15) = false := by rw [beq_eq_false_iff_ne]; omega
  have e15 : 15 - k = 14 - k + 1 := by omega
  cases hr : rstE x with
  | true =>
    have hq : lgL 15 L c = k := by rw [hI, lgL_stop (by rw [hr]; rfl)]; rfl
    rw [hq]
    rw [hr] at R
    obtain ⟨b, ⟨v, d, tt⟩, ti, ss⟩ := x
    clear hlt hk hI hq h15 h1 hd hr e15
    repeat' (with_reducible first | refine x_ops ?_ | refine wk ?_ | (with_reducible refine xc (R) ?_) | ((first | refine gd1 ?_ ?_ | refine gd2 ?_ ?_ | refine gd3 ?_ ?_) <;> (first | exact @False.elim _ | intro hc)))
    exact finV_lit vv rfl
  | false =>
    rw [hr] at R
    cases hp : hasC x c with
    | true =>
      have hq : lgL 15 L c = k := by rw [hI, lgL_stop (by rw [hr, hp]; rfl)]; rfl
      rw [hq]
      rw [hp] at U
      obtain ⟨b, ⟨v, d, tt⟩, ti, ss⟩ := x
      clear hlt hk hI hq h15 h1 hd hr e15 hp
      repeat' (with_reducible first | refine x_ops ?_ | refine wk ?_ | (with_reducible refine xc (R) ?_) | (with_reducible refine xc (U) ?_) | ((first | refine gd1 ?_ ?_ | refine gd2 ?_ ?_ | refine gd3 ?_ ?_) <;> (first | exact @False.elim _ | intro hc)))
      exact finV_lit vv rfl
    | false =>
      have hq : lgL 15 L c = k + 1 + lgL (15 - (k + 1)) (L.drop (k + 1)) c := by
        rw [hI, e15, lgL_go (by rw [hr, hp]; rfl), show 15 - (k + 1) = 14 - k by omega]; omega
      have h16 : k + 1 ≤ 15 := by omega
      replace hq := Hid.mk hq
      rw [hp] at U
      obtain ⟨b, ⟨v, d, tt⟩, ti, ss⟩ := x
      clear hlt hk hI h15 h1 hd hr e15 hp
      repeat' (with_reducible first | refine x_ops ?_ | refine wk ?_ | (with_reducible refine xc (R) ?_) | (with_reducible refine xc (U) ?_) | ((first | refine gd1 ?_ ?_ | refine gd2 ?_ ?_ | refine gd3 ?_ ?_) <;> (first | exact @False.elim _ | intro hc)))
      exact nx hlt0.out ⟨vv, vv, h16, hq.out⟩
end Go.Proofs.YtdefefeifcdogaaGreat
namespace Go.Proofs.YtdefefeifcdogaaGreat
open Go.RowKit
set_option linter.unusedSimpArgs false
set_option linter.unusedVariables false

theorem tkS_pos (s : Sg) : decide (0 < tkS s) = okS s := by
  cases h : okS s with
  | false => rw [tkS, h]; rfl
  | true =>
    have h2 := h
    unfold okS at h2
    simp only [Bool.and_eq_true, decide_eq_true_eq] at h2
    obtain ⟨⟨h1, h7⟩, _⟩ := h2
    obtain ⟨n, hn⟩ : ∃ n : Nat, s.v = n := ⟨s.v.toNat, by omega⟩
    have q := tk0_cases (n := n) (by omega) (by omega)
    have hp : 0 < tk0 n / 2 * 3 ∧ 0 < tk0 n / 3 * 2 ∧ 0 < tk0 n := by
      have : n = 1 ∨ n = 2 ∨ n = 3 ∨ n = 4 ∨ n = 5 ∨ n = 6 ∨ n = 7 := by omega
      rcases this with rfl | rfl | rfl | rfl | rfl | rfl | rfl <;> decide
    rw [tkS, if_pos h, hn, Int.toNat_natCast]
    apply decide_eq_true
    split
    · exact hp.1
    · split
      · exact hp.2.1
      · exact hp.2.2
theorem valid_fn (s : Sg) : Fn Tryz.prog Gd 220 [s.val] (vbool (rgtS s)) := by
  refine Fn.of_vx0 k_piece_valid (by simp) (by rw [V.pures, pure_sg]; rfl) ?_
  have T := ticks_fn s
  have hp := tkS_pos s
  have hq : rgtS s = (okS s || (decide (s.v = 0) && !s.d && !s.t)) := rfl
  obtain ⟨v, d, t⟩ := s
  dsimp only at hq
  unfold c_piece_valid
  by_cases h : v = 0
  · subst h
    have ho : ∀ d t, okS ⟨0, d, t⟩ = false := fun d t => rfl
    rw [hq, ho]
    rw [ho] at hp
    have hp2 : ¬ 0 < tkS ⟨0, d, t⟩ := of_decide_eq_false hp
    clear hq ho hp
    cases d <;> cases t
    all_goals repeat' (with_reducible first | refine x_ops ?_ | simp only [go_sem, Nat.reduceAdd, Nat.reduceEqDiff, Nat.reduceLT, Nat.reduceLeDiff, Nat.reduceMul, Nat.reduceSub, Nat.reducePow, Nat.reduceDiv, Nat.reduceMod, Nat.reduceBEq, Int.reduceBEq, Int.reduceLT, reduceIte, tIs, tBs, tPs, Bool.true_and, Bool.and_true, Bool.false_and, Bool.and_false, *] | (with_reducible refine xc (T) ?_) | ((first | refine gd1 ?_ ?_ | refine gd2 ?_ ?_ | refine gd3 ?_ ?_) <;> (first | exact @False.elim _ | intro hc)))
    all_goals exact finV_lit vv rfl
  · have c1 : (v == 0) = false := by rw [beq_eq_false_iff_ne]; exact h
    rw [hq, decide_eq_false h, Bool.false_and, Bool.false_and, Bool.or_false, ← hp]
    clear hq h hp
    repeat' (with_reducible first | refine x_ops ?_ | simp only [go_sem, Nat.reduceAdd, Nat.reduceEqDiff, Nat.reduceLT, Nat.reduceLeDiff, Nat.reduceMul, Nat.reduceSub, Nat.reducePow, Nat.reduceDiv, Nat.reduceMod, Nat.reduceBEq, Int.reduceBEq, Int.reduceLT, reduceIte, tIs, tBs, tPs, Bool.false_and, *] | (with_reducible refine xc (T) ?_) | ((first | refine gd1 ?_ ?_ | refine gd2 ?_ ?_ | refine gd3 ?_ ?_) <;> (first | exact @False.elim _ | intro hc)))
    exact finV_lit vv rfl
set_option maxHeartbeats 1000000 in
theorem pstop_fn (p : Pce) (hs : PcSm p) (i : Nat) (hi : i < p.es.length) (s : Stp) (last : Int) : Fn Tryz.prog Gd 221 [p.val, vint i, .agg s.cells, vint last] (vint (stpE p i s last)) := by
  have hps : (V.agg s.cells).pure = true := by rw [V.pure]; rfl
  refine Fn.of_vx0 k_piece_checkStop (by simp) (by rw [V.pures, pure_pce, V.pures, vint, V.pure, V.pures, hps]; rfl) ?_
  have Lg := plong_fn p hs i hi s.co
  have hcn := hs.c
  have hq : stpE p i s last = if s.co < 1 ∨ (p.ins.cs.length : Int) < s.co then 12
  else if s.fr < 0 ∨ (p.ins.cs.getD (s.co - 1).toNat default).f < s.fr then 13
  else if s.co ≤ last then 22
  else if s.ri < 0 ∨ 3 < s.ri ∨ s.gr < 0 ∨ 4 < s.gr then 23
  else if s.ho < 0 ∨ (lgst p i s.co : Int) < s.ho ∨ 0 < s.ho ∧ s.fr = 0 then 24 else 0 := rfl
  generalize lgst p i s.co = lg at *
  obtain ⟨⟨cs, st⟩, es⟩ := p
  obtain ⟨co, fr, ri, gr, ho⟩ := s
  dsimp only at hq hcn Lg
  clear hs hi
  unfold c_piece_checkStop
  by_cases h1 : co < 1
  · rw [if_pos (.inl h1)] at hq
    rw [hq]
    clear hq
    repeat' (with_reducible first | refine x_ops ?_ | refine wk ?_ | ((first | refine gd1 ?_ ?_ | refine gd2 ?_ ?_ | refine gd3 ?_ ?_) <;> (first | exact @False.elim _ | intro hc)))
    exact finV_lit vv rfl
  by_cases h2 : (cs.length : Int) < co
  · rw [if_pos (.inr h2)] at hq
    rw [hq]
    clear hq
    repeat' (with_reducible first | refine x_ops ?_ | refine wk ?_ | ((first | refine gd1 ?_ ?_ | refine gd2 ?_ ?_ | refine gd3 ?_ ?_) <;> (first | exact @False.elim _ | intro hc)))
    exact finV_lit vv rfl
  obtain ⟨k, rfl⟩ : ∃ k : Nat, co = ((k + 1 : Nat) : Int) := ⟨(co - 1).toNat, by omega⟩
  have hk : k < cs.length := by omega
  have g1 := crs_at1 (l := cs) (k := k) hk
  have g2 := crss_len cs
  have c1 : (k : Int) < (cs.length : Int) := by omega
  have w1 := w_sub1 (k := k + 1) (by omega) (by omega)
  rw [Nat.add_sub_cancel] at w1
  have ek : (((k + 1 : Nat) : Int) - 1).toNat = k := by omega
  rw [if_neg (by omega), ek] at hq
  generalize (cs.getD k default).f = fk at *
  replace hq := Hid.mk hq
  clear hk ek hcn
  have hfb : fr = 0 → (fr == 0) = true := fun e => by rw [e]; rfl
  have hfb2 : ¬ fr = 0 → (fr == 0) = false := fun e => by rw [beq_eq_false_iff_ne]; exact e
  by_cases h0 : fr = 0
  · have c9 := hfb h0
    have h00 := Hid.mk h0
    clear hfb hfb2 h0
    repeat' (with_reducible first | refine x_ops ?_ | refine wk ?_ | (with_reducible refine xc (Lg) ?_) | ((first | refine gd1 ?_ ?_ | refine gd2 ?_ ?_ | refine gd3 ?_ ?_) <;> (first | exact @False.elim _ | intro hc)))
    all_goals refine finV_lit vv ?_
    all_goals rw [hq.out]
    all_goals congr 1
    all_goals have h0 := h00.out
    all_goals (repeat' split)
    all_goals first
      | rfl
      | omega
  · have c9 := hfb2 h0
    have h00 := Hid.mk h0
    clear hfb hfb2 h0
    repeat' (with_reducible first | refine x_ops ?_ | refine wk ?_ | (with_reducible refine xc (Lg) ?_) | ((first | refine gd1 ?_ ?_ | refine gd2 ?_ ?_ | refine gd3 ?_ ?_) <;> (first | exact @False.elim _ | intro hc)))
    all_goals refine finV_lit vv ?_
    all_goals rw [hq.out]
    all_goals congr 1
    all_goals have h0 := h00.out
    all_goals (repeat' split)
    all_goals first
      | rfl
      | omega
end Go.Proofs.YtdefefeifcdogaaGreat
namespace Go.Proofs.YtdefefeifcdogaaGreat
open Go.RowKit
set_option linter.unusedSimpArgs false
set_option linter.unusedVariables false

theorem rgtS_zero {d t : Bool} (h : rgtS ⟨0, d, t⟩ = true) : d = false ∧ t = false := by
  cases d <;> cases t <;> first | exact ⟨rfl, rfl⟩ | cases h
theorem lstC_succ (l : List Stp) (j : Nat) : lstC l (j + 1) = (l.getD j default).co := by rw [lstC, if_neg (by omega), Nat.add_sub_cancel]
/-- What the check of an event comes to, of a sign that may stand. -/
theorem evtE_ok {p : Pce} {k : Nat} (h1 : rgtS (p.es.getD k default).sg = true) (h2 : ¬ (k = 0 ∧ (p.es.getD k default).sg.v = 0)) : evtE p k =
  if (p.es.getD k default).tie = true ∧ ((p.es.getD k default).ss.length ≠ 0 ∨ k = 0) then 21
  else fstE (fun j => stpE p k ((p.es.getD k default).ss.getD j default) (lstC (p.es.getD k default).ss j)) (p.es.getD k default).ss.length := by
  rw [evtE, if_neg]
  rintro (h | h)
  · rw [h1] at h; cases h
  · exact h2 h
theorem chkP_at {p : Pce} {k : Nat} (h0 : chkI p.ins = 0) (h1 : ¬ 400 < p.es.length) (hI : ∀ i, i < k → evtE p i = 0) (hk : k < p.es.length) (he : evtE p k ≠ 0) : chkP p = evtE p k := by
  rw [chkP, if_neg (by omega), if_neg h1, fstE_at hI he hk]
theorem chkP_ok {p : Pce} (h0 : chkI p.ins = 0) (h1 : ¬ 400 < p.es.length) (hI : ∀ i, i < p.es.length → evtE p i = 0) : chkP p = 0 := by
  rw [chkP, if_neg (by omega), if_neg h1, fstE_zero.2 hI]
set_option maxHeartbeats 2000000 in
theorem pcheck_fn (p : Pce) (hs : PcSm p) : Fn Tryz.prog Gd 169 [p.val] (vint (chkP p)) := by
  refine Fn.of_vx0 k_piece_Check (by simp) (by rw [V.pures, pure_pce]; rfl) ?_
  have I := icheck_fn p.ins
  unfold c_piece_Check
  by_cases h0 : chkI p.ins = 0
  case neg =>
    have c1 : (chkI p.ins == 0) = false := by rw [beq_eq_false_iff_ne]; exact h0
    have hq : chkP p = chkI p.ins := by rw [chkP, if_pos h0]
    replace hq := Hid.mk hq
    clear h0
    repeat' (with_reducible first | refine x_ops ?_ | refine wk ?_ | (with_reducible refine xc (I) ?_) | ((first | refine gd1 ?_ ?_ | refine gd2 ?_ ?_ | refine gd3 ?_ ?_) <;> (first | exact @False.elim _ | intro hc)))
    exact finV_lit vv (by rw [hq.out])
  have c1 : (chkI p.ins == 0) = true := by rw [h0]; rfl
  by_cases h1 : 400 < p.es.length
  · have c2 : (400 : Int) < (p.es.length : Int) := by omega
    have hq : chkP p = 2 := by rw [chkP, if_neg (by omega), if_pos h1]
    replace hq := Hid.mk hq
    clear h0 h1
    repeat' (with_reducible first | refine x_ops ?_ | refine wk ?_ | (with_reducible refine xc (I) ?_) | ((first | refine gd1 ?_ ?_ | refine gd2 ?_ ?_ | refine gd3 ?_ ?_) <;> (first | exact @False.elim _ | intro hc)))
    exact finV_lit vv (by rw [hq.out])
  have c2 : ¬ (400 : Int) < (p.es.length : Int) := by omega
  have hat := fun k => chkP_at (p := p) (k := k) h0 h1
  have hok := chkP_ok (p := p) h0 h1
  have hn := hs.n
  replace hat := Hid.mk hat
  replace hok := Hid.mk hok
  replace hs := Hid.mk hs
  clear h0 h1
  repeat' (with_reducible first | refine x_ops ?_ | refine wk ?_ | (with_reducible refine xc (I) ?_) | ((first | refine gd1 ?_ ?_ | refine gd2 ?_ ?_ | refine gd3 ?_ ?_) <;> (first | exact @False.elim _ | intro hc)))
  clear I c1 c2
  refine x_loopW w_piece_Check_p20 kr p.es.length (fun k t m => t 23 = vint k ∧ (m.obj 0 = some (.box [.sl p.ins.cs.length (p.ins.cs.flatMap Crs.cells) .no, .sl p.ins.st.length (p.ins.st.map vint) .no, .sl p.es.length (p.es.flatMap Evt.cells) .no] 49) ∧ 0 < m.next) ∧ ∀ i, i < k → evtE p i = 0) ?_ ?_
  · exact ⟨vv, ⟨vv, by show 0 < 2; omega⟩, fun i h => by omega⟩
  rintro k t m hk ⟨h23, ⟨hm, hmn⟩, hI⟩
  replace hI := Hid.mk hI
  by_cases hlt : k < p.es.length
  case neg =>
    have c1 : ¬ ((k : Int) < (p.es.length : Int)) := by omega
    have hz := hok.out fun i hi => hI.out i (by omega)
    rw [hz]
    clear hlt hk hz
    repeat' (with_reducible first | refine x_ops ?_ | refine wk ?_ | ((first | refine gd1 ?_ ?_ | refine gd2 ?_ ?_ | refine gd3 ?_ ?_) <;> (first | exact @False.elim _ | intro hc)))
    exact finV_lit vv rfl
  have g1 := evt_take (l := p.es) (k := k) hlt
  have g2 := evts_len p.es
  have c1 : (k : Int) < (p.es.length : Int) := by omega
  have c3 : k * 6 + 6 ≤ p.es.length * 6 := by omega
  have w1 := w_add1 (k := k) (by omega)
  have VA := valid_fn (p.es.getD k default).sg
  have E0 : rgtS (p.es.getD k default).sg = false → evtE p k = 20 := fun h => by rw [evtE, if_pos (.inl h)]
  have E1 : k = 0 ∧ (p.es.getD k default).sg.v = 0 → evtE p k = 20 := fun h => by rw [evtE, if_pos (.inr h)]
  have E2 := evtE_ok (p := p) (k := k)
  have hat2 : evtE p k ≠ 0 → chkP p = evtE p k := fun h => hat.out k hI.out hlt h
  have hst : ∀ i, evtE p k = 0 → i < k + 1 → evtE p i = 0 := fun i he hi => by
    by_cases e : i = k
    · subst e; exact he
    · exact hI.out i (by omega)
  have S := fun s last => pstop_fn p hs.out k hlt s last
  have hsn := hs.out.e k hlt
  have hlt0 := Hid.mk hlt
  have hmn0 := Hid.mk hmn
  replace S := Hid.mk S
  replace hat2 := Hid.mk hat2
  replace hst := Hid.mk hst
  clear hI hlt hk hat hok
  generalize p.es.getD k default = x at *
  obtain ⟨bb, ⟨v, d, tt⟩, ti, ss⟩ := x
  dsimp only at E0 E1 E2 VA hsn
  cases hr : rgtS ⟨v, d, tt⟩ with
  | false =>
    have he := E0 hr
    have hz := hat2.out (by rw [he]; decide)
    rw [hz, he]
    rw [hr] at VA
    clear hz he hr E0 E1 E2
    repeat' (with_reducible first | refine x_ops ?_ | refine wk ?_ | (with_reducible refine xc (VA) ?_) | ((first | refine gd1 ?_ ?_ | refine gd2 ?_ ?_ | refine gd3 ?_ ?_) <;> (first | exact @False.elim _ | intro hc)))
    exact finV_lit vv rfl
  | true =>
  rw [hr] at VA
  by_cases hk0 : k = 0 ∧ v = 0
  · have he := E1 hk0
    have hz := hat2.out (by rw [he]; decide)
    rw [hz, he]
    obtain ⟨e1, e2⟩ := hk0
    subst e2
    obtain ⟨rfl, rfl⟩ := rgtS_zero hr
    have c4 : ((k : Int) == 0) = true := by rw [beq_iff_eq]; omega
    clear hz he hr E0 E1 E2 e1
    repeat' (with_reducible first | refine x_ops ?_ | simp only [go_sem, Nat.reduceAdd, Nat.reduceEqDiff, Nat.reduceLT, Nat.reduceLeDiff, Nat.reduceMul, Nat.reduceSub, Nat.reducePow, Nat.reduceDiv, Nat.reduceMod, Nat.reduceBEq, Int.reduceBEq, Int.reduceLT, reduceIte, tIs, tBs, tPs, Bool.true_and, *] | (with_reducible refine xc (VA) ?_) | ((first | refine gd1 ?_ ?_ | refine gd2 ?_ ?_ | refine gd3 ?_ ?_) <;> (first | exact @False.elim _ | intro hc)))
    exact finV_lit vv rfl
  have hE := E2 hr hk0
  have hsk : ((k : Int) == 0) = false ∨ ((k : Int) == 0) = true ∧ (v == 0) = false := by
    by_cases e : k = 0
    · exact .inr ⟨by rw [beq_iff_eq]; omega, by rw [beq_eq_false_iff_ne]; exact fun ev => hk0 ⟨e, ev⟩⟩
    · exact .inl (by rw [beq_eq_false_iff_ne]; omega)
  have ht21 : ti = true → (ss.length ≠ 0 ∨ k = 0) → evtE p k = 21 := fun h1 h2 => by rw [hE, if_pos ⟨h1, h2⟩]
  have htl : ¬ (ti = true ∧ (ss.length ≠ 0 ∨ k = 0)) → evtE p k = fstE (fun j => stpE p k (ss.getD j default) (lstC ss j)) ss.length := fun h => by rw [hE, if_neg h]
  clear hE E0 E1 E2 hr hk0
  have htie : ti = false ∨ ti = true ∧ ((k : Int) == 0) = true ∨ ti = true ∧ ((k : Int) == 0) = false ∧ (0 : Int) < (ss.length : Int) ∨ ti = true ∧ ((k : Int) == 0) = false ∧ ¬ (0 : Int) < (ss.length : Int) := by
    cases ti
    · exact .inl rfl
    · by_cases e : k = 0
      · exact .inr (.inl ⟨rfl, by rw [beq_iff_eq]; omega⟩)
      · by_cases e2 : (0 : Int) < (ss.length : Int)
        · exact .inr (.inr (.inl ⟨rfl, by rw [beq_eq_false_iff_ne]; omega, e2⟩))
        · exact .inr (.inr (.inr ⟨rfl, by rw [beq_eq_false_iff_ne]; omega, e2⟩))
  replace ht21 := Hid.mk ht21
  replace htl := Hid.mk htl
  replace hsk := Hid.mk hsk
  rcases htie with htie | ⟨htie, c5⟩ | ⟨htie, c5, c6⟩ | ⟨htie, c5, c6⟩
  rotate_left
  · have hz := hat2.out (by rw [ht21.out htie (.inr (by rw [beq_iff_eq] at c5; omega))]; decide)
    rw [ht21.out htie (.inr (by rw [beq_iff_eq] at c5; omega))] at hz
    rw [hz]
    rcases hsk.out with c4 | ⟨c4, c7⟩
    · rw [c5] at c4; cases c4
    clear hz
    repeat' (with_reducible first | refine x_ops ?_ | simp only [go_sem, Nat.reduceAdd, Nat.reduceEqDiff, Nat.reduceLT, Nat.reduceLeDiff, Nat.reduceMul, Nat.reduceSub, Nat.reducePow, Nat.reduceDiv, Nat.reduceMod, Nat.reduceBEq, Int.reduceBEq, Int.reduceLT, reduceIte, tIs, tBs, tPs, Bool.false_and, *] | (with_reducible refine xc (VA) ?_) | ((first | refine gd1 ?_ ?_ | refine gd2 ?_ ?_ | refine gd3 ?_ ?_) <;> (first | exact @False.elim _ | intro hc)))
    exact finV_lit vv rfl
  · have hz := hat2.out (by rw [ht21.out htie (.inl (by omega))]; decide)
    rw [ht21.out htie (.inl (by omega))] at hz
    rw [hz]
    clear hz
    repeat' (with_reducible first | refine x_ops ?_ | simp only [go_sem, Nat.reduceAdd, Nat.reduceEqDiff, Nat.reduceLT, Nat.reduceLeDiff, Nat.reduceMul, Nat.reduceSub, Nat.reducePow, Nat.reduceDiv, Nat.reduceMod, Nat.reduceBEq, Int.reduceBEq, Int.reduceLT, reduceIte, tIs, tBs, tPs, Bool.false_and, *] | (with_reducible refine xc (VA) ?_) | ((first | refine gd1 ?_ ?_ | refine gd2 ?_ ?_ | refine gd3 ?_ ?_) <;> (first | exact @False.elim _ | intro hc)))
    exact finV_lit vv rfl
  all_goals
    have hel := htl.out (by
      rintro ⟨a, b⟩
      first
        | (rw [htie] at a; cases a; done)
        | (rw [beq_eq_false_iff_ne] at c5; omega))
    rcases hsk.out with c4 | ⟨c4, c7⟩
    all_goals
      replace hel := Hid.mk hel
      clear hsk htl ht21
      repeat' (with_reducible first | refine x_ops ?_ | simp only [go_sem, Nat.reduceAdd, Nat.reduceEqDiff, Nat.reduceLT, Nat.reduceLeDiff, Nat.reduceMul, Nat.reduceSub, Nat.reducePow, Nat.reduceDiv, Nat.reduceMod, Nat.reduceBEq, Int.reduceBEq, Int.reduceLT, reduceIte, tIs, tBs, tPs, Bool.false_and, *] | (with_reducible refine xc (VA) ?_) | ((first | refine gd1 ?_ ?_ | refine gd2 ?_ ?_ | refine gd3 ?_ ?_) <;> (first | exact @False.elim _ | intro hc)))
      clear VA g1 g2 c3 htie
      refine x_loopW w_piece_Check_p12 kr ss.length (fun j t' m' => t' 57 = vint j ∧ t' 6 = vint (lstC ss j) ∧ (m'.obj 0 = some (.box [.sl p.ins.cs.length (p.ins.cs.flatMap Crs.cells) .no, .sl p.ins.st.length (p.ins.st.map vint) .no, .sl p.es.length (p.es.flatMap Evt.cells) .no] 49) ∧ 0 < m'.next) ∧ ∀ i, i < j → stpE p k (ss.getD i default) (lstC ss i) = 0) ?_ ?_
      · refine ⟨vv, vv, ⟨?_, ?_⟩, fun i hi => by omega⟩
        · (simp only [put_obj]; repeat rw [if_neg (by omega)]); exact hm
        · show 0 < m.next + 6; omega
      clear hm hmn
      rintro j t1 m2 hj ⟨h57, h6, ⟨hm, hmn⟩, hI2⟩
      replace hI2 := Hid.mk hI2
      by_cases hlt2 : j < ss.length
      case neg =>
        have d1 : ¬ ((j : Int) < (ss.length : Int)) := by omega
        have hz : evtE p k = 0 := by rw [hel.out]; exact fstE_zero.2 fun i hi => hI2.out i (by omega)
        have hst2 := fun i => hst.out i hz
        replace hst2 := Hid.mk hst2
        clear hlt2 hj hz
        repeat' (with_reducible first | refine x_ops ?_ | refine wk ?_ | ((first | refine gd1 ?_ ?_ | refine gd2 ?_ ?_ | refine gd3 ?_ ?_) <;> (first | exact @False.elim _ | intro hc)))
        exact nx hlt0.out ⟨vv, ⟨hm, hmn⟩, hst2.out⟩
      have d1 : (j : Int) < (ss.length : Int) := by omega
      have g1 := stp_take (l := ss) (k := j) hlt2
      have g2 := stps_len ss
      have d3 : j * 5 + 5 ≤ ss.length * 5 := by omega
      have w2 := w_add1 (k := j) (by omega)
      have hco := lstC_succ ss j
      have SS := S.out (ss.getD j default) (lstC ss j)
      by_cases hz : stpE p k (ss.getD j default) (lstC ss j) = 0
      case neg =>
        have d4 : (stpE p k (ss.getD j default) (lstC ss j) == 0) = false := by rw [beq_eq_false_iff_ne]; exact hz
        have he : evtE p k = stpE p k (ss.getD j default) (lstC ss j) := by rw [hel.out]; exact fstE_at (f := fun j => stpE p k (ss.getD j default) (lstC ss j)) hI2.out hz hlt2
        have hzz := hat2.out (by rw [he]; exact hz)
        rw [hzz, he]
        generalize stpE p k (ss.getD j default) (lstC ss j) = e at *
        generalize ss.getD j default = s at *
        obtain ⟨a1, a2, a3, a4, a5⟩ := s
        clear hlt2 hj hz he hzz hco
        repeat' (with_reducible first | refine x_ops ?_ | refine wk ?_ | (with_reducible refine xc (SS) ?_) | ((first | refine gd1 ?_ ?_ | refine gd2 ?_ ?_ | refine gd3 ?_ ?_) <;> (first | exact @False.elim _ | intro hc)))
        exact finV_lit vv rfl
      have hlt20 := Hid.mk hlt2
      have hI3 : ∀ i, i < j + 1 → stpE p k (ss.getD i default) (lstC ss i) = 0 := fun i hi => by
        by_cases e : i = j
        · subst e; exact hz
        · exact hI2.out i (by omega)
      rw [hz] at SS
      replace hI3 := Hid.mk hI3
      replace hco := Hid.mk hco
      clear hlt2 hj hz
      generalize hsd : ss.getD j default = s at *
      replace hsd := Hid.mk hsd
      obtain ⟨a1, a2, a3, a4, a5⟩ := s
      repeat' (with_reducible first | refine x_ops ?_ | refine wk ?_ | (with_reducible refine xc (SS) ?_) | ((first | refine gd1 ?_ ?_ | refine gd2 ?_ ?_ | refine gd3 ?_ ?_) <;> (first | exact @False.elim _ | intro hc)))
      refine nx hlt20.out ⟨vv, ?_, ⟨?_, ?_⟩, hI3.out⟩
      · rw [hco.out]; exact vv
      · (simp only [put_obj]; repeat rw [if_neg (by omega)]); exact hm
      · show 0 < m2.next + 4; omega
end Go.Proofs.YtdefefeifcdogaaGreat
namespace Go.Proofs.YtdefefeifcdogaaGreat
open Go.RowKit
set_option linter.unusedSimpArgs false
set_option linter.unusedVariables false

def noP : Pce := ⟨⟨[], []⟩, []⟩
end Go.Proofs.YtdefefeifcdogaaGreat
namespace Go.Proofs.YtdefefeifcdogaaGreat
open Go.RowKit
set_option linter.unusedSimpArgs false
set_option linter.unusedVariables false

theorem chkI_small {x : Ins} (h : chkI x = 0) : x.cs.length ≤ 14 ∧ x.st.length ≤ 18 ∧ 0 < x.cs.length ∧ stB x.st = true ∧ ∀ i, i < x.cs.length → crsE x.st (x.cs.getD i default) = 0 := by
  unfold chkI at h
  split at h
  · cases h
  · split at h
    · cases h
    · split at h
      · rename_i h1 h2 h3
        exact ⟨by omega, by omega, by omega, h3, firE_zero h⟩
      · cases h
theorem lchk_zero {f : Lf} (h : lchk f = 0) : chkI f.ins = 0 ∧ f.cols.length ≤ 400 ∧ ColsOk f := by
  unfold lchk at h
  split at h
  · rename_i h1; exact absurd h h1
  · split at h
    · cases h
    · split at h
      · rename_i h1 h2 h3
        exact ⟨by omega, by omega, h3⟩
      · cases h
end Go.Proofs.YtdefefeifcdogaaGreat
namespace Go.Proofs.YtdefefeifcdogaaGreat
open Go.RowKit
set_option linter.unusedSimpArgs false
set_option linter.unusedVariables false

theorem stp_zero {p : Pce} {i : Nat} {s : Stp} {last : Int} (h : stpE p i s last = 0) : (1 ≤ s.co ∧ s.co ≤ p.ins.cs.length) ∧ (0 ≤ s.fr ∧ s.fr ≤ (p.ins.cs.getD (s.co - 1).toNat default).f) ∧ last < s.co ∧ ((0 ≤ s.ri ∧ s.ri ≤ 3) ∧ 0 ≤ s.gr ∧ s.gr ≤ 4) ∧ (0 ≤ s.ho ∧ s.ho ≤ lgst p i s.co) ∧ (s.fr = 0 → s.ho = 0) := by
  unfold stpE at h
  split at h
  · cases h
  · split at h
    · cases h
    · split at h
      · cases h
      · split at h
        · cases h
        · split at h
          · cases h
          · omega
structure EvOk (p : Pce) (i : Nat) (x : Evt) : Prop where
  sg : rgtS x.sg = true
  s0 : i = 0 → x.sg.v ≠ 0
  tie : x.tie = true → x.ss.length = 0 ∧ i ≠ 0
  st : ∀ j, j < x.ss.length → stpE p i (x.ss.getD j default) (lstC x.ss j) = 0
theorem evt_zero {p : Pce} {i : Nat} (h : evtE p i = 0) : EvOk p i (p.es.getD i default) := by
  unfold evtE at h
  split at h
  · cases h
  · rename_i h1
    split at h
    · cases h
    · rename_i h2
      refine ⟨?_, fun e ev => h1 (.inr ⟨e, ev⟩), fun ht => ?_, fstE_zero.1 h⟩
      · cases hr : rgtS (p.es.getD i default).sg with
        | true => rfl
        | false => exact absurd (.inl hr) h1
      · constructor
        · exact Decidable.byContradiction fun hl => h2 ⟨ht, .inl hl⟩
        · exact fun e => h2 ⟨ht, .inr e⟩
theorem EvOk.co {p : Pce} {i : Nat} {x : Evt} (h : EvOk p i x) : ∀ j, j < x.ss.length → (j + 1 : Int) ≤ (x.ss.getD j default).co
  | 0, hj => by have := (stp_zero (h.st 0 hj)).1.1; omega
  | j + 1, hj => by
    have h1 := h.co j (by omega)
    have h2 := (stp_zero (h.st (j + 1) hj)).2.2.1
    rw [lstC_succ] at h2
    omega
theorem EvOk.len {p : Pce} {i : Nat} {x : Evt} (h : EvOk p i x) : x.ss.length ≤ p.ins.cs.length := by
  rcases Nat.eq_zero_or_pos x.ss.length with h0 | h0
  · omega
  · have h1 := h.co (x.ss.length - 1) (by omega)
    have h2 := (stp_zero (h.st (x.ss.length - 1) (by omega))).1.2
    omega
structure PcOk (p : Pce) : Prop where
  i : chkI p.ins = 0
  n : p.es.length ≤ 400
  e : ∀ i, i < p.es.length → EvOk p i (p.es.getD i default)
  l : ∀ i, i < p.es.length → (p.es.getD i default).ss.length ≤ 14
  c : p.ins.cs.length ≤ 14
  s : p.ins.st.length ≤ 18
theorem PcOk.of {p : Pce} (h : chkP p = 0) : PcOk p := by
  obtain ⟨h1, h2, h3⟩ := chkP_zero h
  obtain ⟨h4, h5, _⟩ := chkI_small h1
  exact ⟨h1, h2, fun i hi => evt_zero (h3 i hi), fun i hi => by have := (evt_zero (h3 i hi)).len; omega, h4, h5⟩
theorem clones_fn (l : List Stp) (hl : l.length ≤ 1099511627776) : Fn Tryz.prog Gd 157 [tL Stp.cells l] (tL Stp.cells l) := by
  refine Fn.of_vx0 k_slices_Clone_api_Stop_api_Stop (by simp) (by rw [V.pures, pure_tL]; rfl) ?_
  unfold c_slices_Clone_api_Stop_api_Stop tL
  repeat' (with_reducible first | refine x_ops ?_ | refine wk ?_ | ((first | refine gd1 ?_ ?_ | refine gd2 ?_ ?_ | refine gd3 ?_ ?_) <;> (first | exact @False.elim _ | intro hc)))
  refine x_eqN (by exact vw) ?_
  intro b hb
  cases b
  · repeat' (with_reducible first | refine x_ops ?_ | refine wk ?_ | ((first | refine gd1 ?_ ?_ | refine gd2 ?_ ?_ | refine gd3 ?_ ?_) <;> (first | exact @False.elim _ | intro hc)))
    refine x_appE (xs := []) (n := 0) vw vw rfl (stps_len l) (by omega) (by unfold Go.maxLen; omega) ?_
    repeat' (with_reducible first | refine x_ops ?_ | refine wk ?_ | ((first | refine gd1 ?_ ?_ | refine gd2 ?_ ?_ | refine gd3 ?_ ?_) <;> (first | exact @False.elim _ | intro hc)))
    exact finV_ret vv (.sl _ _ _)
  · have hl0 : l = [] := by cases l with
      | nil => rfl
      | cons a l => exact absurd (hb (by simp [Stp.cells])) (by simp)
    subst hl0
    repeat' (with_reducible first | refine x_ops ?_ | refine wk ?_ | ((first | refine gd1 ?_ ?_ | refine gd2 ?_ ?_ | refine gd3 ?_ ?_) <;> (first | exact @False.elim _ | intro hc)))
    exact finV_ret vv (.sl _ _ _)
theorem pcopied_fn (x : Evt) (hl : x.ss.length ≤ 1099511627776) : Fn Tryz.prog Gd 174 [x.val] x.val := by
  refine Fn.of_vx0 k_piece_copied (by simp) (by rw [V.pures, pure_evt]; rfl) ?_
  have C := clones_fn x.ss hl
  obtain ⟨b, ⟨v, d, t⟩, ti, ss⟩ := x
  dsimp only at C
  clear hl
  unfold c_piece_copied
  repeat' (with_reducible first | refine x_ops ?_ | refine wk ?_ | (with_reducible refine xc (C) ?_) | ((first | refine gd1 ?_ ?_ | refine gd2 ?_ ?_ | refine gd3 ?_ ?_) <;> (first | exact @False.elim _ | intro hc)))
  exact finV_ret vv (.agg (.cons (.lit _) (.cons (.lit _) (.cons (.lit _) (.cons (.lit _) (.cons (.lit _) (.cons (.sl _ _ _) .nil)))))))
theorem copiedIns_fn (x : Ins) (h1 : x.cs.length ≤ 1099511627776) (h2 : x.st.length ≤ 1099511627776) : Fn Tryz.prog Gd 171 [x.val] x.val := by
  refine Fn.of_vx0 k_piece_copiedInstrument (by simp) (by rw [V.pures, pure_ins]; rfl) ?_
  have A := clonec_fn x.cs h1
  have B := clone_fn x.st h2
  unfold c_piece_copiedInstrument
  repeat' (with_reducible first | refine x_ops ?_ | refine wk ?_ | (with_reducible refine xc (A) ?_) | (with_reducible refine xc (B) ?_) | ((first | refine gd1 ?_ ?_ | refine gd2 ?_ ?_ | refine gd3 ?_ ?_) <;> (first | exact @False.elim _ | intro hc)))
  exact finV_ret vv (.agg (.cons (.sl _ _ _) (.cons (.sl _ _ _) .nil)))
/-- A call gives an event with another sign, and leaves that sign in a box. -/
def P1Post (m : Mm) (b : Nat) (x : Evt) (f : Sg) (r : V) (m' : Mm) : Prop := r = .agg [vbool x.bar, vint f.v, vbool f.d, vbool f.t, vbool x.tie, .sl x.ss.length (x.ss.flatMap Stp.cells) .no] ∧ m'.obj b = some (.box f.cells 110) ∧ (∀ q, q < m.next → q ≠ b → m'.obj q = m.obj q) ∧ m.next ≤ m'.next
theorem P1Post.ne {m : Mm} {b : Nat} (hb : b < m.next) (x : Evt) (f : Sg) : ∃ r m', P1Post m b x f r m' :=
  ⟨_, m.put b (.box f.cells 110), rfl, if_pos rfl, fun q _ hq => if_neg hq, Nat.le_refl _⟩
theorem plain1_sfn {m : Mm} {b : Nat} (x : Evt) (g f : Sg) (hb : b < m.next) (ho : m.obj b = some (.box g.cells 110)) (hf : f = if x.sg.v ≠ 0 then x.sg else g) (hr : rgtS x.sg = true) :
    SFn Tryz.prog Gd 112 [x.val, .ptr b 0] m (P1Post m b x f) := by
  refine SFn.of_vxS k_piece_Plain_1 (by simp) ?_
  unfold c_piece_Plain_1
  obtain ⟨bb, ⟨v, d, t⟩, ti, ss⟩ := x
  obtain ⟨g1, g2, g3⟩ := g
  dsimp only at hf hr
  have n1 : ¬ b = m.next := by omega
  have n2 : ¬ b = m.next + 1 := by omega
  have n3 : ¬ m.next = b := by omega
  have n4 : ¬ m.next + 1 = b := by omega
  have n5 : b < m.next + 2 := by omega
  have hb0 := Hid.mk hb
  clear hb
  by_cases h0 : v = 0
  · subst h0
    obtain ⟨rfl, rfl⟩ := rgtS_zero hr
    rw [if_neg (by simp)] at hf
    subst hf
    clear hr
    repeat' (with_reducible first | refine x_ops ?_ | simp only [go_sem, Nat.reduceAdd, Nat.reduceEqDiff, Nat.reduceLT, Nat.reduceLeDiff, Nat.reduceMul, Nat.reduceSub, Nat.reducePow, Nat.reduceDiv, Nat.reduceMod, Nat.reduceBEq, Int.reduceBEq, Int.reduceLT, reduceIte, tIs, tBs, tPs, Bool.true_and, Bool.and_self, *] | ((first | refine gd1 ?_ ?_ | refine gd2 ?_ ?_ | refine gd3 ?_ ?_) <;> (first | exact @False.elim _ | intro hc)))
    refine finS_ret vv ⟨rfl, ?_, fun q hq hqb => ?_, ?_⟩
    · (simp only [put_obj]; repeat rw [if_neg (by omega)]); exact ho
    · have := hb0.out
      simp only [put_obj]
      repeat rw [if_neg (by omega)]
    · show m.next ≤ m.next + 2; omega
  · rw [if_pos h0] at hf
    subst hf
    have c1 : (v == 0) = false := by rw [beq_eq_false_iff_ne]; exact h0
    clear hr h0
    repeat' (with_reducible first | refine x_ops ?_ | simp only [go_sem, Nat.reduceAdd, Nat.reduceEqDiff, Nat.reduceLT, Nat.reduceLeDiff, Nat.reduceMul, Nat.reduceSub, Nat.reducePow, Nat.reduceDiv, Nat.reduceMod, Nat.reduceBEq, Int.reduceBEq, Int.reduceLT, reduceIte, tIs, tBs, tPs, Bool.false_and, *] | ((first | refine gd1 ?_ ?_ | refine gd2 ?_ ?_ | refine gd3 ?_ ?_) <;> (first | exact @False.elim _ | intro hc)))
    refine finS_ret vv ⟨rfl, ?_, fun q hq hqb => ?_, ?_⟩
    · have := hb0.out
      simp only [put_obj]
      repeat rw [if_neg (by omega)]
      rw [if_pos trivial]
      rfl
    · have := hb0.out
      simp only [put_obj]
      repeat rw [if_neg (by omega)]
    · show m.next ≤ m.next + 2; omega
end Go.Proofs.YtdefefeifcdogaaGreat
namespace Go.Proofs.YtdefefeifcdogaaGreat
open Go.RowKit
set_option linter.unusedSimpArgs false
set_option linter.unusedVariables false

theorem rewr1_sfn {m : Mm} {b c : Nat} (x : Evt) (g f : Sg) (hb : b < m.next) (hcb : c < m.next) (ho : m.obj b = some (.box g.cells 110)) (hc : m.obj c = some (.box [.fn 112 [.ptr b 0]] 164)) (hf : f = if x.sg.v ≠ 0 then x.sg else g) (hr : rgtS x.sg = true) (hl : x.ss.length ≤ 1099511627776) :
    SFn Tryz.prog Gd 173 [x.val, .ptr c 0] m (P1Post m b x f) := by
  refine SFn.of_vxS k_piece_rewritten_1 (by simp) ?_
  have C := pcopied_fn x hl
  have K := fun (m' : Mm) h1 h2 => plain1_sfn (m := m') (b := b) x g f h1 h2 hf hr
  unfold c_piece_rewritten_1
  obtain ⟨bb, ⟨v, d, t⟩, ti, ss⟩ := x
  have n1 : ¬ c = m.next := by omega
  have n2 : ¬ c = m.next + 1 := by omega
  have n3 : ¬ m.next = c := by omega
  have n4 : ¬ m.next + 1 = c := by omega
  have n5 : c < m.next + 2 := by omega
  have n6 : m.next < m.next + 2 := by omega
  have hb0 := Hid.mk hb
  replace ho := Hid.mk ho
  replace K := Hid.mk K
  clear hb hcb hf hr hl
  repeat' (with_reducible first | refine x_ops ?_ | refine wk ?_ | (with_reducible refine xc (C) ?_) | ((first | refine gd1 ?_ ?_ | refine gd2 ?_ ?_ | refine gd3 ?_ ?_) <;> (first | exact @False.elim _ | intro hc)))
  refine x_callv (f := 112) (cs := [.ptr b 0]) vw kr (K.out _ (by show b < m.next + 2; have := hb0.out; omega) (by
    have := hb0.out
    simp only [put_obj]
    repeat rw [if_neg (by omega)]
    exact ho.out)) (P1Post.ne (by show b < m.next + 2; have := hb0.out; omega) _ _) ?_
  rintro r m' ⟨rfl, q1, q2, q3⟩
  replace q3 : m.next + 2 ≤ m'.next := q3
  have q4 : m'.obj (m.next + 1) = some (.box [vbool false, vint 0, vbool false, vbool false, vbool false, .sl 0 [] .exact] 136) := by
    have := hb0.out
    rw [q2 (m.next + 1) (by show m.next + 1 < m.next + 2; omega) (by omega)]
    exact if_pos rfl
  have q5 : ∀ q, q < m.next → q ≠ b → m'.obj q = m.obj q := fun q h1 h2 => by
    rw [q2 q (by show q < m.next + 2; omega) h2]
    simp only [put_obj]
    repeat rw [if_neg (by omega)]
  replace q1 := Hid.mk q1
  replace q5 := Hid.mk q5
  clear q2
  repeat' (with_reducible first | refine x_ops ?_ | refine wk ?_ | ((first | refine gd1 ?_ ?_ | refine gd2 ?_ ?_ | refine gd3 ?_ ?_) <;> (first | exact @False.elim _ | intro hc)))
  refine finS_ret vv ⟨rfl, ?_, fun q hq hqb => ?_, ?_⟩
  · have := hb0.out
    simp only [put_obj]
    rw [if_neg (by omega)]
    exact q1.out
  · have := hb0.out
    simp only [put_obj]
    rw [if_neg (by omega)]
    exact q5.out q hq hqb
  · show m.next ≤ m'.next; omega
/-- A row of events, all else but a box as it was. -/
def MpPost (m : Mm) (b : Nat) (es : List Evt) (r : V) (m' : Mm) : Prop := ∃ tok, r = .sl es.length ((plnE es es.length).flatMap Evt.cells) tok ∧ (∀ q, q < m.next → q ≠ b → m'.obj q = m.obj q) ∧ m.next ≤ m'.next
theorem frc_succ (l : List Evt) (k : Nat) : frc l (k + 1) = if (l.getD k default).sg.v ≠ 0 then (l.getD k default).sg else frc l k := rfl
set_option maxHeartbeats 1000000 in
theorem mapped_sfn {m : Mm} {b c : Nat} (es : List Evt) (hb : b < m.next) (hcb : c < m.next) (hbc : c ≠ b) (ho : m.obj b = some (.box [vint 0, vbool false, vbool false] 110)) (hc : m.obj c = some (.box [.fn 112 [.ptr b 0]] 164))
    (hn : es.length ≤ 400) (hr : ∀ i, i < es.length → rgtS (es.getD i default).sg = true) (hl : ∀ i, i < es.length → (es.getD i default).ss.length ≤ 14) :
    SFn Tryz.prog Gd 172 [tL Evt.cells es, .fn 173 [.ptr c 0]] m (MpPost m b es) := by
  refine SFn.of_vxS k_piece_mapped_api_Event (by simp) ?_
  unfold c_piece_mapped_api_Event
  replace hr := Hid.mk hr
  replace hl := Hid.mk hl
  have hb0 := Hid.mk hb
  have hcb0 := Hid.mk hcb
  have hc0 := Hid.mk hc
  have ho0 := Hid.mk ho
  clear hb hcb ho hc
  repeat' (with_reducible first | refine x_ops ?_ | refine wk ?_ | ((first | refine gd1 ?_ ?_ | refine gd2 ?_ ?_ | refine gd3 ?_ ?_) <;> (first | exact @False.elim _ | intro hc)))
  refine x_loopW w_piece_mapped_api_Event_p5 kr es.length (fun k t m' => t 10 = vint k ∧ (m'.obj b = some (.box (frc es k).cells 110) ∧ m'.obj c = some (.box [.fn 112 [.ptr b 0]] 164) ∧ (∀ q, q < m.next → q ≠ b → m'.obj q = m.obj q) ∧ m.next ≤ m'.next) ∧ ∃ tok, t 5 = .sl k ((plnE es k).flatMap Evt.cells) tok ∧ Apb m' tok k 136 6 ∧ ∀ q, tok = .own q → m.next ≤ q) ?_ ?_
  · exact ⟨vv, ⟨ho0.out, hc0.out, fun _ _ _ => rfl, Nat.le_refl _⟩, .exact, vv, .inl rfl, fun q e => by cases e⟩
  rintro k t m1 hk ⟨h10, ⟨hob, hoc, hfr, hnx⟩, tok, h5, hap, htk⟩
  replace htk := Hid.mk htk
  replace hap := Hid.mk hap
  replace hfr := Hid.mk hfr
  by_cases hlt : k < es.length
  case neg =>
    have c1 : ¬ ((k : Int) < (es.length : Int)) := by omega
    have hkl : k = es.length := by omega
    subst hkl
    clear hlt hk
    repeat' (with_reducible first | refine x_ops ?_ | refine wk ?_ | ((first | refine gd1 ?_ ?_ | refine gd2 ?_ ?_ | refine gd3 ?_ ?_) <;> (first | exact @False.elim _ | intro hc)))
    exact finS_ret vv ⟨tok, rfl, hfr.out, hnx⟩
  have g1 := evt_take (l := es) (k := k) hlt
  have g2 := evts_len es
  have c1 : (k : Int) < (es.length : Int) := by omega
  have c3 : k * 6 + 6 ≤ es.length * 6 := by omega
  have w1 := w_add1 (k := k) (by omega)
  have hfs := frc_succ es k
  have hps := plnE_succ es k
  have hrk := hr.out k hlt
  have hlk := hl.out k hlt
  have hlt0 := Hid.mk hlt
  have hsl : ((plnE es k).flatMap Evt.cells).length = k * 6 := by rw [evts_len, plnE_len]
  generalize hf1 : frc es (k + 1) = f at *
  generalize frc es k = g at *
  have K := fun (m' : Mm) h1 h2 h3 h4 => rewr1_sfn (m := m') (b := b) (c := c) (es.getD k default) g f h1 h2 h3 h4 hfs hrk (by omega)
  generalize es.getD k default = x at *
  generalize hP9 : plnE es (k + 1) = P9 at *
  generalize plnE es k = P8 at *
  replace hP9 := Hid.mk hP9
  obtain ⟨bb, ⟨v, d, tt⟩, ti, ss⟩ := x
  replace K := Hid.mk K
  replace hps := Hid.mk hps
  replace hsl := Hid.mk hsl
  replace hf1 := Hid.mk hf1
  have hn0 := Hid.mk hn
  replace hob := Hid.mk hob
  replace hoc := Hid.mk hoc
  clear hlt hk hfs hrk hlk hn
  repeat' (with_reducible first | refine x_ops ?_ | refine wk ?_ | ((first | refine gd1 ?_ ?_ | refine gd2 ?_ ?_ | refine gd3 ?_ ?_) <;> (first | exact @False.elim _ | intro hc)))
  have hb1 := hb0.out
  have hc1 := hcb0.out
  refine x_callv (f := 173) (cs := [.ptr c 0]) vw kr (K.out _ (by show b < m1.next + 11; omega) (by show c < m1.next + 11; omega) (by
    simp only [put_obj]
    repeat rw [if_neg (by omega)]
    exact hob.out) (by
    simp only [put_obj]
    repeat rw [if_neg (by omega)]
    exact hoc.out)) (P1Post.ne (by show b < m1.next + 11; omega) _ _) ?_
  rintro r m2 ⟨rfl, q1, q2, q3⟩
  replace q3 : m1.next + 11 ≤ m2.next := q3
  have q5 : ∀ q, q < m1.next → q ≠ b → m2.obj q = m1.obj q := fun q h1 h2 => by
    rw [q2 q (by show q < m1.next + 11; omega) h2]
    simp only [put_obj]
    repeat rw [if_neg (by omega)]
  have hap2 : Apb m2 tok k 136 6 := hap.out.keep (by omega) fun q hq e => q5 q hq fun e2 => by
    subst e2
    exact absurd e (hap.out.box hob.out)
  have hoc2 : m2.obj c = some (.box [.fn 112 [.ptr b 0]] 164) := (q5 c (by omega) hbc).trans hoc.out
  have hfr2 : ∀ q, q < m.next → q ≠ b → m2.obj q = m.obj q := fun q h1 h2 => (q5 q (by omega) h2).trans (hfr.out q h1 h2)
  replace q1 := Hid.mk q1
  replace hap2 := Hid.mk hap2
  replace hoc2 := Hid.mk hoc2
  replace hfr2 := Hid.mk hfr2
  clear q2 q5
  repeat' (with_reducible first | refine x_ops ?_ | refine wk ?_ | ((first | refine gd1 ?_ ?_ | refine gd2 ?_ ?_ | refine gd3 ?_ ?_) <;> (first | exact @False.elim _ | intro hc)))
  refine x_appc (n := k) (xs := P8.flatMap Evt.cells) (j := 1) (ys := [vbool bb, vint f.v, vbool f.d, vbool f.t, vbool ti, .sl ss.length (ss.flatMap Stp.cells) .no]) (k := tok) (k2 := .exact) vw vw hap2.out hsl.out rfl (by have := hlt0.out; have := hn0.out; omega) (by have := hlt0.out; have := hn0.out; unfold Go.maxLen; omega) (by show m1.next + 9 < m2.next; omega) ?_
  intro tok3 m3 hap3 hn3 hf3 hq3
  have hnn : m3.next = m2.next := hn3
  have old : ∀ q cs t, m2.obj q = some (.box cs t) → q < m1.next → m3.obj q = some (.box cs t) := fun q cs t h h1 => (hf3 q (by show ¬ q = m1.next + 9; omega) (hap2.out.box h)).trans h
  have a1 := old _ _ _ q1.out (by omega)
  have a2 := old _ _ _ hoc2.out (by omega)
  have a3 : ∀ q, q < m.next → q ≠ b → m3.obj q = m.obj q := fun q h1 h2 => by
    exact (hf3 q (by show ¬ q = m1.next + 9; omega) fun e => by have := htk.out q e; omega).trans (hfr2.out q h1 h2)
  have htk3 : ∀ q, tok3 = .own q → m.next ≤ q := fun q e => by
    rcases hq3 q e with h | h
    · have h' : q = m1.next + 9 := h
      omega
    · exact htk.out q h
  replace htk3 := Hid.mk htk3
  replace hap3 := Hid.mk hap3
  replace a1 := Hid.mk a1
  replace a3 := Hid.mk a3
  replace a2 := Hid.mk a2
  clear hf3 hq3 old
  repeat' (with_reducible first | refine x_ops ?_ | refine wk ?_ | ((first | refine gd1 ?_ ?_ | refine gd2 ?_ ?_ | refine gd3 ?_ ?_) <;> (first | exact @False.elim _ | intro hc)))
  refine nx hlt0.out ⟨vv, ⟨?_, a2.out, a3.out, by show m.next ≤ m2.next; omega⟩, tok3, ?_, hap3.out.mono (fun _ _ _ => rfl) (by show m3.next ≤ m2.next; omega), htk3.out⟩
  · rw [hf1.out]; exact a1.out
  · rw [hP9.out, hps.out, List.flatMap_append]; exact vv
/-- A piece, and whether it went well; all else but a box as it was. -/
def RwPost (m : Mm) (b : Nat) (p : Pce) (r : V) (m' : Mm) : Prop := (∀ q, q < m.next → q ≠ b → m'.obj q = m.obj q) ∧ if chkP p ≠ 0 then r = .tup [.agg [.sl 0 [] .exact, .sl 0 [] .exact, .sl 0 [] .exact], vint (chkP p)] else
  ∃ tok, r = .tup [.agg [.sl p.ins.cs.length (p.ins.cs.flatMap Crs.cells) .no, .sl p.ins.st.length (p.ins.st.map vint) .no, .sl p.es.length ((plnE p.es p.es.length).flatMap Evt.cells) tok], vint 0]
theorem rewr_sfn {m : Mm} {b : Nat} (p : Pce) (hs : PcSm p) (hb : b < m.next) (ho : m.obj b = some (.box [vint 0, vbool false, vbool false] 110)) :
    SFn Tryz.prog Gd 108 [p.val, .fn 112 [.ptr b 0]] m (RwPost m b p) := by
  refine SFn.of_vxS k_piece_rewritten (by simp) ?_
  have K := pcheck_fn p hs
  unfold c_piece_rewritten
  by_cases h0 : chkP p = 0
  case neg =>
    have c1 : (chkP p == 0) = false := by rw [beq_eq_false_iff_ne]; exact h0
    have hq : ∀ r m', RwPost m b p r m' ↔ (∀ q, q < m.next → q ≠ b → m'.obj q = m.obj q) ∧ r = .tup [.agg [.sl 0 [] .exact, .sl 0 [] .exact, .sl 0 [] .exact], vint (chkP p)] := fun r m' => by rw [RwPost, if_pos h0]
    replace hq := Hid.mk hq
    clear h0 hs ho hb
    repeat' (with_reducible first | refine x_ops ?_ | refine wk ?_ | (with_reducible refine xc (K) ?_) | ((first | refine gd1 ?_ ?_ | refine gd2 ?_ ?_ | refine gd3 ?_ ?_) <;> (first | exact @False.elim _ | intro hc)))
    refine finS_ret vv ((hq.out _ _).2 ⟨fun q h1 h2 => ?_, rfl⟩)
    simp only [put_obj]
    repeat rw [if_neg (by omega)]
  have c1 : (chkP p == 0) = true := by rw [h0]; rfl
  have ok := PcOk.of h0
  have hq : ∀ r m', RwPost m b p r m' ↔ (∀ q, q < m.next → q ≠ b → m'.obj q = m.obj q) ∧ ∃ tok, r = .tup [.agg [.sl p.ins.cs.length (p.ins.cs.flatMap Crs.cells) .no, .sl p.ins.st.length (p.ins.st.map vint) .no, .sl p.es.length ((plnE p.es p.es.length).flatMap Evt.cells) tok], vint 0] := fun r m' => by rw [RwPost, if_neg (by omega)]
  have C := copiedIns_fn p.ins (by have := ok.c; omega) (by have := ok.s; omega)
  have MP := fun (m' : Mm) c h1 h2 h3 h4 h5 => mapped_sfn (m := m') (b := b) (c := c) p.es h1 h2 h3 h4 h5 ok.n (fun i hi => (ok.e i hi).sg) ok.l
  replace hq := Hid.mk hq
  replace MP := Hid.mk MP
  replace ho := Hid.mk ho
  have hb0 := Hid.mk hb
  have n3 : m.next + 4 + 4 < m.next + 4 + 6 := by omega
  clear h0 hs ok hb
  repeat' (with_reducible first | refine x_ops ?_ | refine wk ?_ | (with_reducible refine xc (K) ?_) | (with_reducible refine xc (C) ?_) | ((first | refine gd1 ?_ ?_ | refine gd2 ?_ ?_ | refine gd3 ?_ ?_) <;> (first | exact @False.elim _ | intro hc)))
  have hbb := hb0.out
  refine x_scallR [tL Evt.cells p.es, .fn 173 [.ptr (m.next + 1) 0]] vw (MP.out _ _ (by show b < m.next + 10; omega) (by show m.next + 1 < m.next + 10; omega) (by omega) (by
    simp only [put_obj]
    repeat rw [if_neg (by omega)]
    exact ho.out) (by
    simp only [put_obj]
    repeat rw [if_neg (by omega)]
    first
      | rw [if_pos rfl]
      | rw [if_pos trivial])) ⟨_, _, .exact, rfl, fun _ _ _ => rfl, Nat.le_refl _⟩ ?_
  rintro r m2 ⟨tok, rfl, q2, q3⟩
  replace q3 : m.next + 10 ≤ m2.next := q3
  have q8 := q2 (m.next + 8) (by show m.next + 8 < m.next + 10; omega) (by omega)
  have q4 := q2 (m.next + 2) (by show m.next + 2 < m.next + 10; omega) (by omega)
  have q5 : ∀ q, q < m.next → q ≠ b → m2.obj q = m.obj q := fun q h1 h2 => by
    rw [q2 q (by show q < m.next + 10; omega) h2]
    simp only [put_obj]
    repeat rw [if_neg (by omega)]
  replace q5 := Hid.mk q5
  clear q2
  simp only [put_obj] at q8 q4
  rw [if_pos trivial] at q8
  rw [if_neg (by omega), if_neg (by omega), if_pos trivial] at q4
  repeat' (with_reducible first | refine x_ops ?_ | refine wk ?_ | ((first | refine gd1 ?_ ?_ | refine gd2 ?_ ?_ | refine gd3 ?_ ?_) <;> (first | exact @False.elim _ | intro hc)))
  refine finS_ret vv ((hq.out _ _).2 ⟨fun q h1 h2 => ?_, tok, rfl⟩)
  simp only [put_obj]
  repeat rw [if_neg (by omega)]
  exact q5.out q h1 h2
/-- What Plain answers. -/
noncomputable def plnR (p : Pce) : Pce × Int := if chkP p ≠ 0 then (noP, chkP p) else (plnP p, 0)
theorem pplain_fn (p : Pce) (hs : PcSm p) : Fn Tryz.prog Gd 47 [p.val] (.tup [(plnR p).1.val, vint (plnR p).2]) := by
  refine Fn.of_vx0 k_piece_Plain (by simp) (by rw [V.pures, pure_pce]; rfl) ?_
  have K := fun (m : Mm) h1 h2 => rewr_sfn (m := m) (b := 4) p hs h1 h2
  replace K := Hid.mk K
  unfold c_piece_Plain
  repeat' (with_reducible first | refine x_ops ?_ | refine wk ?_ | ((first | refine gd1 ?_ ?_ | refine gd2 ?_ ?_ | refine gd3 ?_ ?_) <;> (first | exact @False.elim _ | intro hc)))
  refine x_scallR [p.val, .fn 112 [.ptr 4 0]] vw (K.out _ (by show 4 < 6; omega) vv) ?_ ?_
  · by_cases h0 : chkP p = 0
    · exact ⟨_, _, fun _ _ _ => rfl, by rw [if_neg (by omega)]; exact ⟨.exact, rfl⟩⟩
    · exact ⟨_, _, fun _ _ _ => rfl, by rw [if_pos h0]⟩
  rintro r m2 ⟨q1, q2⟩
  have q3 := q1 1 (by show 1 < 6; omega) (by omega)
  simp only [put_obj] at q3
  clear q1
  by_cases h0 : chkP p = 0
  · rw [if_neg (by omega)] at q2
    obtain ⟨tok, rfl⟩ := q2
    have hq : plnR p = (plnP p, 0) := by rw [plnR, if_neg (by omega)]
    have hl := plnE_len p.es p.es.length
    rw [hq]
    clear hq h0
    have q4 : m2.obj 1 = some (.box [.sl 0 [] .exact, .sl 0 [] .exact, .sl 0 [] .exact] 49) := q3
    clear q3
    repeat' (with_reducible first | refine x_ops ?_ | refine wk ?_ | ((first | refine gd1 ?_ ?_ | refine gd2 ?_ ?_ | refine gd3 ?_ ?_) <;> (first | exact @False.elim _ | intro hc)))
    refine finV_ret vv ?_
    rw [show (plnP p).es = plnE p.es p.es.length from rfl, hl]
    exact .tup (.cons (.agg (.cons (.sl _ _ _) (.cons (.sl _ _ _) (.cons (.sl _ _ _) .nil)))) (.cons (.lit _) .nil))
  · rw [if_pos h0] at q2
    subst q2
    have hq : plnR p = (noP, chkP p) := by rw [plnR, if_pos h0]
    rw [hq]
    clear hq h0
    have q4 : m2.obj 1 = some (.box [.sl 0 [] .exact, .sl 0 [] .exact, .sl 0 [] .exact] 49) := q3
    clear q3
    repeat' (with_reducible first | refine x_ops ?_ | refine wk ?_ | ((first | refine gd1 ?_ ?_ | refine gd2 ?_ ?_ | refine gd3 ?_ ?_) <;> (first | exact @False.elim _ | intro hc)))
    refine finV_ret vv ?_
    exact .tup (.cons (.agg (.cons (.sl _ _ _) (.cons (.sl _ _ _) (.cons (.sl _ _ _) .nil)))) (.cons (.lit _) .nil))
end Go.Proofs.YtdefefeifcdogaaGreat
namespace Go.Proofs.YtdefefeifcdogaaGreat
open Go.RowKit
set_option linter.unusedSimpArgs false
set_option linter.unusedVariables false

theorem numC_succ (l : List Stp) (c : Int) (j : Nat) : numC l c (j + 1) = if (l.getD j default).co = c then (l.getD j default).fr else numC l c j := rfl
/-- The cells of a column, first k courses. -/
def celO (ss : List Stp) (k : Nat) : List (List Int) := (List.range k).map fun j => [numC ss ((j + 1 : Nat) : Int) ss.length]
theorem celO_succ (ss : List Stp) (k : Nat) : (celO ss (k + 1)).map tIs = (celO ss k).map tIs ++ [.sl 1 [vint (numC ss ((k + 1 : Nat) : Int) ss.length)] .no] := by
  rw [celO, List.range_succ, List.map_append, List.map_append]; rfl
theorem celO_len (ss : List Stp) (k : Nat) : (celO ss k).length = k := by rw [celO, List.length_map, List.length_range]
theorem clmO_ce (n : Nat) (x : Evt) : clmO n x = ⟨x.bar, x.tie, [x.sg], celO x.ss n⟩ := rfl
theorem colsO_len (p : Pce) : (lfO p).cols.length = p.es.length := by rw [lfO, List.length_map, plnP, plnE_len]
theorem colsO_succ (p : Pce) {k : Nat} (h : k < p.es.length) : ((lfO p).cols.take (k + 1)).flatMap Clm.cells = ((lfO p).cols.take k).flatMap Clm.cells ++ (clmO p.ins.cs.length ((plnP p).es.getD k default)).cells := by
  have h1 : k < (lfO p).cols.length := by rw [colsO_len]; exact h
  have h2 : k < (plnP p).es.length := by rw [plnP, plnE_len]; exact h
  rw [List.take_add_one, List.getElem?_eq_getElem h1, List.flatMap_append]
  congr 1
  rw [List.getD_eq_getElem?_getD, List.getElem?_eq_getElem h2]
  show List.flatMap Clm.cells [((plnP p).es.map (clmO p.ins.cs.length))[k]'(by rw [List.length_map]; exact h2)] = _
  rw [List.getElem_map]; simp
set_option maxHeartbeats 4000000 in
theorem of_fn (p : Pce) (hs : PcSm p) : Fn Tryz.prog Gd 39 [p.val] (.tup [(ofR p).1.val, vint (ofR p).2]) := by
  refine Fn.of_vx0 k_leaf_Of (by simp) (by rw [V.pures, pure_pce]; rfl) ?_
  have PL := pplain_fn p hs
  unfold c_leaf_Of
  by_cases h0 : chkP p = 0
  case neg =>
    have hp : plnR p = (noP, chkP p) := by rw [plnR, if_pos h0]
    have hq : ofR p = (noL, chkP p) := by rw [ofR, if_pos h0]
    have c1 : (chkP p == 0) = false := by rw [beq_eq_false_iff_ne]; exact h0
    rw [hp] at PL
    rw [hq]
    clear hp hq h0 hs
    repeat' (with_reducible first | refine x_ops ?_ | refine wk ?_ | (with_reducible refine xc (PL) ?_) | ((first | refine gd1 ?_ ?_ | refine gd2 ?_ ?_ | refine gd3 ?_ ?_) <;> (first | exact @False.elim _ | intro hc)))
    refine finV_ret vv ?_
    exact .tup (.cons (.agg (.cons (.sl _ _ _) (.cons (.sl _ _ _) (.cons (.sl _ _ _) .nil)))) (.cons (.lit _) .nil))
  have ok := PcOk.of h0
  have hp : plnR p = (plnP p, 0) := by rw [plnR, if_neg (by omega)]
  have hq : ofR p = (lfO p, 0) := by rw [ofR, if_neg (by omega)]
  have C := copied_fn p.ins (by have := ok.c; omega) (by have := ok.s; omega)
  have hl := plnE_len p.es p.es.length
  have hcl := colsO_len p
  have hcs := fun k => colsO_succ p (k := k)
  have hls : ∀ i, i < p.es.length → ((plnP p).es.getD i default).ss.length ≤ 14 := fun i hi => by
    rw [show (plnP p).es = plnE p.es p.es.length from rfl, plnE_at hi]; exact ok.l i hi
  have hn := ok.n
  have hc14 := ok.c
  rw [hp, show (plnP p).val = .agg [tL Crs.cells p.ins.cs, tIs p.ins.st, .sl p.es.length ((plnP p).es.flatMap Evt.cells) .no] from by rw [Pce.val, tL, tL, show (plnP p).es = plnE p.es p.es.length from rfl, hl]; rfl] at PL
  rw [hq, show (lfO p).val = .agg [tL Crs.cells p.ins.cs, tIs p.ins.st, .sl p.es.length ((lfO p).cols.flatMap Clm.cells) .no] from by rw [Lf.val, tL, tL, hcl]; rfl]
  have hpl : (plnP p).es.length = p.es.length := hl
  generalize (plnP p).es = E at *
  generalize (lfO p).cols = CL at *
  replace hcs := Hid.mk hcs
  replace hls := Hid.mk hls
  have hcl0 := Hid.mk hcl
  have hpl0 := Hid.mk hpl
  have hn0 := Hid.mk hn
  have hc140 := Hid.mk hc14
  clear hp hq h0 hs ok hl hcl hpl hn hc14
  repeat' (with_reducible first | refine x_ops ?_ | refine wk ?_ | (with_reducible refine xc (PL) ?_) | (with_reducible refine xc (C) ?_) | ((first | refine gd1 ?_ ?_ | refine gd2 ?_ ?_ | refine gd3 ?_ ?_) <;> (first | exact @False.elim _ | intro hc)))
  clear PL C
  refine x_loopW w_leaf_Of_p20 kr p.es.length (fun k t m => t 30 = vint k ∧ (m.obj 0 = some (.box [.sl p.ins.cs.length (p.ins.cs.flatMap Crs.cells) .no, .sl p.ins.st.length (p.ins.st.map vint) .no, .sl p.es.length (p.es.flatMap Evt.cells) .no] 49) ∧ m.obj 1 = some (.box [.sl 0 [] .exact, .sl 0 [] .exact, .sl 0 [] .exact] 28) ∧ 15 < m.next) ∧ ∃ tok, m.obj 15 = some (.box [.sl p.ins.cs.length (p.ins.cs.flatMap Crs.cells) .no, .sl p.ins.st.length (p.ins.st.map vint) .no, .sl k ((CL.take k).flatMap Clm.cells) tok] 28) ∧ Apb m tok k 84 4) ?_ ?_
  · exact ⟨vv, ⟨vv, vv, by show 15 < 17; omega⟩, .exact, vv, .inl rfl⟩
  rintro k t m hk ⟨h30, ⟨hm0, hm1, hmn⟩, tok, hm15, hap⟩
  replace hap := Hid.mk hap
  by_cases hlt : k < p.es.length
  case neg =>
    have c1 : ¬ (k : Int) < (p.es.length : Int) := by omega
    have hkl : k = p.es.length := by omega
    rw [hkl, List.take_of_length_le (by have := hcl0.out; omega)] at hm15
    subst hkl
    clear hlt hk
    repeat' (with_reducible first | refine x_ops ?_ | refine wk ?_ | ((first | refine gd1 ?_ ?_ | refine gd2 ?_ ?_ | refine gd3 ?_ ?_) <;> (first | exact @False.elim _ | intro hc)))
    refine finV_ret vv ?_
    exact .tup (.cons (.agg (.cons (.sl _ _ _) (.cons (.sl _ _ _) (.cons (.sl _ _ _) .nil)))) (.cons (.lit _) .nil))
  have g1 := evt_take (l := E) (k := k) (by have := hpl0.out; omega)
  have g2 := evts_len E
  rw [hpl0.out] at g2
  have c1 : (k : Int) < (p.es.length : Int) := by omega
  have c3 : k * 6 + 6 ≤ p.es.length * 6 := by omega
  have w1 := w_add1 (k := k) (by have := hn0.out; omega)
  have hsl : ((CL.take k).flatMap Clm.cells).length = k * 4 := by
    rw [clms_len, List.length_take, Nat.min_eq_left (by have := hcl0.out; omega)]
  have hcs1 := hcs.out k hlt
  have hls1 := hls.out k hlt
  have hlt0 := Hid.mk hlt
  have hmn0 := Hid.mk hmn
  generalize E.getD k default = x at *
  generalize hL9 : (CL.take (k + 1)).flatMap Clm.cells = L9 at *
  generalize (CL.take k).flatMap Clm.cells = L8 at *
  rw [clmO_ce] at hcs1
  obtain ⟨bb, ⟨v, d, tt⟩, ti, ss⟩ := x
  have hcs2 : (Clm.mk bb ti [⟨v, d, tt⟩] (celO ss p.ins.cs.length)).cells = [vbool bb, vbool ti, .sl 1 [vint v, vbool d, vbool tt] .no, .sl p.ins.cs.length ((celO ss p.ins.cs.length).map tIs) .no] := by
    show [vbool bb, vbool ti, V.sl 1 [vint v, vbool d, vbool tt] .no, V.sl (celO ss p.ins.cs.length).length ((celO ss p.ins.cs.length).map tIs) .no] = _
    rw [celO_len]
  dsimp only at hcs1
  rw [hcs2] at hcs1
  clear hcs2
  replace hL9 := Hid.mk hL9
  replace hcs1 := Hid.mk hcs1
  replace hsl := Hid.mk hsl
  replace hls1 := Hid.mk hls1
  replace hm15 := Hid.mk hm15
  replace hm1 := Hid.mk hm1
  have n0 : 0 < m.next := by omega
  clear hlt hk hmn
  repeat' (with_reducible first | refine x_ops ?_ | refine wk ?_ | ((first | refine gd1 ?_ ?_ | refine gd2 ?_ ?_ | refine gd3 ?_ ?_) <;> (first | exact @False.elim _ | intro hc)))
  refine x_loopW w_leaf_Of_p13 kr p.ins.cs.length (fun j t' m' => t' 46 = vint j ∧ (m'.obj 0 = some (.box [.sl p.ins.cs.length (p.ins.cs.flatMap Crs.cells) .no, .sl p.ins.st.length (p.ins.st.map vint) .no, .sl p.es.length (p.es.flatMap Evt.cells) .no] 49) ∧ m'.obj 1 = some (.box [.sl 0 [] .exact, .sl 0 [] .exact, .sl 0 [] .exact] 28) ∧ m'.obj 15 = some (.box [.sl p.ins.cs.length (p.ins.cs.flatMap Crs.cells) .no, .sl p.ins.st.length (p.ins.st.map vint) .no, .sl k L8 tok] 28) ∧ m'.obj (m.next + 2) = some (.box [vbool bb, vint v, vbool d, vbool tt, vbool ti, .sl ss.length (ss.flatMap Stp.cells) .no] 136) ∧ m.next + 14 ≤ m'.next) ∧ Apb m' tok k 84 4 ∧ ∃ tok2, m'.obj (m.next + 12) = some (.box [vbool bb, vbool ti, .sl 1 [vint v, vbool d, vbool tt] .exact, .sl j ((celO ss j).map tIs) tok2] 84) ∧ Apb m' tok2 j 23 1) ?_ ?_
  · have := hmn0.out
    refine ⟨vv, ⟨?_, ?_, ?_, ?_, Nat.le_refl _⟩, ?_, .exact, vv, .inl rfl⟩
    · (simp only [put_obj]; repeat rw [if_neg (by omega)]); exact hm0
    · (simp only [put_obj]; repeat rw [if_neg (by omega)]); exact hm1.out
    · (simp only [put_obj]; repeat rw [if_neg (by omega)]); exact hm15.out
    · simp only [put_obj]
      repeat rw [if_neg (by omega)]
      first
        | (rw [if_pos rfl]; done)
        | (rw [if_pos trivial]; done)
        | (rw [if_pos rfl]; rfl)
        | (rw [if_pos trivial]; rfl)
    · refine hap.out.mono (fun q hq _ => ?_) (by show m.next ≤ m.next + 14; omega)
      (simp only [put_obj]; repeat rw [if_neg (by omega)])
  clear hm0 hm1 hm15 hap g1 g2 c3
  rintro j t1 m1 hj ⟨h46, ⟨hm0, hm1, hm15, hm2, hn1⟩, hap, tok2, hm12, hap2⟩
  replace hap := Hid.mk hap
  replace hap2 := Hid.mk hap2
  have hmnn := hmn0.out
  have n1 : m.next + 2 < m1.next := by omega
  have n2 : m.next + 12 < m1.next := by omega
  have n3 : 15 < m1.next := by omega
  have n4 : 0 < m1.next := by omega
  have hn10 := Hid.mk hn1
  by_cases hlt2 : j < p.ins.cs.length
  case neg =>
    have d1 : ¬ ((j : Int) < (p.ins.cs.length : Int)) := by omega
    have hjl : j = p.ins.cs.length := by omega
    subst hjl
    clear hlt2 hj hn1 hmnn
    repeat' (with_reducible first | refine x_ops ?_ | refine wk ?_ | ((first | refine gd1 ?_ ?_ | refine gd2 ?_ ?_ | refine gd3 ?_ ?_) <;> (first | exact @False.elim _ | intro hc)))
    refine x_appc (n := k) (xs := L8) (j := 1) (ys := [vbool bb, vbool ti, .sl 1 [vint v, vbool d, vbool tt] .no, .sl p.ins.cs.length ((celO ss p.ins.cs.length).map tIs) .no]) (k := tok) (k2 := .exact) vw vw (hap.out.mono (fun _ _ _ => rfl) (Nat.le_add_right _ _)) hsl.out rfl (by have := hlt0.out; have := hn0.out; omega) (by have := hlt0.out; have := hn0.out; unfold Go.maxLen; omega) (by show m1.next + 4 < m1.next + 7; omega) ?_
    intro tok3 m3 hap3 hn3 hf3 hq3
    have hnn : m3.next = m1.next + 7 := hn3
    have old : ∀ q cs t, q < m1.next → m1.obj q = some (.box cs t) → m3.obj q = some (.box cs t) := fun q cs t hq h => (hf3 q (by show ¬ q = m1.next + 4; omega) (hap.out.box h)).trans h
    have a0 := old _ _ _ n4 hm0
    have a1 := old _ _ _ (by omega) hm1
    have a15 := old _ _ _ n3 hm15
    replace hap3 := Hid.mk hap3
    clear hm0 hm1 hm15 hm2 hm12 hf3 hq3 old hn3
    repeat' (with_reducible first | refine x_ops ?_ | refine wk ?_ | ((first | refine gd1 ?_ ?_ | refine gd2 ?_ ?_ | refine gd3 ?_ ?_) <;> (first | exact @False.elim _ | intro hc)))
    refine nx hlt0.out ⟨vv, ⟨a0, a1, by show 15 < m1.next + 7; omega⟩, tok3, ?_, ?_⟩
    · rw [hL9.out, hcs1.out]
      first
        | exact vv
        | exact if_pos rfl
        | rfl
    · show Apb ⟨(m3.put 15 _).obj, _⟩ tok3 (k + 1) 84 4
      exact (hap3.out.put a15).mono (fun _ _ _ => rfl) (by show m3.next ≤ m1.next + 7; omega)
  have d1 : (j : Int) < (p.ins.cs.length : Int) := by omega
  have w2 := w_add1 (k := j) (by have := hc140.out; omega)
  have hlt20 := Hid.mk hlt2
  clear hlt2 hj hn1 hmnn
  repeat' (with_reducible first | refine x_ops ?_ | refine wk ?_ | ((first | refine gd1 ?_ ?_ | refine gd2 ?_ ?_ | refine gd3 ?_ ?_) <;> (first | exact @False.elim _ | intro hc)))
  refine x_loopW w_leaf_Of_p6 kr ss.length (fun i t' m' => t' 52 = vint i ∧ t' 11 = vint (numC ss ((j + 1 : Nat) : Int) i) ∧ (∀ q, q < m1.next → m'.obj q = m1.obj q) ∧ m1.next ≤ m'.next) ?_ ?_
  · exact ⟨vv, vv, fun _ _ => rfl, Nat.le_refl _⟩
  rintro i t2 m2 hi ⟨h52, h11, hfr, hnx⟩
  replace hfr := Hid.mk hfr
  have hnx0 := Hid.mk hnx
  by_cases hlt3 : i < ss.length
  case pos =>
    have e1 : (i : Int) < (ss.length : Int) := by omega
    have g1 := stp_take (l := ss) (k := i) hlt3
    have g2 := stps_len ss
    have e3 : i * 5 + 5 ≤ ss.length * 5 := by omega
    have w3 := w_add1 (k := i) (by have := hls1.out; dsimp only at this; omega)
    have hnc := numC_succ ss ((j + 1 : Nat) : Int) i
    have hlt30 := Hid.mk hlt3
    generalize ss.getD i default = s at *
    obtain ⟨a1, a2, a3, a4, a5⟩ := s
    have hfr2 : ∀ q, q < m1.next → ∀ a b : AObj, ((m2.put (m2.next + 2) a).put (m2.next + 2) b).obj q = m1.obj q := fun q hq a b => by
      have := hnx0.out
      simp only [put_obj]
      rw [if_neg (by omega), if_neg (by omega)]
      exact hfr.out q hq
    replace hfr2 := Hid.mk hfr2
    clear hlt3 hi hnx
    by_cases hc : a1 = ((j + 1 : Nat) : Int)
    · have e4 : (a1 == ((j + 1 : Nat) : Int)) = true := by rw [beq_iff_eq]; exact hc
      rw [if_pos hc] at hnc
      replace hnc := Hid.mk hnc
      clear hc
      repeat' (with_reducible first | refine x_ops ?_ | refine wk ?_ | ((first | refine gd1 ?_ ?_ | refine gd2 ?_ ?_ | refine gd3 ?_ ?_) <;> (first | exact @False.elim _ | intro hc)))
      refine nx hlt30.out ⟨vv, ?_, fun q hq => hfr2.out q hq _ _, by show m1.next ≤ m2.next + 4; have := hnx0.out; omega⟩
      rw [hnc.out]; exact vv
    · have e4 : (a1 == ((j + 1 : Nat) : Int)) = false := by rw [beq_eq_false_iff_ne]; exact hc
      rw [if_neg hc] at hnc
      replace hnc := Hid.mk hnc
      clear hc
      repeat' (with_reducible first | refine x_ops ?_ | refine wk ?_ | ((first | refine gd1 ?_ ?_ | refine gd2 ?_ ?_ | refine gd3 ?_ ?_) <;> (first | exact @False.elim _ | intro hc)))
      refine nx hlt30.out ⟨vv, ?_, fun q hq => hfr2.out q hq _ _, by show m1.next ≤ m2.next + 4; have := hnx0.out; omega⟩
      rw [hnc.out]; exact vw
  have e1 : ¬ (i : Int) < (ss.length : Int) := by omega
  have hil : i = ss.length := by omega
  subst hil
  have b0 := (hfr.out 0 n4).trans hm0
  have b1 := (hfr.out 1 (by omega)).trans hm1
  have b15 := (hfr.out 15 n3).trans hm15
  have b2 := (hfr.out _ n1).trans hm2
  have b12 := (hfr.out _ n2).trans hm12
  have hap' : Apb m2 tok k 84 4 := hap.out.mono (fun q hq _ => hfr.out q hq) hnx
  have hap2' : Apb m2 tok2 j 23 1 := hap2.out.mono (fun q hq _ => hfr.out q hq) hnx
  have hces := celO_succ ss j
  have hcel : ((celO ss j).map tIs).length = j * 1 := by rw [List.length_map, celO_len, Nat.mul_one]
  generalize numC ss ((j + 1 : Nat) : Int) ss.length = y at *
  generalize hC9 : (celO ss (j + 1)).map tIs = C9 at *
  replace hC9 := Hid.mk hC9
  generalize (celO ss j).map tIs = C8 at *
  have hj14 : j < 14 := by have := hlt20.out; have := hc140.out; omega
  replace hj14 := Hid.mk hj14
  replace hces := Hid.mk hces
  replace hcel := Hid.mk hcel
  replace hap' := Hid.mk hap'
  replace hap2' := Hid.mk hap2'
  have m12 : m.next + 12 < m2.next := by omega
  have m2n : m.next + 14 ≤ m2.next := by have := hn10.out; omega
  replace m2n := Hid.mk m2n
  clear hlt3 hi hm0 hm1 hm15 hm2 hm12 hap hap2 hfr
  repeat' (with_reducible first | refine x_ops ?_ | refine wk ?_ | ((first | refine gd1 ?_ ?_ | refine gd2 ?_ ?_ | refine gd3 ?_ ?_) <;> (first | exact @False.elim _ | intro hc)))
  have hx : ∀ q, tok2 = .own q → tok ≠ .own q := hap2'.out.ne hap'.out (by decide)
  refine x_appc (n := j) (xs := C8) (j := 1) (ys := [.sl 1 [vint y] .no]) (k := tok2) (k2 := .exact) vw vw (hap2'.out.mono (fun _ _ _ => rfl) (Nat.le_add_right _ _)) hcel.out rfl (by have := hj14.out; omega) (by have := hj14.out; unfold Go.maxLen; omega) (by show m2.next + 5 < m2.next + 8; omega) ?_
  intro tok3 m3 hap3 hn3 hf3 hq3
  have hnn : m3.next = m2.next + 8 := hn3
  have old : ∀ q cs t, q < m2.next → m2.obj q = some (.box cs t) → m3.obj q = some (.box cs t) := fun q cs t hq h => (hf3 q (by show ¬ q = m2.next + 5; omega) (hap2'.out.box h)).trans h
  have hm2n := m2n.out
  have hmnn := hmn0.out
  have a0 := old _ _ _ (by omega) b0
  have a1 := old _ _ _ (by omega) b1
  have a15 := old _ _ _ (by omega) b15
  have a2 := old _ _ _ (by omega) b2
  have a12 := old _ _ _ (by omega) b12
  have hapk : Apb m3 tok k 84 4 := hap'.out.keep (by omega) fun q hq e => hf3 q (by show ¬ q = m2.next + 5; omega) fun e2 => hx q e2 e
  have hapk2 := hapk.put (o := .box [vbool bb, vbool ti, .sl 1 [vint v, vbool d, vbool tt] .exact, .sl (j + 1) (C8 ++ [.sl 1 [vint y] .no]) tok3] 84) a12
  have hap32 := hap3.put (o := .box [vbool bb, vbool ti, .sl 1 [vint v, vbool d, vbool tt] .exact, .sl (j + 1) (C8 ++ [.sl 1 [vint y] .no]) tok3] 84) a12
  replace hapk2 := Hid.mk hapk2
  replace hap32 := Hid.mk hap32
  have f0 : ¬ 0 = m.next + 12 := by omega
  have f1 : ¬ 1 = m.next + 12 := by omega
  have f15 : ¬ 15 = m.next + 12 := by omega
  clear b0 b1 b15 b2 b12 hf3 hq3 old hap3 hapk hm2n hmnn hx hn3
  repeat' (with_reducible first | refine x_ops ?_ | refine wk ?_ | ((first | refine gd1 ?_ ?_ | refine gd2 ?_ ?_ | refine gd3 ?_ ?_) <;> (first | exact @False.elim _ | intro hc)))
  refine nx hlt20.out ⟨vv, ⟨?_, ?_, ?_, ?_, by show m.next + 14 ≤ m2.next + 8; have := m2n.out; omega⟩, ?_, tok3, ?_, ?_⟩
  · simp only [put_obj]; rw [if_neg f0]; exact a0
  · simp only [put_obj]; rw [if_neg f1]; exact a1
  · simp only [put_obj]; rw [if_neg f15]; exact a15
  · simp only [put_obj]; rw [if_neg (by omega)]; exact a2
  · exact hapk2.out.mono (fun _ _ _ => rfl) (by show m3.next ≤ m2.next + 8; omega)
  · rw [hC9.out, hces.out]
    first
      | exact vv
      | exact if_pos rfl
      | rfl
  · exact hap32.out.mono (fun _ _ _ => rfl) (by show m3.next ≤ m2.next + 8; omega)
end Go.Proofs.YtdefefeifcdogaaGreat
namespace Go.Proofs.YtdefefeifcdogaaGreat
open Go.RowKit
set_option linter.unusedSimpArgs false
set_option linter.unusedVariables false

theorem del_obj (m : Mm) (i j : Nat) : (m.del i).obj j = if j = i then none else m.obj j := rfl
theorem del_next (m : Mm) (i : Nat) : (m.del i).next = m.next := rfl
attribute [go_sem] del_obj del_next
/-- A copy of a piece: its events lie in a new box. -/
def CpPost (m : Mm) (p : Pce) (r : V) (m' : Mm) : Prop := ((∀ q, q < m.next → m'.obj q = m.obj q) ∧ m.next ≤ m'.next) ∧ ∃ ev, r = .agg [.sl p.ins.cs.length (p.ins.cs.flatMap Crs.cells) .no, .sl p.ins.st.length (p.ins.st.map vint) .no, ev] ∧
  ((p.es.length = 0 ∧ ev = .sl 0 [] .exact) ∨ (0 < p.es.length ∧ ∃ i, m.next ≤ i ∧ i < m'.next ∧ ev = .gsl i p.es.length 6 ∧ m'.obj i = some (.box (p.es.flatMap Evt.cells) 136)))
theorem CpPost.ne (m : Mm) (p : Pce) : ∃ r m', CpPost m p r m' := by
  rcases Nat.eq_zero_or_pos p.es.length with h | h
  · exact ⟨_, m, ⟨fun _ _ => rfl, Nat.le_refl _⟩, _, rfl, .inl ⟨h, rfl⟩⟩
  · refine ⟨_, ⟨(m.put m.next (.box (p.es.flatMap Evt.cells) 136)).obj, m.next + 1⟩, ⟨fun q hq => if_neg (by omega), Nat.le_succ _⟩, _, rfl, .inr ⟨h, m.next, Nat.le_refl _, Nat.lt_succ_self _, rfl, if_pos rfl⟩⟩
end Go.Proofs.YtdefefeifcdogaaGreat
namespace Go.Proofs.YtdefefeifcdogaaGreat
open Go.RowKit
set_option linter.unusedSimpArgs false
set_option linter.unusedVariables false

theorem lfO_sm {p : Pce} (ok : PcOk p) : LfSm (lfO p) := by
  refine ⟨by rw [colsO_len]; have := ok.n; omega, fun i hi => ?_⟩
  rw [colsO_len] at hi
  have h2 : i < (plnP p).es.length := by rw [plnP, plnE_len]; exact hi
  have e : (lfO p).cols.getD i default = clmO p.ins.cs.length ((plnP p).es.getD i default) := by
    rw [List.getD_eq_getElem?_getD, lfO, List.getElem?_map, List.getD_eq_getElem?_getD, List.getElem?_eq_getElem h2]; rfl
  rw [e, clmO_ce]
  have hc := ok.c
  refine ⟨by show 1 ≤ _; omega, by show (celO _ _).length ≤ _; rw [celO_len]; omega, fun j hj => ?_⟩
  have hj' : j < p.ins.cs.length := by
    have h3 : j < (celO ((plnP p).es.getD i default).ss p.ins.cs.length).length := hj
    rwa [celO_len] at h3
  show ((celO _ p.ins.cs.length).getD j []).length ≤ _
  rw [celO, List.getD_eq_getElem?_getD, List.getElem?_map, List.getElem?_range hj']
  show 1 ≤ _
  omega
theorem noL_sm : LfSm noL := ⟨by show 0 ≤ _; omega, fun i hi => absurd hi (Nat.not_lt_zero i)⟩
end Go.Proofs.YtdefefeifcdogaaGreat
namespace Go.Proofs.YtdefefeifcdogaaGreat
open Go.RowKit
set_option linter.unusedSimpArgs false
set_option linter.unusedVariables false

theorem isameI_fn (x y : Ins) (hx1 : x.cs.length ≤ 17592186044416) (hx2 : x.st.length ≤ 17592186044416) : Fn Tryz.prog Gd 98 [x.val, y.val] (vbool (decide (x = y))) := by
  refine Fn.of_vx0 k_instrument_Same (by simp) (by rw [V.pures, pure_ins, V.pures, pure_ins]; rfl) ?_
  unfold c_instrument_Same
  by_cases h1 : x.cs.length = y.cs.length
  case neg =>
    have c1 : ((x.cs.length : Int) == (y.cs.length : Int)) = false := by rw [beq_eq_false_iff_ne]; omega
    rw [decide_eq_false fun e => h1 (by rw [e])]
    clear h1
    repeat' (with_reducible first | refine x_ops ?_ | refine wk ?_ | ((first | refine gd1 ?_ ?_ | refine gd2 ?_ ?_ | refine gd3 ?_ ?_) <;> (first | exact @False.elim _ | intro hc)))
    exact finV_lit vv rfl
  have c1 : ((x.cs.length : Int) == (y.cs.length : Int)) = true := by rw [beq_iff_eq]; omega
  by_cases h2 : x.st.length = y.st.length
  case neg =>
    have c2 : ((x.st.length : Int) == (y.st.length : Int)) = false := by rw [beq_eq_false_iff_ne]; omega
    rw [decide_eq_false fun e => h2 (by rw [e])]
    clear h1 h2
    repeat' (with_reducible first | refine x_ops ?_ | refine wk ?_ | ((first | refine gd1 ?_ ?_ | refine gd2 ?_ ?_ | refine gd3 ?_ ?_) <;> (first | exact @False.elim _ | intro hc)))
    exact finV_lit vv rfl
  have c2 : ((x.st.length : Int) == (y.st.length : Int)) = true := by rw [beq_iff_eq]; omega
  have hy1 := Hid.mk h1
  have hy2 := Hid.mk h2
  have hdec : decide (x = y) = true ↔ x = y := decide_eq_true_iff
  replace hdec := Hid.mk hdec
  clear h1 h2
  repeat' (with_reducible first | refine x_ops ?_ | refine wk ?_ | ((first | refine gd1 ?_ ?_ | refine gd2 ?_ ?_ | refine gd3 ?_ ?_) <;> (first | exact @False.elim _ | intro hc)))
  clear c1 c2
  refine x_loopF w_instrument_Same_p6 kr x.cs.length (fun k t => t 26 = vint k ∧ ∀ i, i < k → x.cs.getD i default = y.cs.getD i default) ?_ ?_
  · exact ⟨vv, fun i h => by omega⟩
  rintro k t hk ⟨h26, hI⟩
  replace hI := Hid.mk hI
  by_cases hlt : k < x.cs.length
  case pos =>
    have g1 := crs_take (l := x.cs) (k := k) hlt
    have g2 := crs_take (l := y.cs) (k := k) (by have := hy1.out; omega)
    have hL1 := crss_len x.cs
    have hL2 := crss_len y.cs
    have c1 : (k : Int) < (x.cs.length : Int) := by omega
    have c2 : (k : Int) < (y.cs.length : Int) := by have := hy1.out; omega
    have c3 : k * 3 + 3 ≤ x.cs.length * 3 := by omega
    have c4 : k * 3 + 3 ≤ y.cs.length * 3 := by have := hy1.out; omega
    have w1 := w_add1 (k := k) (by omega)
    have hlt0 := Hid.mk hlt
    have hne : x.cs.getD k default ≠ y.cs.getD k default → x ≠ y := fun h e => h (by rw [e])
    replace hne := Hid.mk hne
    generalize ha : x.cs.getD k default = a at *
    generalize hb : y.cs.getD k default = b at *
    replace ha := Hid.mk ha
    replace hb := Hid.mk hb
    obtain ⟨a1, a2, a3⟩ := a
    obtain ⟨b1, b2, b3⟩ := b
    clear hlt hk
    by_cases e1 : a1 = b1
    case neg =>
      have d1 : (a1 == b1) = false := by rw [beq_eq_false_iff_ne]; exact e1
      rw [decide_eq_false (hne.out fun e => e1 (by injection e))]
      clear e1
      repeat' (with_reducible first | refine x_ops ?_ | simp only [go_sem, Nat.reduceAdd, Nat.reduceEqDiff, Nat.reduceLT, Nat.reduceLeDiff, Nat.reduceMul, Nat.reduceSub, Nat.reducePow, Nat.reduceDiv, Nat.reduceMod, Nat.reduceBEq, Int.reduceBEq, Int.reduceLT, reduceIte, tIs, tBs, tPs, Bool.false_and, *] | ((first | refine gd1 ?_ ?_ | refine gd2 ?_ ?_ | refine gd3 ?_ ?_) <;> (first | exact @False.elim _ | intro hc)))
      exact finV_lit vv rfl
    by_cases e2 : a2 = b2
    case neg =>
      have d1 : (a1 == b1) = true := by rw [beq_iff_eq]; exact e1
      have d2 : (a2 == b2) = false := by rw [beq_eq_false_iff_ne]; exact e2
      rw [decide_eq_false (hne.out fun e => e2 (by injection e))]
      clear e1 e2
      repeat' (with_reducible first | refine x_ops ?_ | simp only [go_sem, Nat.reduceAdd, Nat.reduceEqDiff, Nat.reduceLT, Nat.reduceLeDiff, Nat.reduceMul, Nat.reduceSub, Nat.reducePow, Nat.reduceDiv, Nat.reduceMod, Nat.reduceBEq, Int.reduceBEq, Int.reduceLT, reduceIte, tIs, tBs, tPs, Bool.false_and, Bool.true_and, *] | ((first | refine gd1 ?_ ?_ | refine gd2 ?_ ?_ | refine gd3 ?_ ?_) <;> (first | exact @False.elim _ | intro hc)))
      exact finV_lit vv rfl
    by_cases e3 : a3 = b3
    case neg =>
      have d1 : (a1 == b1) = true := by rw [beq_iff_eq]; exact e1
      have d2 : (a2 == b2) = true := by rw [beq_iff_eq]; exact e2
      have d3 : (a3 == b3) = false := by rw [beq_eq_false_iff_ne]; exact e3
      rw [decide_eq_false (hne.out fun e => e3 (by injection e))]
      clear e1 e2 e3
      repeat' (with_reducible first | refine x_ops ?_ | simp only [go_sem, Nat.reduceAdd, Nat.reduceEqDiff, Nat.reduceLT, Nat.reduceLeDiff, Nat.reduceMul, Nat.reduceSub, Nat.reducePow, Nat.reduceDiv, Nat.reduceMod, Nat.reduceBEq, Int.reduceBEq, Int.reduceLT, reduceIte, tIs, tBs, tPs, Bool.false_and, Bool.true_and, *] | ((first | refine gd1 ?_ ?_ | refine gd2 ?_ ?_ | refine gd3 ?_ ?_) <;> (first | exact @False.elim _ | intro hc)))
      exact finV_lit vv rfl
    subst e1 e2 e3
    repeat' (with_reducible first | refine x_ops ?_ | simp only [go_sem, Nat.reduceAdd, Nat.reduceEqDiff, Nat.reduceLT, Nat.reduceLeDiff, Nat.reduceMul, Nat.reduceSub, Nat.reducePow, Nat.reduceDiv, Nat.reduceMod, Nat.reduceBEq, Int.reduceBEq, Int.reduceLT, reduceIte, tIs, tBs, tPs, Bool.true_and, *] | ((first | refine gd1 ?_ ?_ | refine gd2 ?_ ?_ | refine gd3 ?_ ?_) <;> (first | exact @False.elim _ | intro hc)))
    refine nf hlt0.out ⟨vv, fun i hi => ?_⟩ rfl
    by_cases e : i = k
    · subst e; rw [ha.out, hb.out]
    · exact hI.out i (by omega)
  have c1 : ¬ ((k : Int) < (x.cs.length : Int)) := by omega
  have hcs : x.cs = y.cs := lst_eq hy1.out fun i hi => hI.out i (by omega)
  replace hcs := Hid.mk hcs
  clear hlt hk hI
  repeat' (with_reducible first | refine x_ops ?_ | refine wk ?_ | ((first | refine gd1 ?_ ?_ | refine gd2 ?_ ?_ | refine gd3 ?_ ?_) <;> (first | exact @False.elim _ | intro hc)))
  clear c1
  refine x_loopF w_instrument_Same_p13 kr x.st.length (fun k t => t 44 = vint k ∧ ∀ i, i < k → x.st.getD i default = y.st.getD i default) ?_ ?_
  · exact ⟨vv, fun i h => by omega⟩
  rintro k t hk ⟨h44, hI⟩
  replace hI := Hid.mk hI
  by_cases hlt : k < x.st.length
  case pos =>
    have g1 := ints_at (l := x.st) (k := k) hlt
    have g2 := ints_at (l := y.st) (k := k) (by have := hy2.out; omega)
    have c1 : (k : Int) < (x.st.length : Int) := by omega
    have c2 : (k : Int) < (y.st.length : Int) := by have := hy2.out; omega
    have w1 := w_add1 (k := k) (by omega)
    have hlt0 := Hid.mk hlt
    clear hlt hk
    by_cases e1 : x.st.getD k 0 = y.st.getD k 0
    case neg =>
      have d1 : (x.st.getD k 0 == y.st.getD k 0) = false := by rw [beq_eq_false_iff_ne]; exact e1
      rw [decide_eq_false fun e => e1 (by rw [e])]
      clear e1
      repeat' (with_reducible first | refine x_ops ?_ | refine wk ?_ | ((first | refine gd1 ?_ ?_ | refine gd2 ?_ ?_ | refine gd3 ?_ ?_) <;> (first | exact @False.elim _ | intro hc)))
      exact finV_lit vv rfl
    have d1 : (x.st.getD k 0 == y.st.getD k 0) = true := by rw [beq_iff_eq]; exact e1
    have e10 := Hid.mk e1
    clear e1
    repeat' (with_reducible first | refine x_ops ?_ | refine wk ?_ | ((first | refine gd1 ?_ ?_ | refine gd2 ?_ ?_ | refine gd3 ?_ ?_) <;> (first | exact @False.elim _ | intro hc)))
    refine nf hlt0.out ⟨vv, fun i hi => ?_⟩ rfl
    by_cases e : i = k
    · subst e; exact e10.out
    · exact hI.out i (by omega)
  have c1 : ¬ ((k : Int) < (x.st.length : Int)) := by omega
  have hst : x.st = y.st := lst_eq hy2.out fun i hi => hI.out i (by omega)
  have hxy : x = y := by
    obtain ⟨a, b⟩ := x; obtain ⟨a', b'⟩ := y
    have h1 := hcs.out
    dsimp only at h1 hst
    rw [h1, hst]
  rw [decide_eq_true hxy]
  clear hlt hk hI hst hxy
  repeat' (with_reducible first | refine x_ops ?_ | refine wk ?_ | ((first | refine gd1 ?_ ?_ | refine gd2 ?_ ?_ | refine gd3 ?_ ?_) <;> (first | exact @False.elim _ | intro hc)))
  exact finV_lit vv rfl
def shpC (x y : Clm) : Bool := (x.bar == y.bar) && (x.tie == y.tie)
def eqC (p : Clm → Clm → Bool) (a b : List Clm) : Bool := decide (a.length = b.length) && allB a.length fun i => p (a.getD i default) (b.getD i default)
def shpB (f g : Lf) : Bool := decide (f.ins = g.ins) && eqC shpC f.cols g.cols
def insC (x y : Clm) : Bool := subS x.sgs y.sgs && allB x.ce.length fun j => subI (x.ce.getD j []) (y.ce.getD j [])
def insB (f g : Lf) : Bool := allB f.cols.length fun i => insC (f.cols.getD i default) (g.cols.getD i default)
theorem eqC_len {p : Clm → Clm → Bool} {a b : List Clm} (h : a.length ≠ b.length) : eqC p a b = false := by rw [eqC, decide_eq_false h, Bool.false_and]
theorem eqC_bad {p : Clm → Clm → Bool} {a b : List Clm} {k : Nat} (hk : k < a.length) (h : p (a.getD k default) (b.getD k default) = false) : eqC p a b = false := by rw [eqC, allB_false hk h, Bool.and_false]
theorem eqC_all {p : Clm → Clm → Bool} {a b : List Clm} (h : a.length = b.length) (hI : ∀ i, i < a.length → p (a.getD i default) (b.getD i default) = true) : eqC p a b = true := by rw [eqC, decide_eq_true h, allB_true hI]; rfl
theorem equalC_fn (a b : List Clm) (p : Clm → Clm → Bool) {f : FuncId} {cs : List V} (hc : callable Tryz.prog f = true) (hp : V.pures cs = true) (hn : V.norms cs = cs) (hf : ∀ x y : Clm, Fn Tryz.prog Gd f (.agg x.cells :: .agg y.cells :: cs) (vbool (p x y))) (hl : a.length ≤ 17592186044416) :
    Fn Tryz.prog Gd 166 [tL Clm.cells a, tL Clm.cells b, .fn f cs] (vbool (eqC p a b)) := by
  refine Fn.of_vx0 k_slices_EqualFunc_api_Column_api_Column_api_Column_api_Column (by simp) (by rw [V.pures, pure_tL, V.pures, pure_tL, V.pures, V.pure, hp]; rfl) ?_
  unfold c_slices_EqualFunc_api_Column_api_Column_api_Column_api_Column
  replace hc := Hid.mk hc
  replace hp := Hid.mk hp
  replace hf := Hid.mk hf
  by_cases h1 : a.length = b.length
  case neg =>
    have c1 : ((a.length : Int) == (b.length : Int)) = false := by rw [beq_eq_false_iff_ne]; omega
    rw [eqC_len h1]
    clear h1
    repeat' (with_reducible first | refine x_ops ?_ | refine wk ?_ | ((first | refine gd1 ?_ ?_ | refine gd2 ?_ ?_ | refine gd3 ?_ ?_) <;> (first | exact @False.elim _ | intro hc)))
    exact finV_lit vv rfl
  have c1 : ((a.length : Int) == (b.length : Int)) = true := by rw [beq_iff_eq]; omega
  have h10 := Hid.mk h1
  clear h1
  repeat' (with_reducible first | refine x_ops ?_ | refine wk ?_ | ((first | refine gd1 ?_ ?_ | refine gd2 ?_ ?_ | refine gd3 ?_ ?_) <;> (first | exact @False.elim _ | intro hc)))
  clear c1
  refine x_loopW w_slices_EqualFunc_api_Column_api_Column_api_Column_api_Column_p10 kr a.length (fun k t m => t 17 = vint k ∧ ∀ i, i < k → p (a.getD i default) (b.getD i default) = true) ?_ ?_
  · exact ⟨vv, fun i h => by omega⟩
  rintro k t m hk ⟨h17, hI⟩
  replace hI := Hid.mk hI
  by_cases hlt : k < a.length
  · have g1 := clm_take (l := a) (k := k) hlt
    have g2 := clms_len a
    have g3 := clm_take (l := b) (k := k) (by have := h10.out; omega)
    have g4 := clms_len b
    have c2 : (k : Int) < (a.length : Int) := by omega
    have c3 : k * 4 + 4 ≤ a.length * 4 := by omega
    have c4 : (k : Int) < (b.length : Int) := by have := h10.out; omega
    have c5 : k * 4 + 4 ≤ b.length * 4 := by have := h10.out; omega
    have w2 := w_add1 (k := k) (by omega)
    have hx := hf.out (a.getD k default) (b.getD k default)
    have hlt0 := Hid.mk hlt
    cases hb : p (a.getD k default) (b.getD k default)
    · rw [hb] at hx
      rw [eqC_bad hlt hb]
      clear hlt hk hb
      repeat' (with_reducible first | refine x_ops ?_ | refine wk ?_ | (with_reducible refine xcv hx hc.out ?_) | ((first | refine gd1 ?_ ?_ | refine gd2 ?_ ?_ | refine gd3 ?_ ?_) <;> (first | exact @False.elim _ | intro hc)))
      exact finV_lit vv rfl
    · rw [hb] at hx
      replace hb := Hid.mk hb
      clear hlt hk
      repeat' (with_reducible first | refine x_ops ?_ | refine wk ?_ | (with_reducible refine xcv hx hc.out ?_) | ((first | refine gd1 ?_ ?_ | refine gd2 ?_ ?_ | refine gd3 ?_ ?_) <;> (first | exact @False.elim _ | intro hc)))
      refine nx hlt0.out ⟨vv, fun i h => ?_⟩
      by_cases hi : i = k
      · subst hi; exact hb.out
      · exact hI.out i (by omega)
  · have c2 : ¬ ((k : Int) < (a.length : Int)) := by omega
    rw [eqC_all h10.out fun i hi => hI.out i (by omega)]
    clear hlt hk
    repeat' (with_reducible first | refine x_ops ?_ | refine wk ?_ | ((first | refine gd1 ?_ ?_ | refine gd2 ?_ ?_ | refine gd3 ?_ ?_) <;> (first | exact @False.elim _ | intro hc)))
    exact finV_lit vv rfl
theorem shaped1_fn (x y : Clm) : Fn Tryz.prog Gd 167 [.agg x.cells, .agg y.cells] (vbool (shpC x y)) := by
  refine Fn.of_vx0 k_leaf_shaped_1 (by simp) (by rw [show V.agg x.cells = x.val from rfl, show V.agg y.cells = y.val from rfl, V.pures, pure_clm, V.pures, pure_clm]; rfl) ?_
  unfold c_leaf_shaped_1
  rw [shpC]
  obtain ⟨b, ti, sgs, ce⟩ := x
  obtain ⟨b', ti', sgs', ce'⟩ := y
  cases hq : (b == b') with
  | false =>
    repeat' (with_reducible first | refine x_ops ?_ | simp only [go_sem, Nat.reduceAdd, Nat.reduceEqDiff, Nat.reduceLT, Nat.reduceLeDiff, Nat.reduceMul, Nat.reduceSub, Nat.reducePow, Nat.reduceDiv, Nat.reduceMod, Nat.reduceBEq, Int.reduceBEq, Int.reduceLT, reduceIte, tIs, tBs, tPs, Bool.false_and, *] | ((first | refine gd1 ?_ ?_ | refine gd2 ?_ ?_ | refine gd3 ?_ ?_) <;> (first | exact @False.elim _ | intro hc)))
    exact finV_lit vv rfl
  | true =>
    cases hq2 : (ti == ti') with
    | false =>
      repeat' (with_reducible first | refine x_ops ?_ | simp only [go_sem, Nat.reduceAdd, Nat.reduceEqDiff, Nat.reduceLT, Nat.reduceLeDiff, Nat.reduceMul, Nat.reduceSub, Nat.reducePow, Nat.reduceDiv, Nat.reduceMod, Nat.reduceBEq, Int.reduceBEq, Int.reduceLT, reduceIte, tIs, tBs, tPs, Bool.true_and, *] | ((first | refine gd1 ?_ ?_ | refine gd2 ?_ ?_ | refine gd3 ?_ ?_) <;> (first | exact @False.elim _ | intro hc)))
      exact finV_lit vv rfl
    | true =>
      repeat' (with_reducible first | refine x_ops ?_ | simp only [go_sem, Nat.reduceAdd, Nat.reduceEqDiff, Nat.reduceLT, Nat.reduceLeDiff, Nat.reduceMul, Nat.reduceSub, Nat.reducePow, Nat.reduceDiv, Nat.reduceMod, Nat.reduceBEq, Int.reduceBEq, Int.reduceLT, reduceIte, tIs, tBs, tPs, Bool.true_and, *] | ((first | refine gd1 ?_ ?_ | refine gd2 ?_ ?_ | refine gd3 ?_ ?_) <;> (first | exact @False.elim _ | intro hc)))
      exact finV_lit vv rfl
theorem shaped_fn (f g : Lf) (h1 : f.ins.cs.length ≤ 17592186044416) (h2 : f.ins.st.length ≤ 17592186044416) (h3 : f.cols.length ≤ 17592186044416) : Fn Tryz.prog Gd 95 [f.val, g.val] (vbool (shpB f g)) := by
  refine Fn.of_vx0 k_leaf_shaped (by simp) (by rw [V.pures, pure_lf, V.pures, pure_lf]; rfl) ?_
  have I := isameI_fn f.ins g.ins h1 h2
  have E := equalC_fn f.cols g.cols shpC (f := 167) (cs := []) kr rfl rfl (fun x y => shaped1_fn x y) h3
  rw [shpB]
  generalize eqC shpC f.cols g.cols = e at *
  generalize decide (f.ins = g.ins) = d at *
  clear h1 h2 h3
  obtain ⟨⟨fc, fst⟩, fl⟩ := f
  obtain ⟨⟨gc, gst⟩, gl⟩ := g
  unfold c_leaf_shaped
  cases d with
  | false =>
    repeat' (with_reducible first | refine x_ops ?_ | refine wk ?_ | (with_reducible refine xc (I) ?_) | (with_reducible refine xc (E) ?_) | ((first | refine gd1 ?_ ?_ | refine gd2 ?_ ?_ | refine gd3 ?_ ?_) <;> (first | exact @False.elim _ | intro hc)))
    exact finV_lit vv rfl
  | true =>
    rw [Bool.true_and]
    repeat' (with_reducible first | refine x_ops ?_ | refine wk ?_ | (with_reducible refine xc (I) ?_) | (with_reducible refine xc (E) ?_) | ((first | refine gd1 ?_ ?_ | refine gd2 ?_ ?_ | refine gd3 ?_ ?_) <;> (first | exact @False.elim _ | intro hc)))
    exact finV_lit vv rfl
end Go.Proofs.YtdefefeifcdogaaGreat
namespace Go.Proofs.YtdefefeifcdogaaGreat
open Go.RowKit
set_option linter.unusedSimpArgs false
set_option linter.unusedVariables false

theorem insB_bad {f g : Lf} {k : Nat} (hk : k < f.cols.length) (h : insC (f.cols.getD k default) (g.cols.getD k default) = false) : insB f g = false := by rw [insB, allB_false hk h]
theorem insB_all {f g : Lf} (hI : ∀ i, i < f.cols.length → insC (f.cols.getD i default) (g.cols.getD i default) = true) : insB f g = true := by rw [insB, allB_true hI]
theorem insC_sg {x y : Clm} (h : subS x.sgs y.sgs = false) : insC x y = false := by rw [insC, h, Bool.false_and]
theorem insC_ce {x y : Clm} {j : Nat} (hj : j < x.ce.length) (h : subI (x.ce.getD j []) (y.ce.getD j []) = false) : insC x y = false := by rw [insC, allB_false hj h, Bool.and_false]
theorem insC_all {x y : Clm} (h : subS x.sgs y.sgs = true) (hI : ∀ j, j < x.ce.length → subI (x.ce.getD j []) (y.ce.getD j []) = true) : insC x y = true := by rw [insC, h, allB_true hI]; rfl
/-- What the comparison of two leaves needs. -/
structure TwoSm (f g : Lf) : Prop where
  a : LfSm f
  b : LfSm g
  n : f.cols.length ≤ g.cols.length
  c : ∀ i, i < f.cols.length → (f.cols.getD i default).ce.length ≤ (g.cols.getD i default).ce.length
set_option maxHeartbeats 1000000 in
theorem inside_fn (f g : Lf) (hs : TwoSm f g) : Fn Tryz.prog Gd 88 [f.val, g.val] (vbool (insB f g)) := by
  refine Fn.of_vx0 k_leaf_inside (by simp) (by rw [V.pures, pure_lf, V.pures, pure_lf]; rfl) ?_
  unfold c_leaf_inside
  have hs0 := Hid.mk hs
  have hn := hs.a.n
  clear hs
  repeat' (with_reducible first | refine x_ops ?_ | refine wk ?_ | ((first | refine gd1 ?_ ?_ | refine gd2 ?_ ?_ | refine gd3 ?_ ?_) <;> (first | exact @False.elim _ | intro hc)))
  refine x_loopW w_leaf_inside_p12 kr f.cols.length (fun k t m => t 12 = vint k ∧ (∀ i, i < k → insC (f.cols.getD i default) (g.cols.getD i default) = true) ∧ (m.obj 1 = some (.box [.sl g.ins.cs.length (g.ins.cs.flatMap Crs.cells) .no, .sl g.ins.st.length (g.ins.st.map vint) .no, .sl g.cols.length (g.cols.flatMap Clm.cells) .no] 28) ∧ 1 < m.next)) ?_ ?_
  · exact ⟨vv, fun i h => by omega, vv, by show 1 < 3; omega⟩
  rintro k t m hk ⟨h12, hI, hm1, hmn⟩
  replace hI := Hid.mk hI
  by_cases hlt : k < f.cols.length
  case neg =>
    have c1 : ¬ (k : Int) < (f.cols.length : Int) := by omega
    rw [insB_all fun i hi => hI.out i (by omega)]
    clear hlt hk
    repeat' (with_reducible first | refine x_ops ?_ | refine wk ?_ | ((first | refine gd1 ?_ ?_ | refine gd2 ?_ ?_ | refine gd3 ?_ ?_) <;> (first | exact @False.elim _ | intro hc)))
    exact finV_lit vv rfl
  have hkg : k < g.cols.length := by have := hs0.out.n; omega
  have g1 := clm_take (l := f.cols) (k := k) hlt
  have g2 := clms_len f.cols
  have g3 := clm_take (l := g.cols) (k := k) hkg
  have g4 := clms_len g.cols
  have q2 := clm_at2 (l := g.cols) (k := k) hkg
  have q3 := clm_at3 (l := g.cols) (k := k) hkg
  have c1 : (k : Int) < (f.cols.length : Int) := by omega
  have c2 : (k : Int) < (g.cols.length : Int) := by omega
  have c3 : k * 4 + 4 ≤ f.cols.length * 4 := by omega
  have c4 : k * 4 + 4 ≤ g.cols.length * 4 := by omega
  have w1 := w_add1 (k := k) (by omega)
  have n1 : 1 < m.next + 6 := by omega
  have hcx := hs0.out.a.c k hlt
  have hcy := hs0.out.b.c k hkg
  have hle := hs0.out.c k hlt
  have hbad : insC (f.cols.getD k default) (g.cols.getD k default) = false → insB f g = false := insB_bad hlt
  have hgood : insC (f.cols.getD k default) (g.cols.getD k default) = true → ∀ i, i < k + 1 → insC (f.cols.getD i default) (g.cols.getD i default) = true := fun h i hi => by
    by_cases e : i = k
    · subst e; exact h
    · exact hI.out i (by omega)
  have hlt0 := Hid.mk hlt
  have hmn0 := Hid.mk hmn
  generalize f.cols.getD k default = x at *
  generalize g.cols.getD k default = y at *
  obtain ⟨xb, xt, xs, xe⟩ := x
  obtain ⟨yb, yt, ys, ye⟩ := y
  have S := subS_fn xs ys hcx.ls hcy.ls
  rw [tL, tL] at S
  have hlc : xe.length ≤ 17592186044416 := hcx.lc
  have hle1 : xe.length ≤ ye.length := hle
  have hx1 : ∀ i, i < xe.length → (xe.getD i []).length ≤ 17592186044416 := hcx.le
  have hy1 : ∀ i, i < ye.length → (ye.getD i []).length ≤ 17592186044416 := hcy.le
  replace hlc := Hid.mk hlc
  replace hle := Hid.mk hle1
  replace hx1 := Hid.mk hx1
  replace hy1 := Hid.mk hy1
  replace hbad := Hid.mk hbad
  replace hgood := Hid.mk hgood
  clear hlt hk hcx hcy hkg hle1
  have hm10 := Hid.mk hm1
  cases hq : subS xs ys with
  | false =>
    rw [hq] at S
    rw [hbad.out (insC_sg hq)]
    clear hq
    repeat' (with_reducible first | refine x_ops ?_ | refine wk ?_ | (with_reducible refine xc (S) ?_) | ((first | refine gd1 ?_ ?_ | refine gd2 ?_ ?_ | refine gd3 ?_ ?_) <;> (first | exact @False.elim _ | intro hc)))
    exact finV_lit vv rfl
  | true =>
  rw [hq] at S
  replace hq := Hid.mk hq
  repeat' (with_reducible first | refine x_ops ?_ | refine wk ?_ | (with_reducible refine xc (S) ?_) | ((first | refine gd1 ?_ ?_ | refine gd2 ?_ ?_ | refine gd3 ?_ ?_) <;> (first | exact @False.elim _ | intro hc)))
  clear g1 g2 c3 S
  refine x_loopF w_leaf_inside_p6 kr xe.length (fun j t => t 30 = vint j ∧ ∀ i, i < j → subI (xe.getD i []) (ye.getD i []) = true) ?_ ?_
  · exact ⟨vv, fun i h => by omega⟩
  rintro j t1 hj ⟨h30, hJ⟩
  replace hJ := Hid.mk hJ
  by_cases hlt2 : j < xe.length
  · have g5 := iss_at (l := xe) (k := j) hlt2
    have g6 := iss_at (l := ye) (k := j) (by have := hle.out; omega)
    have d1 : (j : Int) < (xe.length : Int) := by omega
    have d2 : (j : Int) < (ye.length : Int) := by have := hle.out; omega
    have w2 := w_add1 (k := j) (by have := hlc.out; omega)
    have SI := subI_fn (xe.getD j []) (ye.getD j []) (hx1.out j hlt2) (hy1.out j (by have := hle.out; omega))
    have hlt20 := Hid.mk hlt2
    cases hr : subI (xe.getD j []) (ye.getD j []) with
    | false =>
      rw [hr] at SI
      rw [hbad.out (insC_ce (x := ⟨xb, xt, xs, xe⟩) (y := ⟨yb, yt, ys, ye⟩) hlt2 hr)]
      clear hr hlt2 hj
      repeat' (with_reducible first | refine x_ops ?_ | refine wk ?_ | (with_reducible refine xc (SI) ?_) | ((first | refine gd1 ?_ ?_ | refine gd2 ?_ ?_ | refine gd3 ?_ ?_) <;> (first | exact @False.elim _ | intro hc)))
      exact finV_lit vv rfl
    | true =>
      rw [hr] at SI
      replace hr := Hid.mk hr
      clear hlt2 hj
      repeat' (with_reducible first | refine x_ops ?_ | refine wk ?_ | (with_reducible refine xc (SI) ?_) | ((first | refine gd1 ?_ ?_ | refine gd2 ?_ ?_ | refine gd3 ?_ ?_) <;> (first | exact @False.elim _ | intro hc)))
      refine nf hlt20.out ⟨vv, fun i hi => ?_⟩ rfl
      by_cases e : i = j
      · subst e; exact hr.out
      · exact hJ.out i (by omega)
  have d1 : ¬ (j : Int) < (xe.length : Int) := by omega
  have hall : insC ⟨xb, xt, xs, xe⟩ ⟨yb, yt, ys, ye⟩ = true := insC_all hq.out fun i (hi : i < xe.length) => hJ.out i (by omega)
  replace hall := Hid.mk hall
  clear hlt2 hj
  repeat' (with_reducible first | refine x_ops ?_ | refine wk ?_ | ((first | refine gd1 ?_ ?_ | refine gd2 ?_ ?_ | refine gd3 ?_ ?_) <;> (first | exact @False.elim _ | intro hc)))
  have hmnn := hmn0.out
  refine nx hlt0.out ⟨vv, hgood.out hall.out, ?_, by show 1 < m.next + 6; omega⟩
  · (simp only [put_obj]; repeat rw [if_neg (by omega)]); exact hm10.out
end Go.Proofs.YtdefefeifcdogaaGreat
namespace Go.Proofs.YtdefefeifcdogaaGreat
open Go.RowKit
set_option linter.unusedSimpArgs false
set_option linter.unusedVariables false

noncomputable def rdsR (f : Lf) (p : Pce) : Bool × Int := if lchk f ≠ 0 then (false, lchk f) else if chkP p ≠ 0 then (false, chkP p) else (shpB f (lfO p) && insB (lfO p) f, 0)
theorem lfO_ce {p : Pce} {i : Nat} (hi : i < (lfO p).cols.length) : ((lfO p).cols.getD i default).ce.length = p.ins.cs.length := by
  rw [colsO_len] at hi
  have h2 : i < (plnP p).es.length := by rw [plnP, plnE_len]; exact hi
  have e : (lfO p).cols.getD i default = clmO p.ins.cs.length ((plnP p).es.getD i default) := by
    rw [List.getD_eq_getElem?_getD, lfO, List.getElem?_map, List.getD_eq_getElem?_getD, List.getElem?_eq_getElem h2]; rfl
  rw [e, clmO_ce]
  exact celO_len _ _
theorem two_sm {f : Lf} {p : Pce} (hs : LfSm f) (h : lchk f = 0) (ok : PcOk p) (h3 : shpB f (lfO p) = true) : TwoSm (lfO p) f := by
  obtain ⟨q1, q2, q3⟩ := lchk_zero h
  rw [shpB, eqC, Bool.and_eq_true, Bool.and_eq_true, decide_eq_true_iff, decide_eq_true_iff, allB_iff] at h3
  obtain ⟨e1, e2, _⟩ := h3
  have e3 : f.ins = p.ins := e1
  refine ⟨lfO_sm ok, hs, by omega, fun i hi => ?_⟩
  rw [lfO_ce hi, (q3 i (by omega)).1.len, e3]
  exact Nat.le_refl _
set_option maxHeartbeats 1000000 in
theorem reads_fn (f : Lf) (p : Pce) (hs : LfSm f) (hp : PcSm p) : Fn Tryz.prog Gd 41 [f.val, p.val] (.tup [vbool (rdsR f p).1, vint (rdsR f p).2]) := by
  refine Fn.of_vx0 k_leaf_Reads (by simp) (by rw [V.pures, pure_lf, V.pures, pure_pce]; rfl) ?_
  have C := lcheck_fn f hs
  have O := of_fn p hp
  unfold c_leaf_Reads
  by_cases h0 : lchk f = 0
  case neg =>
    have c1 : (lchk f == 0) = false := by rw [beq_eq_false_iff_ne]; exact h0
    rw [show rdsR f p = (false, lchk f) from if_pos h0]
    clear O h0 hs hp
    generalize lchk f = e at *
    obtain ⟨⟨fc, fst⟩, fl⟩ := f
    repeat' (with_reducible first | refine x_ops ?_ | refine wk ?_ | (with_reducible refine xc (C) ?_) | ((first | refine gd1 ?_ ?_ | refine gd2 ?_ ?_ | refine gd3 ?_ ?_) <;> (first | exact @False.elim _ | intro hc)))
    refine finV_ret vv ?_
    exact .tup (.cons (.lit _) (.cons (.lit _) .nil))
  by_cases h1 : chkP p = 0
  case neg =>
    have c1 : (chkP p == 0) = false := by rw [beq_eq_false_iff_ne]; exact h1
    rw [show rdsR f p = (false, chkP p) from by rw [rdsR, if_neg (by omega), if_pos h1]]
    rw [h0] at C
    rw [show ofR p = (noL, chkP p) from by rw [ofR, if_pos h1]] at O
    clear h0 h1 hs hp
    generalize chkP p = e at *
    obtain ⟨⟨fc, fst⟩, fl⟩ := f
    obtain ⟨⟨pc, pst⟩, pl⟩ := p
    repeat' (with_reducible first | refine x_ops ?_ | refine wk ?_ | (with_reducible refine xc (C) ?_) | (with_reducible refine xc (O) ?_) | ((first | refine gd1 ?_ ?_ | refine gd2 ?_ ?_ | refine gd3 ?_ ?_) <;> (first | exact @False.elim _ | intro hc)))
    refine finV_ret vv ?_
    exact .tup (.cons (.lit _) (.cons (.lit _) .nil))
  have ok := PcOk.of h1
  obtain ⟨q1, q2, q3⟩ := lchk_zero h0
  obtain ⟨q4, q5, _⟩ := chkI_small q1
  have S := shaped_fn f (lfO p) (by omega) (by omega) hs.n
  rw [h0] at C
  rw [show ofR p = (lfO p, 0) from by rw [ofR, if_neg (by omega)]] at O
  rw [show rdsR f p = (shpB f (lfO p) && insB (lfO p) f, 0) from by rw [rdsR, if_neg (by omega), if_neg (by omega)]]
  cases hq : shpB f (lfO p) with
  | false =>
    rw [hq] at S
    rw [Bool.false_and]
    clear hq ok q1 q2 q3 q4 q5 h0 h1 hs hp
    generalize lfO p = g at *
    obtain ⟨⟨fc, fst⟩, fl⟩ := f
    obtain ⟨⟨pc, pst⟩, pl⟩ := p
    obtain ⟨⟨gc, gst⟩, gl⟩ := g
    repeat' (with_reducible first | refine x_ops ?_ | refine wk ?_ | (with_reducible refine xc (C) ?_) | (with_reducible refine xc (O) ?_) | (with_reducible refine xc (S) ?_) | ((first | refine gd1 ?_ ?_ | refine gd2 ?_ ?_ | refine gd3 ?_ ?_) <;> (first | exact @False.elim _ | intro hc)))
    refine finV_ret vv ?_
    exact .tup (.cons (.lit _) (.cons (.lit _) .nil))
  | true =>
    have I := inside_fn (lfO p) f (two_sm hs h0 ok hq)
    rw [hq] at S
    rw [Bool.true_and]
    clear hq ok q1 q2 q3 q4 q5 h0 h1 hs hp
    generalize lfO p = g at *
    generalize insB g f = z at *
    obtain ⟨⟨fc, fst⟩, fl⟩ := f
    obtain ⟨⟨pc, pst⟩, pl⟩ := p
    obtain ⟨⟨gc, gst⟩, gl⟩ := g
    repeat' (with_reducible first | refine x_ops ?_ | refine wk ?_ | (with_reducible refine xc (C) ?_) | (with_reducible refine xc (O) ?_) | (with_reducible refine xc (S) ?_) | (with_reducible refine xc (I) ?_) | ((first | refine gd1 ?_ ?_ | refine gd2 ?_ ?_ | refine gd3 ?_ ?_) <;> (first | exact @False.elim _ | intro hc)))
    refine finV_ret vv ?_
    exact .tup (.cons (.lit _) (.cons (.lit _) .nil))
end Go.Proofs.YtdefefeifcdogaaGreat
namespace Go.Proofs.YtdefefeifcdogaaGreat
open Go.RowKit
set_option linter.unusedSimpArgs false
set_option linter.unusedVariables false

/-- The first error of two leaves. -/
noncomputable def twoE (f g : Lf) : Int := if lchk f ≠ 0 then lchk f else if lchk g ≠ 0 then lchk g else if shpB f g = true then 0 else 101
theorem twoE_zero {f g : Lf} (h : twoE f g = 0) : lchk f = 0 ∧ lchk g = 0 ∧ shpB f g = true := by
  unfold twoE at h
  split at h
  · rename_i h1; exact absurd h h1
  · split at h
    · rename_i h1; exact absurd h h1
    · split at h
      · rename_i h1; exact ⟨by omega, by omega, h1⟩
      · cases h
theorem TwoSm.of {f g : Lf} (hf : LfSm f) (hg : LfSm g) (h : twoE f g = 0) : TwoSm f g := by
  obtain ⟨h1, h2, h3⟩ := twoE_zero h
  obtain ⟨_, _, q3⟩ := lchk_zero h1
  obtain ⟨_, _, q6⟩ := lchk_zero h2
  rw [shpB, eqC, Bool.and_eq_true, Bool.and_eq_true, decide_eq_true_iff, decide_eq_true_iff] at h3
  obtain ⟨e1, e2, _⟩ := h3
  refine ⟨hf, hg, by omega, fun i hi => ?_⟩
  rw [(q3 i hi).1.len, (q6 i (by omega)).1.len, e1]
  exact Nat.le_refl _
theorem both_fn (f g : Lf) (hf : LfSm f) (hg : LfSm g) : Fn Tryz.prog Gd 87 [f.val, g.val] (vint (twoE f g)) := by
  refine Fn.of_vx0 k_leaf_both (by simp) (by rw [V.pures, pure_lf, V.pures, pure_lf]; rfl) ?_
  have A := lcheck_fn f hf
  have B := lcheck_fn g hg
  unfold c_leaf_both
  by_cases h0 : lchk f = 0
  case neg =>
    have c1 : (lchk f == 0) = false := by rw [beq_eq_false_iff_ne]; exact h0
    rw [show twoE f g = lchk f from if_pos h0]
    clear h0 hf hg B
    generalize lchk f = e at *
    obtain ⟨⟨fc, fst⟩, fl⟩ := f
    obtain ⟨⟨gc, gst⟩, gl⟩ := g
    repeat' (with_reducible first | refine x_ops ?_ | refine wk ?_ | (with_reducible refine xc (A) ?_) | ((first | refine gd1 ?_ ?_ | refine gd2 ?_ ?_ | refine gd3 ?_ ?_) <;> (first | exact @False.elim _ | intro hc)))
    exact finV_lit vv rfl
  by_cases h1 : lchk g = 0
  case neg =>
    have c1 : (lchk g == 0) = false := by rw [beq_eq_false_iff_ne]; exact h1
    rw [show twoE f g = lchk g from by rw [twoE, if_neg (by omega), if_pos h1]]
    rw [h0] at A
    clear h0 h1 hf hg
    generalize lchk g = e at *
    obtain ⟨⟨fc, fst⟩, fl⟩ := f
    obtain ⟨⟨gc, gst⟩, gl⟩ := g
    repeat' (with_reducible first | refine x_ops ?_ | refine wk ?_ | (with_reducible refine xc (A) ?_) | (with_reducible refine xc (B) ?_) | ((first | refine gd1 ?_ ?_ | refine gd2 ?_ ?_ | refine gd3 ?_ ?_) <;> (first | exact @False.elim _ | intro hc)))
    exact finV_lit vv rfl
  obtain ⟨q1, q2, q3⟩ := lchk_zero h0
  obtain ⟨q4, q5, _⟩ := chkI_small q1
  have S := shaped_fn f g (by omega) (by omega) hf.n
  rw [show twoE f g = if shpB f g = true then 0 else 101 from by rw [twoE, if_neg (by omega), if_neg (by omega)]]
  rw [h0] at A
  rw [h1] at B
  generalize shpB f g = z at *
  clear h0 h1 hf hg q1 q2 q3 q4 q5
  obtain ⟨⟨fc, fst⟩, fl⟩ := f
  obtain ⟨⟨gc, gst⟩, gl⟩ := g
  cases z with
  | false =>
    repeat' (with_reducible first | refine x_ops ?_ | refine wk ?_ | (with_reducible refine xc (A) ?_) | (with_reducible refine xc (B) ?_) | (with_reducible refine xc (S) ?_) | ((first | refine gd1 ?_ ?_ | refine gd2 ?_ ?_ | refine gd3 ?_ ?_) <;> (first | exact @False.elim _ | intro hc)))
    exact finV_lit vv rfl
  | true =>
    repeat' (with_reducible first | refine x_ops ?_ | refine wk ?_ | (with_reducible refine xc (A) ?_) | (with_reducible refine xc (B) ?_) | (with_reducible refine xc (S) ?_) | ((first | refine gd1 ?_ ?_ | refine gd2 ?_ ?_ | refine gd3 ?_ ?_) <;> (first | exact @False.elim _ | intro hc)))
    exact finV_lit vv rfl
theorem take_filter {α : Type} [Inhabited α] (p : α → Bool) {l : List α} {k : Nat} (h : k < l.length) : (l.take (k + 1)).filter p = (l.take k).filter p ++ if p (l.getD k default) = true then [l.getD k default] else [] := by
  rw [List.take_add_one, List.getElem?_eq_getElem h, List.filter_append, List.getD_eq_getElem?_getD, List.getElem?_eq_getElem h]
  show _ ++ List.filter p [l[k]] = _ ++ if p l[k] = true then [l[k]] else []
  cases hp : p l[k] <;> simp [hp]
theorem filter_len {α : Type} (p : α → Bool) (l : List α) (k : Nat) : ((l.take k).filter p).length ≤ k := Nat.le_trans (List.length_filter_le ..) (by rw [List.length_take]; omega)
set_option maxHeartbeats 1000000 in
theorem commonS_fn (a b : List Sg) (ha : a.length ≤ 17592186044) (hb : b.length ≤ 17592186044416) : Fn Tryz.prog Gd 90 [tL Sg.cells a, tL Sg.cells b] (tL Sg.cells (a.filter (memS b))) := by
  refine Fn.of_vx0 k_leaf_common_api_Sign (by simp) (by rw [V.pures, pure_tL, V.pures, pure_tL]; rfl) ?_
  unfold c_leaf_common_api_Sign
  have hs := fun k (h : k < a.length) => take_filter (memS b) h
  have hfl := fun k => filter_len (memS b) a k
  have hall : (a.take a.length).filter (memS b) = a.filter (memS b) := by rw [List.take_length]
  replace hs := Hid.mk hs
  replace hfl := Hid.mk hfl
  replace hall := Hid.mk hall
  have ha0 := Hid.mk ha
  have hb0 := Hid.mk hb
  clear ha hb
  rw [tL, tL]
  repeat' (with_reducible first | refine x_ops ?_ | refine wk ?_ | ((first | refine gd1 ?_ ?_ | refine gd2 ?_ ?_ | refine gd3 ?_ ?_) <;> (first | exact @False.elim _ | intro hc)))
  refine x_loopW w_leaf_common_api_Sign_p6 kr a.length (fun k t m' => t 9 = vint k ∧ ∃ tok, t 4 = .sl ((a.take k).filter (memS b)).length (((a.take k).filter (memS b)).flatMap Sg.cells) tok ∧ Apb m' tok ((a.take k).filter (memS b)).length 110 3) ?_ ?_
  · exact ⟨vv, .exact, vv, .inl rfl⟩
  rintro k t m1 hk ⟨h9, tok, h4, hap⟩
  replace hap := Hid.mk hap
  by_cases hlt : k < a.length
  case neg =>
    have c1 : ¬ ((k : Int) < (a.length : Int)) := by omega
    have hkl : k = a.length := by omega
    subst hkl
    rw [hall.out] at h4
    clear hlt hk
    generalize a.filter (memS b) = L at *
    repeat' (with_reducible first | refine x_ops ?_ | refine wk ?_ | ((first | refine gd1 ?_ ?_ | refine gd2 ?_ ?_ | refine gd3 ?_ ?_) <;> (first | exact @False.elim _ | intro hc)))
    exact finV_ret vv (.sl _ _ _)
  have g1 := sg_take (l := a) (k := k) hlt
  have g2 := sgs_len a
  have c1 : (k : Int) < (a.length : Int) := by omega
  have c3 : k * 3 + 3 ≤ a.length * 3 := by omega
  have w1 := w_add1 (k := k) (by have := ha0.out; omega)
  have hs1 := hs.out k hlt
  have hfl1 := hfl.out k
  have H := hasSg_fn b (a.getD k default) hb0.out
  rw [tL] at H
  have hlt0 := Hid.mk hlt
  generalize hL9 : (a.take (k + 1)).filter (memS b) = L9 at *
  generalize (a.take k).filter (memS b) = L8 at *
  have hsl := sgs_len L8
  replace hL9 := Hid.mk hL9
  replace hs1 := Hid.mk hs1
  replace hsl := Hid.mk hsl
  replace hfl1 := Hid.mk hfl1
  clear hlt hk
  cases hm : memS b (a.getD k default) with
  | false =>
    rw [hm] at H
    have e := hs1.out
    rw [if_neg (by rw [hm]; decide), List.append_nil] at e
    replace e := Hid.mk e
    clear hm hs1
    generalize a.getD k default = x at *
    obtain ⟨v, d, tt⟩ := x
    repeat' (with_reducible first | refine x_ops ?_ | refine wk ?_ | (with_reducible refine xc (H) ?_) | ((first | refine gd1 ?_ ?_ | refine gd2 ?_ ?_ | refine gd3 ?_ ?_) <;> (first | exact @False.elim _ | intro hc)))
    refine nx hlt0.out ⟨vv, tok, ?_, ?_⟩
    · rw [hL9.out, e.out]; first | exact h4 | exact vv
    · rw [hL9.out, e.out]; exact hap.out.mono (fun q hq _ => by (simp only [put_obj]; repeat rw [if_neg (by omega)])) (by show m1.next ≤ m1.next + 4; omega)
  | true =>
    rw [hm] at H
    have e := hs1.out
    rw [if_pos hm] at e
    replace e := Hid.mk e
    clear hm hs1
    generalize a.getD k default = x at *
    obtain ⟨v, d, tt⟩ := x
    repeat' (with_reducible first | refine x_ops ?_ | refine wk ?_ | (with_reducible refine xc (H) ?_) | ((first | refine gd1 ?_ ?_ | refine gd2 ?_ ?_ | refine gd3 ?_ ?_) <;> (first | exact @False.elim _ | intro hc)))
    refine x_appc (n := L8.length) (xs := L8.flatMap Sg.cells) (j := 1) (ys := [vint v, vbool d, vbool tt]) (k := tok) (k2 := .exact) vw vw (hap.out.mono (fun q hq _ => by (simp only [put_obj]; repeat rw [if_neg (by omega)])) (by show m1.next ≤ m1.next + 9; omega)) hsl.out rfl (by have := hlt0.out; have := ha0.out; have := hfl1.out; omega) (by have := hlt0.out; have := ha0.out; have := hfl1.out; unfold Go.maxLen; omega) (by show m1.next + 4 + 3 < m1.next + 9; omega) ?_
    intro tok3 m3 hap3 hn3 hf3 hq3
    replace hap3 := Hid.mk hap3
    replace hn3 : m3.next = m1.next + 9 := hn3
    have e9 : L9.length = L8.length + 1 := by rw [e.out, List.length_append]; rfl
    have f9 : L9.flatMap Sg.cells = L8.flatMap Sg.cells ++ [vint v, vbool d, vbool tt] := by rw [e.out, List.flatMap_append]; rfl
    replace e9 := Hid.mk e9
    replace f9 := Hid.mk f9
    clear hf3 hq3
    repeat' (with_reducible first | refine x_ops ?_ | refine wk ?_ | ((first | refine gd1 ?_ ?_ | refine gd2 ?_ ?_ | refine gd3 ?_ ?_) <;> (first | exact @False.elim _ | intro hc)))
    refine nx hlt0.out ⟨vv, tok3, ?_, ?_⟩
    · rw [hL9.out, e9.out, f9.out]; exact vv
    · rw [hL9.out, e9.out]; exact hap3.out.mono (fun _ _ _ => rfl) (by show m3.next ≤ m1.next + 9; omega)
end Go.Proofs.YtdefefeifcdogaaGreat
namespace Go.Proofs.YtdefefeifcdogaaGreat
open Go.RowKit
set_option linter.unusedSimpArgs false
set_option linter.unusedVariables false

set_option maxHeartbeats 1000000 in
theorem commonI_fn (a b : List Int) (ha : a.length ≤ 17592186044) (hb : b.length ≤ 17592186044416) : Fn Tryz.prog Gd 91 [tIs a, tIs b] (tIs (a.filter (memI b))) := by
  refine Fn.of_vx0 k_leaf_common_int (by simp) (by rw [V.pures, pure_tIs, V.pures, pure_tIs]; rfl) ?_
  unfold c_leaf_common_int
  have hs := fun k (h : k < a.length) => take_filter (memI b) h
  have hfl := fun k => filter_len (memI b) a k
  have hall : (a.take a.length).filter (memI b) = a.filter (memI b) := by rw [List.take_length]
  replace hs := Hid.mk hs
  replace hfl := Hid.mk hfl
  replace hall := Hid.mk hall
  have ha0 := Hid.mk ha
  have hb0 := Hid.mk hb
  clear ha hb
  rw [tIs, tIs]
  repeat' (with_reducible first | refine x_ops ?_ | refine wk ?_ | ((first | refine gd1 ?_ ?_ | refine gd2 ?_ ?_ | refine gd3 ?_ ?_) <;> (first | exact @False.elim _ | intro hc)))
  refine x_loopW w_leaf_common_int_p5 kr a.length (fun k t m' => t 9 = vint k ∧ ∃ tok, t 4 = .sl ((a.take k).filter (memI b)).length (((a.take k).filter (memI b)).map vint) tok ∧ Apb m' tok ((a.take k).filter (memI b)).length 3 1) ?_ ?_
  · exact ⟨vv, .exact, vv, .inl rfl⟩
  rintro k t m1 hk ⟨h9, tok, h4, hap⟩
  replace hap := Hid.mk hap
  by_cases hlt : k < a.length
  case neg =>
    have c1 : ¬ ((k : Int) < (a.length : Int)) := by omega
    have hkl : k = a.length := by omega
    subst hkl
    rw [hall.out] at h4
    clear hlt hk
    generalize a.filter (memI b) = L at *
    repeat' (with_reducible first | refine x_ops ?_ | refine wk ?_ | ((first | refine gd1 ?_ ?_ | refine gd2 ?_ ?_ | refine gd3 ?_ ?_) <;> (first | exact @False.elim _ | intro hc)))
    exact finV_ret vv (.sl _ _ _)
  have g1 := ints_at (l := a) (k := k) hlt
  have c1 : (k : Int) < (a.length : Int) := by omega
  have w1 := w_add1 (k := k) (by have := ha0.out; omega)
  have hs1 := hs.out k hlt
  have hfl1 := hfl.out k
  have H := hasIn_fn b (a.getD k 0) hb0.out
  have hlt0 := Hid.mk hlt
  generalize hL9 : (a.take (k + 1)).filter (memI b) = L9 at *
  generalize (a.take k).filter (memI b) = L8 at *
  have hsl : (L8.map vint).length = L8.length * 1 := by rw [List.length_map, Nat.mul_one]
  replace hL9 := Hid.mk hL9
  replace hs1 := Hid.mk hs1
  replace hsl := Hid.mk hsl
  replace hfl1 := Hid.mk hfl1
  clear hlt hk
  cases hm : memI b (a.getD k 0) with
  | false =>
    rw [hm] at H
    have e := hs1.out
    rw [if_neg (by rw [show a.getD k default = a.getD k 0 from rfl, hm]; decide), List.append_nil] at e
    replace e := Hid.mk e
    clear hm hs1
    generalize a.getD k 0 = x at *
    repeat' (with_reducible first | refine x_ops ?_ | refine wk ?_ | (with_reducible refine xc (H) ?_) | ((first | refine gd1 ?_ ?_ | refine gd2 ?_ ?_ | refine gd3 ?_ ?_) <;> (first | exact @False.elim _ | intro hc)))
    refine nx hlt0.out ⟨vv, tok, ?_, ?_⟩
    · rw [hL9.out, e.out]; first | exact h4 | exact vv
    · rw [hL9.out, e.out]; exact hap.out.mono (fun q hq _ => rfl) (Nat.le_refl _)
  | true =>
    rw [hm] at H
    have e := hs1.out
    rw [if_pos (show memI b (a.getD k default) = true from hm)] at e
    have e' : L9 = L8 ++ [a.getD k 0] := e
    replace e := Hid.mk e'
    clear hm hs1 e'
    generalize a.getD k 0 = x at *
    repeat' (with_reducible first | refine x_ops ?_ | refine wk ?_ | (with_reducible refine xc (H) ?_) | ((first | refine gd1 ?_ ?_ | refine gd2 ?_ ?_ | refine gd3 ?_ ?_) <;> (first | exact @False.elim _ | intro hc)))
    refine x_appc (n := L8.length) (xs := L8.map vint) (j := 1) (ys := [vint x]) (k := tok) (k2 := .exact) vw vw (hap.out.mono (fun q hq _ => rfl) (by show m1.next ≤ m1.next + 5; omega)) hsl.out rfl (by have := hlt0.out; have := ha0.out; have := hfl1.out; omega) (by have := hlt0.out; have := ha0.out; have := hfl1.out; unfold Go.maxLen; omega) (by show m1.next + 3 < m1.next + 5; omega) ?_
    intro tok3 m3 hap3 hn3 hf3 hq3
    replace hap3 := Hid.mk hap3
    replace hn3 : m3.next = m1.next + 5 := hn3
    have e9 : L9.length = L8.length + 1 := by rw [e.out, List.length_append]; rfl
    have f9 : L9.map vint = L8.map vint ++ [vint x] := by rw [e.out, List.map_append]; rfl
    replace e9 := Hid.mk e9
    replace f9 := Hid.mk f9
    clear hf3 hq3
    repeat' (with_reducible first | refine x_ops ?_ | refine wk ?_ | ((first | refine gd1 ?_ ?_ | refine gd2 ?_ ?_ | refine gd3 ?_ ?_) <;> (first | exact @False.elim _ | intro hc)))
    refine nx hlt0.out ⟨vv, tok3, ?_, ?_⟩
    · rw [hL9.out, e9.out, f9.out]; exact vv
    · rw [hL9.out, e9.out]; exact hap3.out.mono (fun _ _ _ => rfl) (by show m3.next ≤ m1.next + 5; omega)
end Go.Proofs.YtdefefeifcdogaaGreat
namespace Go.Proofs.YtdefefeifcdogaaGreat
open Go.RowKit
set_option linter.unusedSimpArgs false
set_option linter.unusedVariables false

theorem flat_take_succ {α : Type} [Inhabited α] (c : α → List V) (L : List α) {k : Nat} (h : k < L.length) : (L.take (k + 1)).flatMap c = (L.take k).flatMap c ++ c (L.getD k default) := by
  rw [List.take_add_one, List.getElem?_eq_getElem h, List.flatMap_append]
  congr 1
  rw [List.getD_eq_getElem?_getD, List.getElem?_eq_getElem h]
  show List.flatMap c [L[k]] = _
  simp
theorem getDmap {α β : Type} [Inhabited α] [Inhabited β] (g : α → β) {l : List α} {i : Nat} (h : i < l.length) : (l.map g).getD i default = g (l.getD i default) := by
  rw [List.getD_eq_getElem?_getD, List.getElem?_map, List.getD_eq_getElem?_getD, List.getElem?_eq_getElem h]; rfl
section
variable {P : Program} {G : Ground}
end
end Go.Proofs.YtdefefeifcdogaaGreat
namespace Go.Proofs.YtdefefeifcdogaaGreat
open Go.RowKit
set_option linter.unusedSimpArgs false
set_option linter.unusedVariables false

/-- The cells of two columns, by a function. -/
def ceK (C : List Int → List Int → List Int) (a b : List (List Int)) (k : Nat) : List (List Int) := (List.range k).map fun j => C (a.getD j []) (b.getD j [])
theorem ceK_succ (C : List Int → List Int → List Int) (a b : List (List Int)) (k : Nat) : (ceK C a b (k + 1)).map tIs = (ceK C a b k).map tIs ++ [tIs (C (a.getD k []) (b.getD k []))] := by
  rw [ceK, List.range_succ, List.map_append, List.map_append]; rfl
theorem ceK_len (C : List Int → List Int → List Int) (a b : List (List Int)) (k : Nat) : (ceK C a b k).length = k := by rw [ceK, List.length_map, List.length_range]
/-- A column of two. -/
def cmbC (S : List Sg → List Sg → List Sg) (C : List Int → List Int → List Int) (x y : Clm) : Clm := ⟨x.bar, x.tie, S x.sgs y.sgs, ceK C x.ce y.ce x.ce.length⟩
def cmbL (S : List Sg → List Sg → List Sg) (C : List Int → List Int → List Int) (f g : Lf) : Lf := ⟨f.ins, (List.range f.cols.length).map fun i => cmbC S C (f.cols.getD i default) (g.cols.getD i default)⟩
theorem cmbL_len (S : List Sg → List Sg → List Sg) (C : List Int → List Int → List Int) (f g : Lf) : (cmbL S C f g).cols.length = f.cols.length := by rw [cmbL, List.length_map, List.length_range]
theorem cmbL_at (S : List Sg → List Sg → List Sg) (C : List Int → List Int → List Int) (f g : Lf) {i : Nat} (h : i < f.cols.length) : (cmbL S C f g).cols.getD i default = cmbC S C (f.cols.getD i default) (g.cols.getD i default) := by
  rw [cmbL, List.getD_eq_getElem?_getD, List.getElem?_map, List.getElem?_range h]; rfl
set_option maxHeartbeats 4000000 in
theorem combine_fn (f g : Lf) (S : List Sg → List Sg → List Sg) (C : List Int → List Int → List Int) {f1 f2 : FuncId} (hc1 : callable Tryz.prog f1 = true) (hc2 : callable Tryz.prog f2 = true) (hn : f.cols.length ≤ 400) (hng : f.cols.length ≤ g.cols.length) (h1 : f.ins.cs.length ≤ 14) (h2 : f.ins.st.length ≤ 18)
    (hS : ∀ i, i < f.cols.length → Fn Tryz.prog Gd f1 [tL Sg.cells (f.cols.getD i default).sgs, tL Sg.cells (g.cols.getD i default).sgs] (tL Sg.cells (S (f.cols.getD i default).sgs (g.cols.getD i default).sgs)))
    (hC : ∀ i j, i < f.cols.length → j < (f.cols.getD i default).ce.length → Fn Tryz.prog Gd f2 [tIs ((f.cols.getD i default).ce.getD j []), tIs ((g.cols.getD i default).ce.getD j [])] (tIs (C ((f.cols.getD i default).ce.getD j []) ((g.cols.getD i default).ce.getD j []))))
    (hl : ∀ i, i < f.cols.length → (f.cols.getD i default).ce.length ≤ 14 ∧ (f.cols.getD i default).ce.length ≤ (g.cols.getD i default).ce.length) : Fn Tryz.prog Gd 89 [f.val, g.val, .fn f1 [], .fn f2 []] (cmbL S C f g).val := by
  refine Fn.of_vx0 k_leaf_combine (by simp) (by rw [V.pures, pure_lf, V.pures, pure_lf]; rfl) ?_
  unfold c_leaf_combine
  have CP := copied_fn f.ins (by omega) (by omega)
  have hcl := cmbL_len S C f g
  have hcs := fun k (h : k < f.cols.length) => flat_take_succ Clm.cells (cmbL S C f g).cols (k := k) (by rw [hcl]; exact h)
  have hca := fun k (h : k < f.cols.length) => cmbL_at S C f g h
  rw [show (cmbL S C f g).val = .agg [tL Crs.cells f.ins.cs, tIs f.ins.st, .sl f.cols.length ((cmbL S C f g).cols.flatMap Clm.cells) .no] from by rw [Lf.val, tL, tL, hcl]; rfl]
  generalize (cmbL S C f g).cols = CL at *
  replace hcs := Hid.mk hcs
  replace hca := Hid.mk hca
  replace hS := Hid.mk hS
  replace hC := Hid.mk hC
  replace hl := Hid.mk hl
  replace hc1 := Hid.mk hc1
  replace hc2 := Hid.mk hc2
  have hcl0 := Hid.mk hcl
  have hn0 := Hid.mk hn
  have hng0 := Hid.mk hng
  clear hcl hn hng h1 h2
  repeat' (with_reducible first | refine x_ops ?_ | refine wk ?_ | (with_reducible refine xc (CP) ?_) | ((first | refine gd1 ?_ ?_ | refine gd2 ?_ ?_ | refine gd3 ?_ ?_) <;> (first | exact @False.elim _ | intro hc)))
  clear CP
  refine x_loopW w_leaf_combine_p12 kr f.cols.length (fun k t m => t 22 = vint k ∧ (m.obj 1 = some (.box [.sl g.ins.cs.length (g.ins.cs.flatMap Crs.cells) .no, .sl g.ins.st.length (g.ins.st.map vint) .no, .sl g.cols.length (g.cols.flatMap Clm.cells) .no] 28) ∧ m.obj 2 = some (.box [.sl 0 [] .exact, .sl 0 [] .exact, .sl 0 [] .exact] 28) ∧ 7 < m.next) ∧ ∃ tok, m.obj 7 = some (.box [.sl f.ins.cs.length (f.ins.cs.flatMap Crs.cells) .no, .sl f.ins.st.length (f.ins.st.map vint) .no, .sl k ((CL.take k).flatMap Clm.cells) tok] 28) ∧ Apb m tok k 84 4) ?_ ?_
  · exact ⟨vv, ⟨vv, vv, by show 7 < 9; omega⟩, .exact, vv, .inl rfl⟩
  rintro k t m hk ⟨h22, ⟨hm1, hm2, hmn⟩, tok, hm7, hap⟩
  replace hap := Hid.mk hap
  by_cases hlt : k < f.cols.length
  case neg =>
    have c1 : ¬ (k : Int) < (f.cols.length : Int) := by omega
    have hkl : k = f.cols.length := by omega
    rw [hkl, List.take_of_length_le (by have := hcl0.out; omega)] at hm7
    subst hkl
    have n2 : 2 < m.next := by omega
    clear hlt hk
    repeat' (with_reducible first | refine x_ops ?_ | refine wk ?_ | ((first | refine gd1 ?_ ?_ | refine gd2 ?_ ?_ | refine gd3 ?_ ?_) <;> (first | exact @False.elim _ | intro hc)))
    exact finV_ret vv (.agg (.cons (.sl _ _ _) (.cons (.sl _ _ _) (.cons (.sl _ _ _) .nil))))
  have hkg : k < g.cols.length := by have := hng0.out; omega
  have g1 := clm_take (l := f.cols) (k := k) hlt
  have g2 := clms_len f.cols
  have g3 := clm_take (l := g.cols) (k := k) hkg
  have g4 := clms_len g.cols
  have c1 : (k : Int) < (f.cols.length : Int) := by omega
  have c2 : (k : Int) < (g.cols.length : Int) := by omega
  have c3 : k * 4 + 4 ≤ f.cols.length * 4 := by omega
  have c4 : k * 4 + 4 ≤ g.cols.length * 4 := by omega
  have w1 := w_add1 (k := k) (by have := hn0.out; omega)
  have hsl : ((CL.take k).flatMap Clm.cells).length = k * 4 := by
    rw [clms_len, List.length_take, Nat.min_eq_left (by have := hcl0.out; omega)]
  have hcs1 := hcs.out k hlt
  rw [hca.out k hlt] at hcs1
  have H1 := hS.out k hlt
  have H2 := fun j => hC.out k j hlt
  have hlk := hl.out k hlt
  have hlt0 := Hid.mk hlt
  have hmn0 := Hid.mk hmn
  generalize f.cols.getD k default = x at *
  generalize g.cols.getD k default = y at *
  generalize hL9 : (CL.take (k + 1)).flatMap Clm.cells = L9 at *
  generalize (CL.take k).flatMap Clm.cells = L8 at *
  obtain ⟨xb, xt, xs, xe⟩ := x
  obtain ⟨yb, yt, ys, ye⟩ := y
  rw [tL, tL, tL] at H1
  replace H2 : ∀ j, j < xe.length → Fn Tryz.prog Gd f2 [tIs (xe.getD j []), tIs (ye.getD j [])] (tIs (C (xe.getD j []) (ye.getD j []))) := H2
  replace hlk : xe.length ≤ 14 ∧ xe.length ≤ ye.length := hlk
  replace hcs1 : L9 = L8 ++ [vbool xb, vbool xt, .sl (S xs ys).length ((S xs ys).flatMap Sg.cells) .no, .sl (ceK C xe ye xe.length).length ((ceK C xe ye xe.length).map tIs) .no] := hcs1
  rw [ceK_len] at hcs1
  dsimp only at H1
  generalize S xs ys = SL at *
  replace hL9 := Hid.mk hL9
  replace hcs1 := Hid.mk hcs1
  replace hsl := Hid.mk hsl
  replace H2 := Hid.mk H2
  replace hlk := Hid.mk hlk
  replace hm7 := Hid.mk hm7
  replace hm2 := Hid.mk hm2
  have hm10 := Hid.mk hm1
  have n1 : 1 < m.next + 6 := by omega
  clear hlt hk hmn hkg
  repeat' (with_reducible first | refine x_ops ?_ | refine wk ?_ | (with_reducible refine xcv H1 hc1.out ?_) | ((first | refine gd1 ?_ ?_ | refine gd2 ?_ ?_ | refine gd3 ?_ ?_) <;> (first | exact @False.elim _ | intro hc)))
  clear H1 hm1
  refine x_loopW w_leaf_combine_p4 kr xe.length (fun j t' m' => t' 46 = vint j ∧ (m'.obj 1 = some (.box [.sl g.ins.cs.length (g.ins.cs.flatMap Crs.cells) .no, .sl g.ins.st.length (g.ins.st.map vint) .no, .sl g.cols.length (g.cols.flatMap Clm.cells) .no] 28) ∧ m'.obj 2 = some (.box [.sl 0 [] .exact, .sl 0 [] .exact, .sl 0 [] .exact] 28) ∧ m'.obj 7 = some (.box [.sl f.ins.cs.length (f.ins.cs.flatMap Crs.cells) .no, .sl f.ins.st.length (f.ins.st.map vint) .no, .sl k L8 tok] 28) ∧ m'.obj (m.next + 3) = some (.box [vbool xb, vbool xt, .sl xs.length (xs.flatMap Sg.cells) .no, .sl xe.length (xe.map tIs) .no] 84) ∧ m'.obj (m.next + 11) = some (.box [vbool yb, vbool yt, .sl ys.length (ys.flatMap Sg.cells) .no, .sl ye.length (ye.map tIs) .no] 84) ∧ m.next + 26 ≤ m'.next) ∧ Apb m' tok k 84 4 ∧ ∃ tok2, m'.obj (m.next + 24) = some (.box [vbool xb, vbool xt, .sl SL.length (SL.flatMap Sg.cells) .no, .sl j ((ceK C xe ye j).map tIs) tok2] 84) ∧ Apb m' tok2 j 23 1) ?_ ?_
  · have := hmn0.out
    refine ⟨vv, ⟨?_, ?_, ?_, ?_, ?_, Nat.le_refl _⟩, ?_, .exact, ?_, .inl rfl⟩
    · (simp only [put_obj]; repeat rw [if_neg (by omega)]); exact hm10.out
    · (simp only [put_obj]; repeat rw [if_neg (by omega)]); exact hm2.out
    · (simp only [put_obj]; repeat rw [if_neg (by omega)]); exact hm7.out
    · simp only [put_obj]
      repeat rw [if_neg (by omega)]
      first
        | (rw [if_pos rfl]; done)
        | (rw [if_pos trivial]; done)
        | (rw [if_pos rfl]; rfl)
        | (rw [if_pos trivial]; rfl)
    · simp only [put_obj]
      repeat rw [if_neg (by omega)]
      first
        | (rw [if_pos rfl]; done)
        | (rw [if_pos trivial]; done)
        | (rw [if_pos rfl]; rfl)
        | (rw [if_pos trivial]; rfl)
    · refine hap.out.mono (fun q hq _ => ?_) (by show m.next ≤ m.next + 26; omega)
      (simp only [put_obj]; repeat rw [if_neg (by omega)])
    · simp only [put_obj]
      repeat rw [if_neg (by omega)]
      first
        | (rw [if_pos rfl]; done)
        | (rw [if_pos trivial]; done)
        | (rw [if_pos rfl]; rfl)
        | (rw [if_pos trivial]; rfl)
  clear hm2 hm7 hap g1 g2 g3 g4 c2 c3 c4 n1 hm10
  rintro j t1 m1 hj ⟨h46, ⟨hm1, hm2, hm7, hm3, hm11, hn1⟩, hap, tok2, hm24, hap2⟩
  replace hap := Hid.mk hap
  replace hap2 := Hid.mk hap2
  have hmnn := hmn0.out
  have n1 : m.next + 3 < m1.next := by omega
  have n2 : m.next + 11 < m1.next := by omega
  have n3 : m.next + 24 < m1.next := by omega
  have n4 : 7 < m1.next := by omega
  have hn10 := Hid.mk hn1
  by_cases hlt2 : j < xe.length
  case neg =>
    have d1 : ¬ ((j : Int) < (xe.length : Int)) := by omega
    have hjl : j = xe.length := by omega
    subst hjl
    clear hlt2 hj hn1 hmnn hm3 hm11
    repeat' (with_reducible first | refine x_ops ?_ | refine wk ?_ | ((first | refine gd1 ?_ ?_ | refine gd2 ?_ ?_ | refine gd3 ?_ ?_) <;> (first | exact @False.elim _ | intro hc)))
    refine x_appc (n := k) (xs := L8) (j := 1) (ys := [vbool xb, vbool xt, .sl SL.length (SL.flatMap Sg.cells) .no, .sl xe.length ((ceK C xe ye xe.length).map tIs) .no]) (k := tok) (k2 := .exact) vw vw (hap.out.mono (fun _ _ _ => rfl) (Nat.le_add_right _ _)) hsl.out rfl (by have := hlt0.out; have := hn0.out; omega) (by have := hlt0.out; have := hn0.out; unfold Go.maxLen; omega) (by show m1.next + 4 < m1.next + 7; omega) ?_
    intro tok3 m3 hap3 hn3 hf3 hq3
    have hnn : m3.next = m1.next + 7 := hn3
    have old : ∀ q cs t, q < m1.next → m1.obj q = some (.box cs t) → m3.obj q = some (.box cs t) := fun q cs t hq h => (hf3 q (by show ¬ q = m1.next + 4; omega) (hap.out.box h)).trans h
    have a1 := old _ _ _ (by omega) hm1
    have a2 := old _ _ _ (by omega) hm2
    have a7 := old _ _ _ n4 hm7
    replace hap3 := Hid.mk hap3
    clear hm1 hm2 hm7 hm24 hf3 hq3 old hn3
    repeat' (with_reducible first | refine x_ops ?_ | refine wk ?_ | ((first | refine gd1 ?_ ?_ | refine gd2 ?_ ?_ | refine gd3 ?_ ?_) <;> (first | exact @False.elim _ | intro hc)))
    refine nx hlt0.out ⟨vv, ⟨a1, a2, by show 7 < m1.next + 7; omega⟩, tok3, ?_, ?_⟩
    · rw [hL9.out, hcs1.out]
      first
        | exact vv
        | exact if_pos rfl
        | rfl
    · show Apb ⟨(m3.put 7 _).obj, _⟩ tok3 (k + 1) 84 4
      exact (hap3.out.put a7).mono (fun _ _ _ => rfl) (by show m3.next ≤ m1.next + 7; omega)
  have d1 : (j : Int) < (xe.length : Int) := by omega
  have d2 : (j : Int) < (ye.length : Int) := by have := hlk.out; omega
  have g1 := iss_at (l := xe) (k := j) hlt2
  have g3 := iss_at (l := ye) (k := j) (by have := hlk.out; omega)
  have w2 := w_add1 (k := j) (by have := hlk.out; omega)
  have H3 := H2.out j hlt2
  have hces := ceK_succ C xe ye j
  have hcel : ((ceK C xe ye j).map tIs).length = j * 1 := by rw [List.length_map, ceK_len, Nat.mul_one]
  have hlt20 := Hid.mk hlt2
  have hj14 : j < 14 := by have := hlk.out; omega
  rw [tIs, tIs, tIs] at H3
  rw [tIs] at hces
  generalize C (xe.getD j []) (ye.getD j []) = z at *
  generalize xe.getD j [] = xa at *
  generalize ye.getD j [] = ya at *
  generalize hC9 : (ceK C xe ye (j + 1)).map tIs = C9 at *
  replace hC9 := Hid.mk hC9
  generalize (ceK C xe ye j).map tIs = C8 at *
  replace hj14 := Hid.mk hj14
  replace hces := Hid.mk hces
  replace hcel := Hid.mk hcel
  have b1 := Hid.mk hm1
  have b2 := Hid.mk hm2
  have b7 := Hid.mk hm7
  clear hlt2 hj hn1 hmnn hm1 hm2 hm7
  repeat' (with_reducible first | refine x_ops ?_ | refine wk ?_ | (with_reducible refine xcv H3 hc2.out ?_) | ((first | refine gd1 ?_ ?_ | refine gd2 ?_ ?_ | refine gd3 ?_ ?_) <;> (first | exact @False.elim _ | intro hc)))
  have hx : ∀ q, tok2 = .own q → tok ≠ .own q := hap2.out.ne hap.out (by decide)
  refine x_appc (n := j) (xs := C8) (j := 1) (ys := [.sl z.length (z.map vint) .no]) (k := tok2) (k2 := .exact) vw vw (hap2.out.mono (fun _ _ _ => rfl) (Nat.le_add_right _ _)) hcel.out rfl (by have := hj14.out; omega) (by have := hj14.out; unfold Go.maxLen; omega) (by show m1.next + 15 < m1.next + 18; omega) ?_
  intro tok3 m3 hap3 hn3 hf3 hq3
  have hnn : m3.next = m1.next + 18 := hn3
  have hm1n := hn10.out
  have hmnn := hmn0.out
  have old : ∀ q cs t, q < m1.next → m1.obj q = some (.box cs t) → m3.obj q = some (.box cs t) := fun q cs t hq h => (hf3 q (by show ¬ q = m1.next + 15; omega) (hap2.out.box h)).trans h
  have a1 := old _ _ _ (by omega) b1.out
  have a2 := old _ _ _ (by omega) b2.out
  have a7 := old _ _ _ (by omega) b7.out
  have a3 := old _ _ _ (by omega) hm3
  have a11 := old _ _ _ (by omega) hm11
  have a24 := old _ _ _ (by omega) hm24
  have hapk : Apb m3 tok k 84 4 := hap.out.keep (by omega) fun q hq e => hf3 q (by show ¬ q = m1.next + 15; omega) fun e2 => hx q e2 e
  have hapk2 := hapk.put (o := .box [vbool xb, vbool xt, .sl SL.length (SL.flatMap Sg.cells) .no, .sl (j + 1) (C8 ++ [.sl z.length (z.map vint) .no]) tok3] 84) a24
  have hap32 := hap3.put (o := .box [vbool xb, vbool xt, .sl SL.length (SL.flatMap Sg.cells) .no, .sl (j + 1) (C8 ++ [.sl z.length (z.map vint) .no]) tok3] 84) a24
  replace hapk2 := Hid.mk hapk2
  replace hap32 := Hid.mk hap32
  have f1 : ¬ 1 = m.next + 24 := by omega
  have f2 : ¬ 2 = m.next + 24 := by omega
  have f7 : ¬ 7 = m.next + 24 := by omega
  clear hf3 hq3 old hap3 hapk hm1n hmnn hx hn3 hm3 hm11 hm24
  repeat' (with_reducible first | refine x_ops ?_ | refine wk ?_ | ((first | refine gd1 ?_ ?_ | refine gd2 ?_ ?_ | refine gd3 ?_ ?_) <;> (first | exact @False.elim _ | intro hc)))
  refine nx hlt20.out ⟨vv, ⟨?_, ?_, ?_, ?_, ?_, by show m.next + 26 ≤ m1.next + 18; have := hn10.out; omega⟩, ?_, tok3, ?_, ?_⟩
  · simp only [put_obj]; rw [if_neg f1]; exact a1
  · simp only [put_obj]; rw [if_neg f2]; exact a2
  · simp only [put_obj]; rw [if_neg f7]; exact a7
  · simp only [put_obj]; rw [if_neg (by omega)]; exact a3
  · simp only [put_obj]; rw [if_neg (by omega)]; exact a11
  · exact hapk2.out.mono (fun _ _ _ => rfl) (by show m3.next ≤ m1.next + 18; omega)
  · rw [hC9.out, hces.out]
    first
      | exact vv
      | exact if_pos rfl
      | rfl
  · exact hap32.out.mono (fun _ _ _ => rfl) (by show m3.next ≤ m1.next + 18; omega)
end Go.Proofs.YtdefefeifcdogaaGreat
namespace Go.Proofs.YtdefefeifcdogaaGreat
open Go.RowKit
set_option maxRecDepth 100000

abbrev c_slices_ContainsFunc_ints_p1 : VC := (.seq (.ops 0 [oo 5 .mv [.t 0], oo 6 .mv [.t 1], oo 7 (.call 162) [.t 5, .t 6], oo 8 (.bin .geq) [.t 7, kk 0], oo 4 .mv [.t 8]]) .ret)
def c_slices_ContainsFunc_ints : VC := (.seq (.ops 0 [oo 4 .mv [(.c (.lit (.bool false)))]]) c_slices_ContainsFunc_ints_p1)
theorem k_slices_ContainsFunc_ints : Comp Tryz.prog nobx gtab 92 9 c_slices_ContainsFunc_ints [.t 4] := ⟨⟨Tryz.f92, _, Tryz.func92, rfl, rfl, kr, kr⟩⟩
abbrev c_slices_IndexFunc_ints_p1 : VC := (.seq (.ops 0 [oo 17 .mv [.t 5], oo 4 .mv [.t 17]]) .ret)
abbrev c_slices_IndexFunc_ints_p2 : VC := (.seq (.ops 0 [oo 11 .mv [.t 1], oo 12 .mv [.t 0], oo 13 .mv [.t 5], oo 14 (.ixA 1) [.t 12, .t 13], oo 15 .ld1 [.t 14], oo 16 .callv [.t 11, .t 15]]) (.cond (.t 16) c_slices_IndexFunc_ints_p1 .skip))
abbrev c_slices_IndexFunc_ints_p3 : VC := (.ops 0 [oo 18 (.bin .add) [.t 8, kk 1], oo 8 .mv [.t 18]])
abbrev c_slices_IndexFunc_ints_p4 : VC := (.seq (.block 1 (.seq (.ops 0 [oo 10 .mv [.t 8], oo 5 .mv [.t 10]]) c_slices_IndexFunc_ints_p2)) c_slices_IndexFunc_ints_p3)
abbrev c_slices_IndexFunc_ints_p5 : VC := (.seq (.cond (.t 9) .skip (.exit 0)) c_slices_IndexFunc_ints_p4)
abbrev c_slices_IndexFunc_ints_p6 : VC := (.seq (.ops 0 [oo 9 (.bin .lss) [.t 8, .t 7]]) c_slices_IndexFunc_ints_p5)
@[go_sem] abbrev w_slices_IndexFunc_ints_p6 : Nat := 524080
abbrev c_slices_IndexFunc_ints_p8 : VC := (.seq (.ops 0 [oo 4 .mv [kk (-1)]]) .ret)
abbrev c_slices_IndexFunc_ints_p9 : VC := (.seq (.seq (.ops 0 [oo 6 .mv [.t 0], oo 7 .len [.t 6], oo 8 .mv [kk 0]]) (.block 0 (.loop c_slices_IndexFunc_ints_p6))) c_slices_IndexFunc_ints_p8)
def c_slices_IndexFunc_ints : VC := (.seq (.ops 0 [oo 4 .mv [kk 0]]) c_slices_IndexFunc_ints_p9)
theorem k_slices_IndexFunc_ints : Comp Tryz.prog nobx gtab 162 19 c_slices_IndexFunc_ints [.t 4] := ⟨⟨Tryz.f162, _, Tryz.func162, rfl, rfl, kr, kr⟩⟩
end Go.Proofs.YtdefefeifcdogaaGreat
namespace Go.Proofs.YtdefefeifcdogaaGreat
open Go.RowKit
set_option linter.unusedSimpArgs false
set_option linter.unusedVariables false

def emI (l : List Int) : Bool := decide (l.length = 0)
theorem meet1_fn (l : List Int) : Fn Tryz.prog Gd 93 [tIs l] (vbool (emI l)) := by
  refine Fn.of_vx0 k_leaf_Meet_1 (by simp) (by rw [V.pures, pure_tIs]; rfl) ?_
  unfold c_leaf_Meet_1
  by_cases h : l.length = 0
  · have c1 : ((l.length : Int) == 0) = true := by rw [beq_iff_eq]; omega
    rw [emI, decide_eq_true h]
    clear h
    repeat' (with_reducible first | refine x_ops ?_ | refine wk ?_ | ((first | refine gd1 ?_ ?_ | refine gd2 ?_ ?_ | refine gd3 ?_ ?_) <;> (first | exact @False.elim _ | intro hc)))
    exact finV_lit vv rfl
  · have c1 : ((l.length : Int) == 0) = false := by rw [beq_eq_false_iff_ne]; omega
    rw [emI, decide_eq_false h]
    clear h
    repeat' (with_reducible first | refine x_ops ?_ | refine wk ?_ | ((first | refine gd1 ?_ ?_ | refine gd2 ?_ ?_ | refine gd3 ?_ ?_) <;> (first | exact @False.elim _ | intro hc)))
    exact finV_lit vv rfl
theorem indexII_fn (l : List (List Int)) (hl : l.length ≤ 17592186044416) :
    Fn Tryz.prog Gd 162 [tIss l, .fn 93 []] (vint (idxI emI l)) := by
  refine Fn.of_vx0 k_slices_IndexFunc_ints (by simp) (by rw [V.pures, pure_tIss]; rfl) ?_
  unfold c_slices_IndexFunc_ints
  rw [tIss]
  repeat' (with_reducible first | refine x_ops ?_ | refine wk ?_ | ((first | refine gd1 ?_ ?_ | refine gd2 ?_ ?_ | refine gd3 ?_ ?_) <;> (first | exact @False.elim _ | intro hc)))
  refine x_loopF w_slices_IndexFunc_ints_p6 kr l.length (fun k t => t 8 = vint k ∧ ∀ i, i < k → emI (l.getD i default) = false) ?_ ?_
  · exact ⟨vv, fun i h => by omega⟩
  rintro k t hk ⟨h8, hI⟩
  replace hI := Hid.mk hI
  by_cases hlt : k < l.length
  · have g1 := iss_at (l := l) (k := k) hlt
    have c2 : (k : Int) < (l.length : Int) := by omega
    have w2 := w_add1 (k := k) (by omega)
    have hx := meet1_fn (l.getD k [])
    rw [tIs] at hx
    have hlt0 := Hid.mk hlt
    cases hb : emI (l.getD k [])
    · rw [hb] at hx
      replace hb := Hid.mk hb
      clear hlt hk
      generalize hE : l.getD k [] = y at *
      replace hE := Hid.mk hE
      repeat' (with_reducible first | refine x_ops ?_ | refine wk ?_ | (with_reducible refine xcv (hx) kr ?_) | ((first | refine gd1 ?_ ?_ | refine gd2 ?_ ?_ | refine gd3 ?_ ?_) <;> (first | exact @False.elim _ | intro hc)))
      refine nf hlt0.out ⟨vv, fun i h => ?_⟩ rfl
      by_cases hi : i = k
      · subst hi; rw [show l.getD i default = y from hE.out]; exact hb.out
      · exact hI.out i (by omega)
    · rw [hb] at hx
      rw [idxI_at hlt0.out hb hI.out]
      clear hlt hk hb
      generalize l.getD k [] = y at *
      repeat' (with_reducible first | refine x_ops ?_ | refine wk ?_ | (with_reducible refine xcv (hx) kr ?_) | ((first | refine gd1 ?_ ?_ | refine gd2 ?_ ?_ | refine gd3 ?_ ?_) <;> (first | exact @False.elim _ | intro hc)))
      exact finV_lit vv rfl
  · have c1 : ¬ ((k : Int) < (l.length : Int)) := by omega
    have hq : idxI emI l = -1 := idxI_none fun i hi => hI.out i (by omega)
    rw [hq]
    clear hlt hk hq
    repeat' (with_reducible first | refine x_ops ?_ | refine wk ?_ | ((first | refine gd1 ?_ ?_ | refine gd2 ?_ ?_ | refine gd3 ?_ ?_) <;> (first | exact @False.elim _ | intro hc)))
    exact finV_lit vv rfl
theorem containsII_fn (l : List (List Int)) (hl : l.length ≤ 17592186044416) :
    Fn Tryz.prog Gd 92 [tIss l, .fn 93 []] (vbool (l.any emI)) := by
  refine Fn.of_vx0 k_slices_ContainsFunc_ints (by simp) (by rw [V.pures, pure_tIss]; rfl) ?_
  unfold c_slices_ContainsFunc_ints
  have I := indexII_fn l hl
  have G := idxI_ge emI l
  repeat' (with_reducible first | refine x_ops ?_ | refine wk ?_ | (with_reducible refine xc (I) ?_) | ((first | refine gd1 ?_ ?_ | refine gd2 ?_ ?_ | refine gd3 ?_ ?_) <;> (first | exact @False.elim _ | intro hc)))
  refine finV_lit vv ?_
  rw [← G]
def meetS (a b : List Sg) : List Sg := a.filter (memS b)
def meetI (a b : List Int) : List Int := a.filter (memI b)
def emC (c : Clm) : Bool := decide (c.sgs.length = 0) || c.ce.any emI
/-- What Meet answers. -/
noncomputable def metR (f g : Lf) : Lf × Int := if twoE f g ≠ 0 then (noL, twoE f g) else if (cmbL meetS meetI f g).cols.any emC = true then (noL, 102) else (cmbL meetS meetI f g, 0)
theorem any_at {α : Type} [Inhabited α] {p : α → Bool} {l : List α} {k : Nat} (hk : k < l.length) (h : p (l.getD k default) = true) : l.any p = true := List.any_eq_true.2 ⟨_, getD_mem hk, h⟩
theorem any_none {α : Type} [Inhabited α] {p : α → Bool} {l : List α} (h : ∀ i, i < l.length → p (l.getD i default) = false) : l.any p = false := by
  rw [← Bool.not_eq_true, List.any_eq_true]; rintro ⟨x, hx, e⟩
  obtain ⟨i, hi, rfl⟩ := List.getElem_of_mem hx
  have := h i hi
  rw [List.getD_eq_getElem?_getD, List.getElem?_eq_getElem hi] at this
  rw [show p l[i] = false from this] at e; cases e
/-- What two leaves that fit one another are like. -/
structure TwoOk (f g : Lf) : Prop where
  n : f.cols.length ≤ 400
  w : f.cols.length ≤ g.cols.length
  c : f.ins.cs.length ≤ 14
  s : f.ins.st.length ≤ 18
  l : ∀ i, i < f.cols.length → (f.cols.getD i default).ce.length ≤ 14 ∧ (f.cols.getD i default).ce.length ≤ (g.cols.getD i default).ce.length
theorem TwoOk.of {f g : Lf} (hf : LfSm f) (hg : LfSm g) (h : twoE f g = 0) : TwoOk f g := by
  have hs := TwoSm.of hf hg h
  obtain ⟨h1, h2, h3⟩ := twoE_zero h
  obtain ⟨q1, q2, q3⟩ := lchk_zero h1
  obtain ⟨q4, q5, _⟩ := chkI_small q1
  exact ⟨q2, hs.n, q4, q5, fun i hi => ⟨by rw [(q3 i hi).1.len]; exact q4, hs.c i hi⟩⟩
end Go.Proofs.YtdefefeifcdogaaGreat
namespace Go.Proofs.YtdefefeifcdogaaGreat
open Go.RowKit
set_option linter.unusedSimpArgs false
set_option linter.unusedVariables false

section
variable {P : Program} {G : Ground}
end
def asX : Code := (.seq (.region 6 #[ (.mk (some 6) (.assign (.tmp 16)) 3 "piece.go:176" #[] none) ] false) (.region 7 #[ (.mk (some 7) (.assign (.tmp 17)) 3 "piece.go:176" #[] none) ] false))
def bdX : Code := (.block 1 (.region 8 #[ (.mk (some 18) (.load 23 (.tmp 5)) 23 "piece.go:177" #[] none) , (.mk (some 19) (.load 23 (.tmp 5)) 23 "piece.go:177" #[] none) , (.mk (some 20) (.move (.tmp 6)) 3 "piece.go:177" #[] none) , (.mk (some 21) (.indexAddr 23 (.tmp 19) (.tmp 20)) 0 "piece.go:177" #[ (.mk 1 .data) , (.mk 2 .data) ] none) , (.mk (some 22) (.load 3 (.tmp 21)) 3 "piece.go:177" #[ (.mk 3 .data) ] none) , (.mk (some 23) (.move (.tmp 7)) 3 "piece.go:177" #[] none) , (.mk (some 24) (.binOp .add 3 (.tmp 22) (.tmp 23) 3) 3 "piece.go:177" #[ (.mk 4 .data) , (.mk 5 .data) ] none) , (.mk (some 25) (.buildSlice 23 1 #[ (0, (.tmp 24)) ]) 23 "piece.go:177" #[ (.mk 6 .data) ] none) , (.mk (some 26) (.call (.mk (.builtin .append) #[ (.tmp 18) , (.tmp 25) ] #[23, 23])) 23 "piece.go:177" #[ (.mk 0 .data) , (.mk 7 .data) ] none) , (.mk none (.store 23 (.tmp 5) (.tmp 26)) 0 "piece.go:177" #[ (.mk 8 .data) , (.mk 8 .chain) , (.mk 0 .phase) , (.mk 1 .phase) , (.mk 2 .phase) , (.mk 3 .phase) , (.mk 4 .phase) , (.mk 5 .phase) , (.mk 6 .phase) , (.mk 7 .phase) , (.mk 8 .phase) ] none) ] true))
/-- One round of Onsets. -/
def RdPost (m : Mm) (i b : Nat) (tmps : List V) (k : Nat) (l : List Int) (d : Int) (r : V) (m' : Mm) : Prop := r = vbool true ∧ (∃ tok, m'.obj b = some (.box [.sl (k + 2) ((l ++ [l.getD k 0 + d]).map vint) tok] 23) ∧ Apb m' tok (k + 2) 3 1) ∧ m'.obj i = some (.oth (.loop tmps #[16, 17] asX bdX .ready)) ∧ m.next ≤ m'.next
theorem RdPost.ne {m : Mm} {i b : Nat} {tmps : List V} {k : Nat} {l : List Int} {d : Int} (hbi : b ≠ i) : ∃ r m', RdPost m i b tmps k l d r m' :=
  ⟨_, (m.put b (.box [.sl (k + 2) ((l ++ [l.getD k 0 + d]).map vint) .exact] 23)).put i (.oth (.loop tmps #[16, 17] asX bdX .ready)), rfl,
    ⟨.exact, by show (if b = i then _ else if b = b then _ else _) = _; rw [if_neg hbi, if_pos rfl], .inl rfl⟩, by show (if i = i then _ else _) = _; rw [if_pos rfl], Nat.le_refl _⟩
/-- The duration in force behind k events; the times at which events begin. -/
def frcT (l : List Evt) : Nat → Int
  | 0 => 0
  | k + 1 => if 0 < tkS (l.getD k default).sg then tkS (l.getD k default).sg else frcT l k
theorem tk0_bd : ∀ n : Nat, 0 ≤ tk0 n ∧ tk0 n ≤ 1000000
  | 0 | 1 | 2 | 3 | 4 | 5 | 6 | 7 => by decide
  | n + 8 => by show (0 : Int) ≤ 0 ∧ (0 : Int) ≤ 1000000; omega
theorem tkS_bd (s : Sg) : 0 ≤ tkS s ∧ tkS s ≤ 2000000 := by
  have h := tk0_bd s.v.toNat
  unfold tkS
  split
  · split
    · omega
    · split
      · omega
      · omega
  · omega
section
variable {P : Program} {G : Ground}
end
end Go.Proofs.YtdefefeifcdogaaGreat
namespace Go.Proofs.YtdefefeifcdogaaGreat
open Go.RowKit
set_option linter.unusedSimpArgs false
set_option linter.unusedVariables false

def keyS (s : Sg) : Int := s.v * 4 + (if s.d = true then 2 else 0) + (if s.t = true then 1 else 0)
theorem befS_key {a b : Sg} (h : befS a b = true) : keyS a < keyS b := by
  obtain ⟨v, d, t⟩ := a
  obtain ⟨v', d', t'⟩ := b
  unfold befS at h
  unfold keyS
  dsimp only at h ⊢
  cases d <;> cases t <;> cases d' <;> cases t' <;> simp at h ⊢ <;> omega
theorem rise_bd {l : List Int} (h : ∀ i, i + 1 < l.length → l.getD i 0 < l.getD (i + 1) 0) : ∀ i, i < l.length → l.getD 0 0 + i ≤ l.getD i 0
  | 0, _ => by omega
  | i + 1, hi => by have := rise_bd h i (by omega); have := h i hi; omega
theorem sgs_bd {x : Ins} {c : Clm} (h : ClmOk x c) : c.sgs.length ≤ 40 := by
  obtain ⟨h0, h1⟩ := h.sgs
  have hk : ∀ i, i < c.sgs.length → 4 ≤ keyS (c.sgs.getD i default) ∧ keyS (c.sgs.getD i default) ≤ 31 := fun i hi => by
    have ht := (h1 i hi).1
    have hp : 0 < tkS (c.sgs.getD i default) := by have := (tkS_bd (c.sgs.getD i default)).1; omega
    have ho : okS (c.sgs.getD i default) = true := by rw [← tkS_pos]; exact decide_eq_true hp
    rw [okS, Bool.and_eq_true, Bool.and_eq_true, decide_eq_true_iff, decide_eq_true_iff] at ho
    obtain ⟨⟨a, b⟩, _⟩ := ho
    unfold keyS
    split <;> split <;> omega
  have hm : ∀ i, i < c.sgs.length → keyS (c.sgs.getD 0 default) + i ≤ keyS (c.sgs.getD i default) := by
    intro i
    induction i with
    | zero => intro _; omega
    | succ i ih =>
      intro hi
      have a := ih (by omega)
      have b := befS_key ((h1 (i + 1) hi).2 (by omega))
      rw [Nat.add_sub_cancel] at b
      omega
  have a := hk 0 h0
  have b := hk (c.sgs.length - 1) (by omega)
  have d := hm (c.sgs.length - 1) (by omega)
  omega
theorem cel_bd {l : List Int} {fr : Int} {tie : Bool} (h : CelOk l fr tie) : (l.length : Int) ≤ fr + 2 := by
  have h0 := risI_pos h.ris
  have := rise_bd (risI_lt h.ris) (l.length - 1) (by omega)
  have := h.lo
  have := h.hi
  omega
theorem crs_f {x : Ins} (h : chkI x = 0) {i : Nat} (hi : i < x.cs.length) : 0 ≤ (x.cs.getD i default).f ∧ (x.cs.getD i default).f ≤ 18 := by
  obtain ⟨_, h2, _, _, h5⟩ := chkI_small h
  have := h5 i hi
  unfold crsE at this
  split at this
  · cases this
  · omega
/-- Rows of two leaves that fit one another are short. -/
theorem two_bd {f g : Lf} (hf : LfSm f) (hg : LfSm g) (h : twoE f g = 0) {i : Nat} (hi : i < f.cols.length) : (f.cols.getD i default).sgs.length ≤ 40 ∧ (g.cols.getD i default).sgs.length ≤ 40 ∧ ∀ j, j < (f.cols.getD i default).ce.length → ((f.cols.getD i default).ce.getD j []).length ≤ 20 ∧ ((g.cols.getD i default).ce.getD j []).length ≤ 20 := by
  have ok := TwoOk.of hf hg h
  obtain ⟨h1, h2, h3⟩ := twoE_zero h
  obtain ⟨q1, _, q3⟩ := lchk_zero h1
  obtain ⟨q4, _, q6⟩ := lchk_zero h2
  have hig : i < g.cols.length := by have := ok.w; omega
  have c1 := (q3 i hi).1
  have c2 := (q6 i hig).1
  refine ⟨sgs_bd c1, sgs_bd c2, fun j hj => ?_⟩
  have hj2 : j < (g.cols.getD i default).ce.length := by have := (ok.l i hi).2; omega
  have a := cel_bd (c1.cel j hj)
  have b := cel_bd (c2.cel j hj2)
  have a2 := crs_f q1 (i := j) (by rw [← c1.len]; exact hj)
  have b2 := crs_f q4 (i := j) (by rw [← c2.len]; exact hj2)
  omega
set_option maxHeartbeats 1000000 in
theorem meet_fn (f g : Lf) (hf : LfSm f) (hg : LfSm g) : Fn Tryz.prog Gd 38 [f.val, g.val] (.tup [(metR f g).1.val, vint (metR f g).2]) := by
  refine Fn.of_vx0 k_leaf_Meet (by simp) (by rw [V.pures, pure_lf, V.pures, pure_lf]; rfl) ?_
  have A := both_fn f g hf hg
  unfold c_leaf_Meet
  by_cases h0 : twoE f g = 0
  case neg =>
    have c1 : (twoE f g == 0) = false := by rw [beq_eq_false_iff_ne]; exact h0
    rw [show metR f g = (noL, twoE f g) from if_pos h0]
    clear h0 hf hg
    generalize twoE f g = e at *
    obtain ⟨⟨fc, fst⟩, fl⟩ := f
    obtain ⟨⟨gc, gst⟩, gl⟩ := g
    repeat' (with_reducible first | refine x_ops ?_ | refine wk ?_ | (with_reducible refine xc (A) ?_) | ((first | refine gd1 ?_ ?_ | refine gd2 ?_ ?_ | refine gd3 ?_ ?_) <;> (first | exact @False.elim _ | intro hc)))
    refine finV_ret vv ?_
    exact .tup (.cons (.agg (.cons (.sl _ _ _) (.cons (.sl _ _ _) (.cons (.sl _ _ _) .nil)))) (.cons (.lit _) .nil))
  have ok := TwoOk.of hf hg h0
  have CB := combine_fn f g meetS meetI (f1 := 90) (f2 := 91) kr kr ok.n ok.w ok.c ok.s
    (fun i hi => by obtain ⟨a, b, _⟩ := two_bd hf hg h0 hi; exact commonS_fn _ _ (by omega) (by omega))
    (fun i j hi hj => by obtain ⟨_, _, c⟩ := two_bd hf hg h0 hi; have := c j hj; exact commonI_fn _ _ (by omega) (by omega)) ok.l
  have hml := cmbL_len meetS meetI f g
  have hce : ∀ i, i < f.cols.length → ((cmbL meetS meetI f g).cols.getD i default).ce.length ≤ 14 := fun i hi => by
    rw [cmbL_at _ _ _ _ hi]
    show (ceK _ _ _ _).length ≤ 14
    rw [ceK_len]; exact (ok.l i hi).1
  rw [show metR f g = if (cmbL meetS meetI f g).cols.any emC = true then (noL, 102) else (cmbL meetS meetI f g, 0) from by rw [metR, if_neg (by omega)]]
  rw [h0] at A
  have okn := ok.n
  clear h0 hf hg ok
  generalize cmbL meetS meetI f g = m at *
  rw [← hml] at hce okn
  clear hml
  have hbad : ∀ k, k < m.cols.length → emC (m.cols.getD k default) = true → V.tup [(if m.cols.any emC = true then (noL, 102) else (m, 0) : Lf × Int).1.val, vint (if m.cols.any emC = true then (noL, 102) else (m, 0) : Lf × Int).2] = .tup [.agg [.sl 0 [] .no, .sl 0 [] .no, .sl 0 [] .no], vint 102] := fun k hk h => by rw [if_pos (any_at hk h)]; rfl
  have hok : (∀ i, i < m.cols.length → emC (m.cols.getD i default) = false) → V.tup [(if m.cols.any emC = true then (noL, 102) else (m, 0) : Lf × Int).1.val, vint (if m.cols.any emC = true then (noL, 102) else (m, 0) : Lf × Int).2] = .tup [m.val, vint 0] := fun h => by rw [if_neg (by rw [any_none h]; decide)]
  generalize V.tup [(if m.cols.any emC = true then (noL, 102) else (m, 0) : Lf × Int).1.val, vint (if m.cols.any emC = true then (noL, 102) else (m, 0) : Lf × Int).2] = RV at *
  obtain ⟨⟨fc, fst⟩, fl⟩ := f
  obtain ⟨⟨gc, gst⟩, gl⟩ := g
  obtain ⟨⟨mc, mst⟩, ml⟩ := m
  dsimp only at hce okn hbad hok
  replace hce := Hid.mk hce
  replace hbad := Hid.mk hbad
  replace hok := Hid.mk hok
  repeat' (with_reducible first | refine x_ops ?_ | refine wk ?_ | (with_reducible refine xc (A) ?_) | (with_reducible refine xc (CB) ?_) | ((first | refine gd1 ?_ ?_ | refine gd2 ?_ ?_ | refine gd3 ?_ ?_) <;> (first | exact @False.elim _ | intro hc)))
  clear A CB
  refine x_loopW w_leaf_Meet_p7 kr ml.length (fun k t m => t 23 = vint k ∧ (m.obj 2 = some (.box [.sl 0 [] .exact, .sl 0 [] .exact, .sl 0 [] .exact] 28) ∧ m.obj 7 = some (.box [.sl mc.length (mc.flatMap Crs.cells) .no, .sl mst.length (mst.map vint) .no, .sl ml.length (ml.flatMap Clm.cells) .no] 28) ∧ 7 < m.next) ∧ ∀ i, i < k → emC (ml.getD i default) = false) ?_ ?_
  · exact ⟨vv, ⟨vv, vv, by show 7 < 9; omega⟩, fun i h => by omega⟩
  rintro k t m hk ⟨h23, ⟨hm2, hm7, hmn⟩, hI⟩
  replace hI := Hid.mk hI
  have n2 : 2 < m.next := by omega
  by_cases hlt : k < ml.length
  case neg =>
    have c1 : ¬ (k : Int) < (ml.length : Int) := by omega
    have hR := hok.out fun i hi => hI.out i (by omega)
    rw [hR]
    clear hlt hk hR
    repeat' (with_reducible first | refine x_ops ?_ | refine wk ?_ | ((first | refine gd1 ?_ ?_ | refine gd2 ?_ ?_ | refine gd3 ?_ ?_) <;> (first | exact @False.elim _ | intro hc)))
    refine finV_ret vv ?_
    exact .tup (.cons (.agg (.cons (.sl _ _ _) (.cons (.sl _ _ _) (.cons (.sl _ _ _) .nil)))) (.cons (.lit _) .nil))
  have g1 := clm_take (l := ml) (k := k) hlt
  have g2 := clms_len ml
  have c1 : (k : Int) < (ml.length : Int) := by omega
  have c3 : k * 4 + 4 ≤ ml.length * 4 := by omega
  have w1 := w_add1 (k := k) (by omega)
  have hb1 := hbad.out k hlt
  have hg1 : emC (ml.getD k default) = false → ∀ i, i < k + 1 → emC (ml.getD i default) = false := fun h i hi => by
    by_cases e : i = k
    · subst e; exact h
    · exact hI.out i (by omega)
  have hck := hce.out k hlt
  have hlt0 := Hid.mk hlt
  have hm20 := Hid.mk hm2
  have hm70 := Hid.mk hm7
  have hmn0 := Hid.mk hmn
  have n3 : 2 < m.next + 4 := by omega
  have n7 : 7 < m.next + 4 := by omega
  have z0 : ¬ m.next = 0 := by omega
  have z1 : ¬ 0 = m.next := by omega
  have z2 : ¬ 2 = m.next + 2 := by omega
  generalize ml.getD k default = x at *
  obtain ⟨xb, xt, xs, xe⟩ := x
  have CT := containsII_fn xe (by have : xe.length ≤ 14 := hck; omega)
  rw [tIss] at CT
  replace hb1 := Hid.mk hb1
  replace hg1 := Hid.mk hg1
  clear hlt hk hck
  by_cases h0 : xs.length = 0
  · have c2 : ((xs.length : Int) == 0) = true := by rw [beq_iff_eq]; omega
    rw [hb1.out (show (decide (xs.length = 0) || xe.any emI) = true by rw [decide_eq_true h0]; rfl)]
    clear h0 CT
    repeat' (with_reducible first | refine x_ops ?_ | refine wk ?_ | ((first | refine gd1 ?_ ?_ | refine gd2 ?_ ?_ | refine gd3 ?_ ?_) <;> (first | exact @False.elim _ | intro hc)))
    refine finV_ret vv ?_
    exact .tup (.cons (.agg (.cons (.sl _ _ _) (.cons (.sl _ _ _) (.cons (.sl _ _ _) .nil)))) (.cons (.lit _) .nil))
  have c2 : ((xs.length : Int) == 0) = false := by rw [beq_eq_false_iff_ne]; omega
  cases hz : xe.any emI with
  | true =>
    rw [hb1.out (show (decide (xs.length = 0) || xe.any emI) = true by rw [hz, Bool.or_true])]
    rw [hz] at CT
    clear h0 hz
    repeat' (with_reducible first | refine x_ops ?_ | refine wk ?_ | (with_reducible refine xc (CT) ?_) | ((first | refine gd1 ?_ ?_ | refine gd2 ?_ ?_ | refine gd3 ?_ ?_) <;> (first | exact @False.elim _ | intro hc)))
    refine finV_ret vv ?_
    exact .tup (.cons (.agg (.cons (.sl _ _ _) (.cons (.sl _ _ _) (.cons (.sl _ _ _) .nil)))) (.cons (.lit _) .nil))
  | false =>
    have hg2 := hg1.out (show (decide (xs.length = 0) || xe.any emI) = false by rw [hz, decide_eq_false h0]; rfl)
    replace hg2 := Hid.mk hg2
    rw [hz] at CT
    clear h0 hz
    repeat' (with_reducible first | refine x_ops ?_ | refine wk ?_ | (with_reducible refine xc (CT) ?_) | ((first | refine gd1 ?_ ?_ | refine gd2 ?_ ?_ | refine gd3 ?_ ?_) <;> (first | exact @False.elim _ | intro hc)))
    have hmnn := hmn0.out
    refine nx hlt0.out ⟨vv, ⟨?_, ?_, by show 7 < m.next + 4; omega⟩, hg2.out⟩
    · (simp only [put_obj]; repeat rw [if_neg (by omega)]); exact hm20.out
    · (simp only [put_obj]; repeat rw [if_neg (by omega)]); exact hm70.out
end Go.Proofs.YtdefefeifcdogaaGreat
