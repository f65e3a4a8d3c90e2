/- Functions of the program, as code on values by numbers: printed by a program from the program that was given, and held against it here. What rows contain, and what of a leaf lies in another one: of the program. Valid pieces, pieces in plain, the leaf of a piece: in plain. Nothing is run here. Valid signs, stops, events and pieces: of the program. Check of pieces: of the program. Piece of the reference. Plain of the program: a piece with every sign written. Copy, Forces and Plain of the reference. A leaf is the same as itself; the law LeafOf, if the look at the example says true. Shapes of leaves: of the program. One leaf inside another one, and Reads: of the program. Shapes of leaves, and one leaf inside another one: of the reference. One leaf inside another one: of the reference. Two leaves that fit one another, Within of both; what rows have in common. What rows of numbers have in common. Bare of the program: a piece without marks, ornaments and holds. A leaf made of two, by pure functions. Meet of the program. Onsets of the program: a loop over a function. -/
import Derived.Test.YtdefefeifcdogaaGreatQ02
import Derived.Test.YtdefefeifcdogaaGreatQ03
set_option linter.unusedSimpArgs false
set_option linter.unusedVariables false
namespace Go.Proofs.YtdefefeifcdogaaGreat
open Go.RowKit
set_option maxRecDepth 100000

abbrev c_theorboref02_All_p1 : VC := (.ops 0 [oo 8 .mv [.t 2], oo 9 (.bin .add) [.t 8, kk 1], oo 2 .mv [.t 9]])
abbrev c_theorboref02_All_p2 : VC := (.seq (.block 1 (.ops 11 [oo 10 .mv [.t 1], oo 11 .mv [.t 2], oo 12 (.build [li 0, (.lit (.bool false)), (.lit (.bool false))] [(0, 1), (1, 1)]) [.t 11, (.c (.lit (.bool true)))], oo 13 .mv [.t 2], oo 14 (.bin .sub) [.t 13, kk 1], oo 15 (.build [li 0, (.lit (.bool false)), (.lit (.bool false))] [(0, 1), (2, 1)]) [.t 14, (.c (.lit (.bool true)))], oo 16 .mv [.t 2], oo 17 (.build [li 0, (.lit (.bool false)), (.lit (.bool false))] [(0, 1)]) [.t 16], oo 18 (.mksl 3 3 [li 0, (.lit (.bool false)), (.lit (.bool false)), li 0, (.lit (.bool false)), (.lit (.bool false)), li 0, (.lit (.bool false)), (.lit (.bool false))] [(0, 3), (3, 3), (6, 3)]) [.t 12, .t 15, .t 17], oo 19 (.app 110 3 16) [.t 10, .t 18], oo 1 .mv [.t 19]])) c_theorboref02_All_p1)
abbrev c_theorboref02_All_p3 : VC := (.seq (.seq (.ops 0 [oo 6 .mv [.t 2], oo 7 (.bin .leq) [.t 6, kk 7]]) (.cond (.t 7) .skip (.exit 0))) c_theorboref02_All_p2)
@[go_sem] abbrev w_theorboref02_All_p3 : Nat := 1048518
abbrev c_theorboref02_All_p5 : VC := (.seq (.ops 5 [oo 20 .mv [.t 1], oo 21 (.build [li 0, (.lit (.bool false)), (.lit (.bool false))] [(0, 1), (2, 1)]) [kk 7, (.c (.lit (.bool true)))], oo 22 (.mksl 1 3 [li 0, (.lit (.bool false)), (.lit (.bool false))] [(0, 3)]) [.t 21], oo 23 (.app 110 3 16) [.t 20, .t 22], oo 0 .mv [.t 23]]) .ret)
abbrev c_theorboref02_All_p6 : VC := (.seq (.seq (.ops 0 [oo 2 .mv [kk 2]]) (.block 0 (.loop c_theorboref02_All_p3))) c_theorboref02_All_p5)
abbrev c_theorboref02_All_p7 : VC := (.seq (.ops 0 [oo 3 (.build [li 0, (.lit (.bool false)), (.lit (.bool false))] [(0, 1), (1, 1)]) [kk 1, (.c (.lit (.bool true)))], oo 4 (.build [li 0, (.lit (.bool false)), (.lit (.bool false))] [(0, 1)]) [kk 1], oo 5 (.mksl 2 3 [li 0, (.lit (.bool false)), (.lit (.bool false)), li 0, (.lit (.bool false)), (.lit (.bool false))] [(0, 3), (3, 3)]) [.t 3, .t 4], oo 1 .mv [.t 5]]) c_theorboref02_All_p6)
def c_theorboref02_All : VC := (.seq (.ops 0 [oo 0 .mv [(.c (.sl 0 [] .exact))]]) c_theorboref02_All_p7)
theorem k_theorboref02_All : Comp Tryz.prog nobx gtab 140 24 c_theorboref02_All [.t 0] := ⟨⟨Tryz.f140, _, Tryz.func140, rfl, rfl, kr, kr⟩⟩
abbrev c_theorboref10_Meet_p1 : VC := (.seq (.ops 0 [⟨(some 16), none, (.build [(.sl 0 [] .exact), (.sl 0 [] .exact), (.sl 0 [] .exact)] []), [], none⟩, oo 17 .mv [.t 6], ⟨none, none, (.st 3), [.t 4, .t 16], none⟩, oo 5 .mv [.t 17]]) .ret)
abbrev c_theorboref10_Meet_p2 : VC := (.seq (.ops 0 [oo 14 .mv [.t 6], oo 15 (.bin .neq) [.t 14, kk 0]]) (.cond (.t 15) c_theorboref10_Meet_p1 .skip))
abbrev c_theorboref10_Meet_p3 : VC := (.ops 0 [oo 45 .mv [.t 10], oo 46 (.bin .add) [.t 45, kk 1], oo 10 .mv [.t 46]])
abbrev c_theorboref10_Meet_p4 : VC := (.seq (.block 3 (.ops 0 [oo 47 .mv [.t 9], oo 48 .mv [.t 47], og 49 48 false (.fldA 2) [.t 7], og 50 48 false .ld1 [.t 49], og 51 48 false .mv [.t 8], og 52 48 false (.ixA 4) [.t 50, .t 51], og 53 48 false (.fldA 3) [.t 52], og 54 48 false .ld1 [.t 53], og 55 48 false .mv [.t 10], og 56 48 false (.ixA 1) [.t 54, .t 55], og 57 48 false .ld1 [.t 56], og 58 48 false .len [.t 57], og 59 48 false (.bin .eql) [.t 58, kk 0], oo 60 .pick [.t 48, (.c (.lit (.bool true))), .t 59], oo 9 .mv [.t 60]])) c_theorboref10_Meet_p3)
abbrev c_theorboref10_Meet_p5 : VC := (.seq (.seq (.ops 0 [oo 36 .mv [.t 10], oo 37 (.fldA 2) [.t 7], oo 38 .ld1 [.t 37], oo 39 .mv [.t 8], oo 40 (.ixA 4) [.t 38, .t 39], oo 41 (.fldA 3) [.t 40], oo 42 .ld1 [.t 41], oo 43 .len [.t 42], oo 44 (.bin .lss) [.t 36, .t 43]]) (.cond (.t 44) .skip (.exit 2))) c_theorboref10_Meet_p4)
@[go_sem] abbrev w_theorboref10_Meet_p5 : Nat := 2305842940494218752
abbrev c_theorboref10_Meet_p7 : VC := (.seq (.ops 0 [⟨(some 62), none, (.build [(.sl 0 [] .exact), (.sl 0 [] .exact), (.sl 0 [] .exact)] []), [], none⟩, ⟨none, none, (.st 3), [.t 4, .t 62], none⟩, oo 5 .mv [kk 102]]) .ret)
abbrev c_theorboref10_Meet_p8 : VC := (.seq (.ops 0 [oo 61 .mv [.t 9]]) (.cond (.t 61) c_theorboref10_Meet_p7 .skip))
abbrev c_theorboref10_Meet_p9 : VC := (.seq (.seq (.ops 0 [oo 10 .mv [kk 0]]) (.block 2 (.loop c_theorboref10_Meet_p5))) c_theorboref10_Meet_p8)
abbrev c_theorboref10_Meet_p10 : VC := (.ops 0 [oo 26 .mv [.t 8], oo 27 (.bin .add) [.t 26, kk 1], oo 8 .mv [.t 27]])
abbrev c_theorboref10_Meet_p11 : VC := (.seq (.block 1 (.seq (.ops 0 [oo 28 (.fldA 2) [.t 7], oo 29 .ld1 [.t 28], oo 30 .mv [.t 8], oo 31 (.ixA 4) [.t 29, .t 30], oo 32 (.fldA 2) [.t 31], oo 33 .ld1 [.t 32], oo 34 .len [.t 33], oo 35 (.bin .eql) [.t 34, kk 0], oo 9 .mv [.t 35]]) c_theorboref10_Meet_p9)) c_theorboref10_Meet_p10)
abbrev c_theorboref10_Meet_p12 : VC := (.seq (.seq (.ops 0 [oo 21 .mv [.t 8], oo 22 (.fldA 2) [.t 7], oo 23 .ld1 [.t 22], oo 24 .len [.t 23], oo 25 (.bin .lss) [.t 21, .t 24]]) (.cond (.t 25) .skip (.exit 0))) c_theorboref10_Meet_p11)
@[go_sem] abbrev w_theorboref10_Meet_p12 : Nat := 9223372036852680480
abbrev c_theorboref10_Meet_p14 : VC := (.seq (.ops 0 [oo 63 (.ldA 3) [.t 7], ⟨none, none, (.st 3), [.t 4, .t 63], none⟩, oo 5 .mv [kk 0]]) .ret)
abbrev c_theorboref10_Meet_p15 : VC := (.seq (.seq (.ops 0 [oo 8 .mv [kk 0]]) (.block 0 (.loop c_theorboref10_Meet_p12))) c_theorboref10_Meet_p14)
abbrev c_theorboref10_Meet_p16 : VC := (.seq (.ops 5 [oo 18 (.ldA 3) [.t 2], oo 19 (.ldA 3) [.t 3], oo 20 (.call 69) [.t 18, .t 19, (.c (.lit (.bool true)))], ⟨(some 7), none, (.alloc 28 [(.sl 0 [] .exact), (.sl 0 [] .exact), (.sl 0 [] .exact)]), [], none⟩, ⟨none, none, (.st 3), [.t 7, .t 20], none⟩]) c_theorboref10_Meet_p15)
abbrev c_theorboref10_Meet_p17 : VC := (.seq (.seq (.ops 0 [oo 11 (.ldA 3) [.t 2], oo 12 (.ldA 3) [.t 3], oo 13 (.call 115) [.t 11, .t 12], oo 6 .mv [.t 13]]) c_theorboref10_Meet_p2) c_theorboref10_Meet_p16)
def c_theorboref10_Meet : VC := (.seq (.ops 4 [oo 2 (.box 28) [.t 0], oo 3 (.box 28) [.t 1], ⟨(some 4), none, (.alloc 28 [(.sl 0 [] .exact), (.sl 0 [] .exact), (.sl 0 [] .exact)]), [], none⟩, oo 5 .mv [kk 0]]) c_theorboref10_Meet_p17)
theorem k_theorboref10_Meet : Comp Tryz.prog nobx gtab 50 64 c_theorboref10_Meet [(.c 4 3 true), .t 5] := ⟨⟨Tryz.f50, _, Tryz.func50, rfl, rfl, kr, kr⟩⟩
abbrev c_theorboref10_Join_p1 : VC := (.seq (.ops 0 [⟨(some 12), none, (.build [(.sl 0 [] .exact), (.sl 0 [] .exact), (.sl 0 [] .exact)] []), [], none⟩, oo 13 .mv [.t 6], ⟨none, none, (.st 3), [.t 4, .t 12], none⟩, oo 5 .mv [.t 13]]) .ret)
abbrev c_theorboref10_Join_p2 : VC := (.seq (.ops 0 [oo 10 .mv [.t 6], oo 11 (.bin .neq) [.t 10, kk 0]]) (.cond (.t 11) c_theorboref10_Join_p1 .skip))
abbrev c_theorboref10_Join_p3 : VC := (.seq (.ops 0 [oo 14 (.ldA 3) [.t 2], oo 15 (.ldA 3) [.t 3], oo 16 (.call 69) [.t 14, .t 15, (.c (.lit (.bool false)))], ⟨none, none, (.st 3), [.t 4, .t 16], none⟩, oo 5 .mv [kk 0]]) .ret)
abbrev c_theorboref10_Join_p4 : VC := (.seq (.seq (.ops 0 [oo 7 (.ldA 3) [.t 2], oo 8 (.ldA 3) [.t 3], oo 9 (.call 115) [.t 7, .t 8], oo 6 .mv [.t 9]]) c_theorboref10_Join_p2) c_theorboref10_Join_p3)
def c_theorboref10_Join : VC := (.seq (.ops 4 [oo 2 (.box 28) [.t 0], oo 3 (.box 28) [.t 1], ⟨(some 4), none, (.alloc 28 [(.sl 0 [] .exact), (.sl 0 [] .exact), (.sl 0 [] .exact)]), [], none⟩, oo 5 .mv [kk 0]]) c_theorboref10_Join_p4)
theorem k_theorboref10_Join : Comp Tryz.prog nobx gtab 52 17 c_theorboref10_Join [(.c 4 3 true), .t 5] := ⟨⟨Tryz.f52, _, Tryz.func52, rfl, rfl, kr, kr⟩⟩
end Go.Proofs.YtdefefeifcdogaaGreat
namespace Go.Proofs.YtdefefeifcdogaaGreat
open Go.RowKit
set_option maxRecDepth 100000

abbrev c_leaf_combine_p1 : VC := (.ops 18 [oo 49 (.fldA 3) [.t 13], od 50 .ld1 [.t 49] [0], oo 51 .mv [.t 3], oo 52 (.fldA 3) [.t 11], od 53 .ld1 [.t 52] [3], oo 54 .mv [.t 14], oo 55 (.ixA 1) [.t 53, .t 54], od 56 .ld1 [.t 55] [3, 4, 5, 6], oo 57 (.fldA 3) [.t 12], od 58 .ld1 [.t 57] [8], oo 59 .mv [.t 14], oo 60 (.ixA 1) [.t 58, .t 59], od 61 .ld1 [.t 60] [8, 9, 10, 11], od 62 .callv [.t 51, .t 56, .t 61] [2, 3, 4, 5, 6, 7, 8, 9, 10, 11, 12], ⟨(some 63), none, (.mksl 1 1 [(.sl 0 [] .exact)] [(0, 1)]), [.t 62], none⟩, oo 64 (.app 23 1 24) [.t 50, .t 63], oo 65 (.fldA 3) [.t 13], ⟨none, none, (.st 1), [.t 65, .t 64], none⟩])
abbrev c_leaf_combine_p2 : VC := (.ops 0 [oo 66 (.bin .add) [.t 46, kk 1], oo 46 .mv [.t 66]])
abbrev c_leaf_combine_p3 : VC := (.seq (.block 3 (.seq (.ops 0 [oo 48 .mv [.t 46], oo 14 .mv [.t 48]]) c_leaf_combine_p1)) c_leaf_combine_p2)
abbrev c_leaf_combine_p4 : VC := (.seq (.ops 0 [oo 47 (.bin .lss) [.t 46, .t 45]]) (.seq (.cond (.t 47) .skip (.exit 2)) c_leaf_combine_p3))
@[go_sem] abbrev w_leaf_combine_p4 : Nat := 147573882220932251648
abbrev c_leaf_combine_p6 : VC := (.ops 7 [oo 67 (.fldA 2) [.t 9], oo 68 .ld1 [.t 67], oo 69 (.ldA 4) [.t 13], ⟨(some 70), none, (.mksl 1 4 [(.lit (.bool false)), (.lit (.bool false)), (.sl 0 [] .exact), (.sl 0 [] .exact)] [(0, 4)]), [.t 69], none⟩, oo 71 (.app 84 4 56) [.t 68, .t 70], oo 72 (.fldA 2) [.t 9], ⟨none, none, (.st 1), [.t 72, .t 71], none⟩])
abbrev c_leaf_combine_p7 : VC := (.seq (.seq (.ops 0 [oo 43 (.fldA 3) [.t 11], oo 44 .ld1 [.t 43], oo 45 .len [.t 44], oo 46 .mv [kk 0]]) (.block 2 (.loop c_leaf_combine_p4))) c_leaf_combine_p6)
abbrev c_leaf_combine_p8 : VC := (.seq (.ops 13 [oo 32 (.fldA 0) [.t 11], od 33 .ld1 [.t 32] [0], oo 34 (.fldA 1) [.t 11], od 35 .ld1 [.t 34] [2], oo 36 .mv [.t 2], oo 37 (.fldA 2) [.t 11], od 38 .ld1 [.t 37] [5], oo 39 (.fldA 2) [.t 12], od 40 .ld1 [.t 39] [7], od 41 .callv [.t 36, .t 38, .t 40] [4, 5, 6, 7, 8], ⟨(some 42), none, (.build [(.lit (.bool false)), (.lit (.bool false)), (.sl 0 [] .exact), (.sl 0 [] .exact)] [(0, 1), (1, 1), (2, 1)]), [.t 33, .t 35, .t 41], none⟩, ⟨(some 13), none, (.alloc 84 [(.lit (.bool false)), (.lit (.bool false)), (.sl 0 [] .exact), (.sl 0 [] .exact)]), [], (some [])⟩, ⟨none, none, (.st 4), [.t 13, .t 42], none⟩]) c_leaf_combine_p7)
abbrev c_leaf_combine_p9 : VC := (.seq (.ops 7 [oo 27 (.fldA 2) [.t 5], oo 28 .ld1 [.t 27], oo 29 .mv [.t 10], oo 30 (.ixA 4) [.t 28, .t 29], oo 31 (.ldA 4) [.t 30], ⟨(some 12), none, (.alloc 84 [(.lit (.bool false)), (.lit (.bool false)), (.sl 0 [] .exact), (.sl 0 [] .exact)]), [], none⟩, ⟨none, none, (.st 4), [.t 12, .t 31], none⟩]) c_leaf_combine_p8)
abbrev c_leaf_combine_p10 : VC := (.ops 0 [oo 73 (.bin .add) [.t 22, kk 1], oo 22 .mv [.t 73]])
abbrev c_leaf_combine_p11 : VC := (.seq (.block 1 (.seq (.ops 6 [oo 24 .mv [.t 22], oo 25 (.ixA 4) [.t 20, .t 22], oo 26 (.ldA 4) [.t 25], ⟨(some 11), none, (.alloc 84 [(.lit (.bool false)), (.lit (.bool false)), (.sl 0 [] .exact), (.sl 0 [] .exact)]), [], none⟩, oo 10 .mv [.t 24], ⟨none, none, (.st 4), [.t 11, .t 26], none⟩]) c_leaf_combine_p9)) c_leaf_combine_p10)
abbrev c_leaf_combine_p12 : VC := (.seq (.ops 0 [oo 23 (.bin .lss) [.t 22, .t 21]]) (.seq (.cond (.t 23) .skip (.exit 0)) c_leaf_combine_p11))
@[go_sem] abbrev w_leaf_combine_p12 : Nat := 18889465931478576692224
abbrev c_leaf_combine_p14 : VC := (.seq (.ops 0 [oo 74 (.ldA 3) [.t 9], ⟨none, none, (.st 3), [.t 8, .t 74], none⟩]) .ret)
abbrev c_leaf_combine_p15 : VC := (.seq (.seq (.ops 0 [oo 19 (.fldA 2) [.t 4], oo 20 .ld1 [.t 19], oo 21 .len [.t 20], oo 22 .mv [kk 0]]) (.block 0 (.loop c_leaf_combine_p12))) c_leaf_combine_p14)
abbrev c_leaf_combine_p16 : VC := (.seq (.ops 6 [oo 15 (.fldA 0) [.t 4], oo 16 (.ldA 2) [.t 15], oo 17 (.call 63) [.t 16], ⟨(some 18), none, (.build [(.sl 0 [] .exact), (.sl 0 [] .exact), (.sl 0 [] .exact)] [(0, 2)]), [.t 17], none⟩, ⟨(some 9), none, (.alloc 28 [(.sl 0 [] .exact), (.sl 0 [] .exact), (.sl 0 [] .exact)]), [], none⟩, ⟨none, none, (.st 3), [.t 9, .t 18], none⟩]) c_leaf_combine_p15)
def c_leaf_combine : VC := (.seq (.ops 3 [oo 4 (.box 28) [.t 0], oo 5 (.box 28) [.t 1], ⟨(some 8), none, (.alloc 28 [(.sl 0 [] .exact), (.sl 0 [] .exact), (.sl 0 [] .exact)]), [], none⟩]) c_leaf_combine_p16)
theorem k_leaf_combine : Comp Tryz.prog nobx gtab 89 75 c_leaf_combine [(.c 8 3 true)] := ⟨⟨Tryz.f89, _, Tryz.func89, rfl, rfl, kr, kr⟩⟩
abbrev c_leaf_Meet_p1 : VC := (.seq (.ops 0 [⟨(some 15), none, (.build [(.sl 0 [] .exact), (.sl 0 [] .exact), (.sl 0 [] .exact)] []), [], none⟩, oo 16 .mv [.t 6], ⟨none, none, (.st 3), [.t 4, .t 15], none⟩, oo 5 .mv [.t 16]]) .ret)
abbrev c_leaf_Meet_p2 : VC := (.seq (.ops 0 [oo 13 .mv [.t 6], oo 14 (.bin .neq) [.t 13, kk 0]]) (.cond (.t 14) c_leaf_Meet_p1 .skip))
abbrev c_leaf_Meet_p3 : VC := (.seq (.ops 0 [⟨(some 36), none, (.build [(.sl 0 [] .exact), (.sl 0 [] .exact), (.sl 0 [] .exact)] []), [], none⟩, ⟨none, none, (.st 3), [.t 4, .t 36], none⟩, oo 5 .mv [kk 102]]) .ret)
abbrev c_leaf_Meet_p4 : VC := (.seq (.ops 0 [oo 27 (.fldA 2) [.t 9], oo 28 .ld1 [.t 27], oo 29 .len [.t 28], oo 30 (.bin .eql) [.t 29, kk 0], oo 31 .mv [.t 30], og 32 31 false (.fldA 3) [.t 9], og 33 31 false .ld1 [.t 32], og 34 31 false (.call 92) [.t 33, (.c (.fn 93 []))], oo 35 .pick [.t 31, (.c (.lit (.bool true))), .t 34]]) (.cond (.t 35) c_leaf_Meet_p3 .skip))
abbrev c_leaf_Meet_p5 : VC := (.ops 0 [oo 37 (.bin .add) [.t 23, kk 1], oo 23 .mv [.t 37]])
abbrev c_leaf_Meet_p6 : VC := (.seq (.block 1 (.seq (.ops 4 [oo 25 (.ixA 4) [.t 21, .t 23], oo 26 (.ldA 4) [.t 25], ⟨(some 9), none, (.alloc 84 [(.lit (.bool false)), (.lit (.bool false)), (.sl 0 [] .exact), (.sl 0 [] .exact)]), [], none⟩, ⟨none, none, (.st 4), [.t 9, .t 26], none⟩]) c_leaf_Meet_p4)) c_leaf_Meet_p5)
abbrev c_leaf_Meet_p7 : VC := (.seq (.ops 0 [oo 24 (.bin .lss) [.t 23, .t 22]]) (.seq (.cond (.t 24) .skip (.exit 0)) c_leaf_Meet_p6))
@[go_sem] abbrev w_leaf_Meet_p7 : Nat := 274869518880
abbrev c_leaf_Meet_p9 : VC := (.seq (.ops 0 [oo 38 (.ldA 3) [.t 7], ⟨none, none, (.st 3), [.t 4, .t 38], none⟩, oo 5 .mv [kk 0]]) .ret)
abbrev c_leaf_Meet_p10 : VC := (.seq (.seq (.ops 0 [oo 20 (.fldA 2) [.t 7], oo 21 .ld1 [.t 20], oo 22 .len [.t 21], oo 23 .mv [kk 0]]) (.block 0 (.loop c_leaf_Meet_p7))) c_leaf_Meet_p9)
abbrev c_leaf_Meet_p11 : VC := (.seq (.ops 5 [oo 17 (.ldA 3) [.t 2], oo 18 (.ldA 3) [.t 3], oo 19 (.call 89) [.t 17, .t 18, (.c (.fn 90 [])), (.c (.fn 91 []))], ⟨(some 7), none, (.alloc 28 [(.sl 0 [] .exact), (.sl 0 [] .exact), (.sl 0 [] .exact)]), [], none⟩, ⟨none, none, (.st 3), [.t 7, .t 19], none⟩]) c_leaf_Meet_p10)
abbrev c_leaf_Meet_p12 : VC := (.seq (.seq (.ops 0 [oo 10 (.ldA 3) [.t 2], oo 11 (.ldA 3) [.t 3], oo 12 (.call 87) [.t 10, .t 11], oo 6 .mv [.t 12]]) c_leaf_Meet_p2) c_leaf_Meet_p11)
def c_leaf_Meet : VC := (.seq (.ops 4 [oo 2 (.box 28) [.t 0], oo 3 (.box 28) [.t 1], ⟨(some 4), none, (.alloc 28 [(.sl 0 [] .exact), (.sl 0 [] .exact), (.sl 0 [] .exact)]), [], none⟩, oo 5 .mv [kk 0]]) c_leaf_Meet_p12)
theorem k_leaf_Meet : Comp Tryz.prog nobx gtab 38 39 c_leaf_Meet [(.c 4 3 true), .t 5] := ⟨⟨Tryz.f38, _, Tryz.func38, rfl, rfl, kr, kr⟩⟩
abbrev c_leaf_Meet_1_p1 : VC := (.seq (.ops 0 [oo 3 .mv [.t 0], oo 4 .len [.t 3], oo 5 (.bin .eql) [.t 4, kk 0], oo 2 .mv [.t 5]]) .ret)
def c_leaf_Meet_1 : VC := (.seq (.ops 0 [oo 2 .mv [(.c (.lit (.bool false)))]]) c_leaf_Meet_1_p1)
theorem k_leaf_Meet_1 : Comp Tryz.prog nobx gtab 93 6 c_leaf_Meet_1 [.t 2] := ⟨⟨Tryz.f93, _, Tryz.func93, rfl, rfl, kr, kr⟩⟩
end Go.Proofs.YtdefefeifcdogaaGreat
namespace Go.Proofs.YtdefefeifcdogaaGreat
open Go.RowKit
set_option maxRecDepth 100000

abbrev c_leaf_both_p1 : VC := (.seq (.ops 0 [oo 11 .mv [.t 5], oo 4 .mv [.t 11]]) .ret)
abbrev c_leaf_both_p2 : VC := (.seq (.ops 0 [oo 9 .mv [.t 5], oo 10 (.bin .neq) [.t 9, kk 0]]) (.cond (.t 10) c_leaf_both_p1 .skip))
abbrev c_leaf_both_p3 : VC := (.seq (.ops 0 [oo 16 .mv [.t 6], oo 4 .mv [.t 16]]) .ret)
abbrev c_leaf_both_p4 : VC := (.seq (.ops 0 [oo 14 .mv [.t 6], oo 15 (.bin .neq) [.t 14, kk 0]]) (.cond (.t 15) c_leaf_both_p3 .skip))
abbrev c_leaf_both_p5 : VC := (.seq (.ops 0 [oo 4 .mv [kk 101]]) .ret)
abbrev c_leaf_both_p6 : VC := (.seq (.ops 0 [oo 4 .mv [kk 0]]) .ret)
abbrev c_leaf_both_p7 : VC := (.seq (.seq (.ops 0 [oo 17 (.ldA 3) [.t 2], oo 18 (.ldA 3) [.t 3], oo 19 (.call 95) [.t 17, .t 18], oo 20 (.un .not) [.t 19]]) (.cond (.t 20) c_leaf_both_p5 .skip)) c_leaf_both_p6)
abbrev c_leaf_both_p8 : VC := (.seq (.seq (.ops 0 [oo 12 (.ldA 3) [.t 3], oo 13 (.call 27) [.t 12], oo 6 .mv [.t 13]]) c_leaf_both_p4) c_leaf_both_p7)
abbrev c_leaf_both_p9 : VC := (.seq (.seq (.ops 0 [oo 7 (.ldA 3) [.t 2], oo 8 (.call 27) [.t 7], oo 5 .mv [.t 8]]) c_leaf_both_p2) c_leaf_both_p8)
def c_leaf_both : VC := (.seq (.ops 3 [oo 2 (.box 28) [.t 0], oo 3 (.box 28) [.t 1], oo 4 .mv [kk 0]]) c_leaf_both_p9)
theorem k_leaf_both : Comp Tryz.prog nobx gtab 87 21 c_leaf_both [.t 4] := ⟨⟨Tryz.f87, _, Tryz.func87, rfl, rfl, kr, kr⟩⟩
abbrev c_leaf_Within_p1 : VC := (.seq (.ops 0 [oo 12 .mv [.t 6], oo 4 .mv [(.c (.lit (.bool false)))], oo 5 .mv [.t 12]]) .ret)
abbrev c_leaf_Within_p2 : VC := (.seq (.ops 0 [oo 10 .mv [.t 6], oo 11 (.bin .neq) [.t 10, kk 0]]) (.cond (.t 11) c_leaf_Within_p1 .skip))
abbrev c_leaf_Within_p3 : VC := (.seq (.ops 0 [oo 13 (.ldA 3) [.t 2], oo 14 (.ldA 3) [.t 3], oo 15 (.call 88) [.t 13, .t 14], oo 4 .mv [.t 15], oo 5 .mv [kk 0]]) .ret)
abbrev c_leaf_Within_p4 : VC := (.seq (.seq (.ops 0 [oo 7 (.ldA 3) [.t 2], oo 8 (.ldA 3) [.t 3], oo 9 (.call 87) [.t 7, .t 8], oo 6 .mv [.t 9]]) c_leaf_Within_p2) c_leaf_Within_p3)
def c_leaf_Within : VC := (.seq (.ops 4 [oo 2 (.box 28) [.t 0], oo 3 (.box 28) [.t 1], oo 4 .mv [(.c (.lit (.bool false)))], oo 5 .mv [kk 0]]) c_leaf_Within_p4)
theorem k_leaf_Within : Comp Tryz.prog nobx gtab 36 16 c_leaf_Within [.t 4, .t 5] := ⟨⟨Tryz.f36, _, Tryz.func36, rfl, rfl, kr, kr⟩⟩
abbrev c_leaf_common_api_Sign_p1 : VC := (.ops 5 [oo 16 .mv [.t 4], oo 17 (.ldA 3) [.t 6], oo 18 (.mksl 1 3 [li 0, (.lit (.bool false)), (.lit (.bool false))] [(0, 3)]) [.t 17], oo 19 (.app 110 3 16) [.t 16, .t 18], oo 4 .mv [.t 19]])
abbrev c_leaf_common_api_Sign_p2 : VC := (.seq (.ops 0 [oo 13 .mv [.t 1], oo 14 (.ldA 3) [.t 6], oo 15 (.call 160) [.t 13, .t 14]]) (.cond (.t 15) c_leaf_common_api_Sign_p1 .skip))
abbrev c_leaf_common_api_Sign_p3 : VC := (.ops 0 [oo 20 (.bin .add) [.t 9, kk 1], oo 9 .mv [.t 20]])
abbrev c_leaf_common_api_Sign_p4 : VC := (.seq (.block 1 (.seq (.ops 4 [oo 11 (.ixA 3) [.t 7, .t 9], oo 12 (.ldA 3) [.t 11], oo 6 (.alloc 110 [li 0, (.lit (.bool false)), (.lit (.bool false))]) [], ⟨none, none, (.st 3), [.t 6, .t 12], none⟩]) c_leaf_common_api_Sign_p2)) c_leaf_common_api_Sign_p3)
abbrev c_leaf_common_api_Sign_p5 : VC := (.seq (.cond (.t 10) .skip (.exit 0)) c_leaf_common_api_Sign_p4)
abbrev c_leaf_common_api_Sign_p6 : VC := (.seq (.ops 0 [oo 10 (.bin .lss) [.t 9, .t 8]]) c_leaf_common_api_Sign_p5)
@[go_sem] abbrev w_leaf_common_api_Sign_p6 : Nat := 2096720
abbrev c_leaf_common_api_Sign_p8 : VC := (.seq (.ops 0 [oo 21 .mv [.t 4], oo 4 .mv [.t 21]]) .ret)
abbrev c_leaf_common_api_Sign_p9 : VC := (.seq (.seq (.ops 0 [oo 7 .mv [.t 0], oo 8 .len [.t 7], oo 9 .mv [kk 0]]) (.block 0 (.loop c_leaf_common_api_Sign_p6))) c_leaf_common_api_Sign_p8)
def c_leaf_common_api_Sign : VC := (.seq (.ops 0 [oo 4 .mv [(.c (.sl 0 [] .exact))]]) c_leaf_common_api_Sign_p9)
theorem k_leaf_common_api_Sign : Comp Tryz.prog nobx gtab 90 22 c_leaf_common_api_Sign [.t 4] := ⟨⟨Tryz.f90, _, Tryz.func90, rfl, rfl, kr, kr⟩⟩
abbrev c_leaf_common_int_p1 : VC := (.ops 5 [oo 16 .mv [.t 4], oo 17 .mv [.t 6], oo 18 (.mksl 1 1 [li 0] [(0, 1)]) [.t 17], oo 19 (.app 3 1 8) [.t 16, .t 18], oo 4 .mv [.t 19]])
abbrev c_leaf_common_int_p2 : VC := (.seq (.ops 0 [oo 13 .mv [.t 1], oo 14 .mv [.t 6], oo 15 (.call 161) [.t 13, .t 14]]) (.cond (.t 15) c_leaf_common_int_p1 .skip))
abbrev c_leaf_common_int_p3 : VC := (.ops 0 [oo 20 (.bin .add) [.t 9, kk 1], oo 9 .mv [.t 20]])
abbrev c_leaf_common_int_p4 : VC := (.seq (.block 1 (.seq (.ops 0 [oo 11 (.ixA 1) [.t 7, .t 9], oo 12 .ld1 [.t 11], oo 6 .mv [.t 12]]) c_leaf_common_int_p2)) c_leaf_common_int_p3)
abbrev c_leaf_common_int_p5 : VC := (.seq (.ops 0 [oo 10 (.bin .lss) [.t 9, .t 8]]) (.seq (.cond (.t 10) .skip (.exit 0)) c_leaf_common_int_p4))
@[go_sem] abbrev w_leaf_common_int_p5 : Nat := 2096720
abbrev c_leaf_common_int_p7 : VC := (.seq (.ops 0 [oo 21 .mv [.t 4], oo 4 .mv [.t 21]]) .ret)
abbrev c_leaf_common_int_p8 : VC := (.seq (.seq (.ops 0 [oo 7 .mv [.t 0], oo 8 .len [.t 7], oo 9 .mv [kk 0]]) (.block 0 (.loop c_leaf_common_int_p5))) c_leaf_common_int_p7)
def c_leaf_common_int : VC := (.seq (.ops 0 [oo 4 .mv [(.c (.sl 0 [] .exact))]]) c_leaf_common_int_p8)
theorem k_leaf_common_int : Comp Tryz.prog nobx gtab 91 22 c_leaf_common_int [.t 4] := ⟨⟨Tryz.f91, _, Tryz.func91, rfl, rfl, kr, kr⟩⟩
abbrev c_theorboref10_two_p1 : VC := (.seq (.ops 0 [oo 11 .mv [.t 5], oo 4 .mv [.t 11]]) .ret)
abbrev c_theorboref10_two_p2 : VC := (.seq (.ops 0 [oo 9 .mv [.t 5], oo 10 (.bin .neq) [.t 9, kk 0]]) (.cond (.t 10) c_theorboref10_two_p1 .skip))
abbrev c_theorboref10_two_p3 : VC := (.seq (.ops 0 [oo 16 .mv [.t 6], oo 4 .mv [.t 16]]) .ret)
abbrev c_theorboref10_two_p4 : VC := (.seq (.ops 0 [oo 14 .mv [.t 6], oo 15 (.bin .neq) [.t 14, kk 0]]) (.cond (.t 15) c_theorboref10_two_p3 .skip))
abbrev c_theorboref10_two_p5 : VC := (.seq (.ops 0 [oo 4 .mv [kk 101]]) .ret)
abbrev c_theorboref10_two_p6 : VC := (.seq (.ops 0 [oo 4 .mv [kk 0]]) .ret)
abbrev c_theorboref10_two_p7 : VC := (.seq (.seq (.ops 0 [oo 17 (.ldA 3) [.t 2], oo 18 (.ldA 3) [.t 3], oo 19 (.call 96) [.t 17, .t 18], oo 20 (.un .not) [.t 19]]) (.cond (.t 20) c_theorboref10_two_p5 .skip)) c_theorboref10_two_p6)
abbrev c_theorboref10_two_p8 : VC := (.seq (.seq (.ops 0 [oo 12 (.ldA 3) [.t 3], oo 13 (.call 28) [.t 12], oo 6 .mv [.t 13]]) c_theorboref10_two_p4) c_theorboref10_two_p7)
abbrev c_theorboref10_two_p9 : VC := (.seq (.seq (.ops 0 [oo 7 (.ldA 3) [.t 2], oo 8 (.call 28) [.t 7], oo 5 .mv [.t 8]]) c_theorboref10_two_p2) c_theorboref10_two_p8)
def c_theorboref10_two : VC := (.seq (.ops 3 [oo 2 (.box 28) [.t 0], oo 3 (.box 28) [.t 1], oo 4 .mv [kk 0]]) c_theorboref10_two_p9)
theorem k_theorboref10_two : Comp Tryz.prog nobx gtab 115 21 c_theorboref10_two [.t 4] := ⟨⟨Tryz.f115, _, Tryz.func115, rfl, rfl, kr, kr⟩⟩
abbrev c_theorboref10_Within_p1 : VC := (.seq (.ops 0 [oo 12 .mv [.t 6], oo 4 .mv [(.c (.lit (.bool false)))], oo 5 .mv [.t 12]]) .ret)
abbrev c_theorboref10_Within_p2 : VC := (.seq (.ops 0 [oo 10 .mv [.t 6], oo 11 (.bin .neq) [.t 10, kk 0]]) (.cond (.t 11) c_theorboref10_Within_p1 .skip))
abbrev c_theorboref10_Within_p3 : VC := (.seq (.ops 0 [oo 13 (.ldA 3) [.t 2], oo 14 (.ldA 3) [.t 3], oo 15 (.call 97) [.t 13, .t 14], oo 4 .mv [.t 15], oo 5 .mv [kk 0]]) .ret)
abbrev c_theorboref10_Within_p4 : VC := (.seq (.seq (.ops 0 [oo 7 (.ldA 3) [.t 2], oo 8 (.ldA 3) [.t 3], oo 9 (.call 115) [.t 7, .t 8], oo 6 .mv [.t 9]]) c_theorboref10_Within_p2) c_theorboref10_Within_p3)
def c_theorboref10_Within : VC := (.seq (.ops 4 [oo 2 (.box 28) [.t 0], oo 3 (.box 28) [.t 1], oo 4 .mv [(.c (.lit (.bool false)))], oo 5 .mv [kk 0]]) c_theorboref10_Within_p4)
theorem k_theorboref10_Within : Comp Tryz.prog nobx gtab 49 16 c_theorboref10_Within [.t 4, .t 5] := ⟨⟨Tryz.f49, _, Tryz.func49, rfl, rfl, kr, kr⟩⟩
end Go.Proofs.YtdefefeifcdogaaGreat
namespace Go.Proofs.YtdefefeifcdogaaGreat
open Go.RowKit
set_option maxRecDepth 100000

abbrev c_leaf_shaped_p1 : VC := (.seq (.ops 0 [oo 5 (.fldA 0) [.t 2], oo 6 (.ldA 2) [.t 5], oo 7 (.fldA 0) [.t 3], oo 8 (.ldA 2) [.t 7], oo 9 (.call 98) [.t 6, .t 8], oo 10 .mv [.t 9], og 11 10 true (.fldA 2) [.t 2], og 12 10 true .ld1 [.t 11], og 13 10 true (.fldA 2) [.t 3], og 14 10 true .ld1 [.t 13], og 15 10 true (.call 166) [.t 12, .t 14, (.c (.fn 167 []))], oo 16 .pick [.t 10, .t 15, (.c (.lit (.bool false)))], oo 4 .mv [.t 16]]) .ret)
def c_leaf_shaped : VC := (.seq (.ops 3 [oo 2 (.box 28) [.t 0], oo 3 (.box 28) [.t 1], oo 4 .mv [(.c (.lit (.bool false)))]]) c_leaf_shaped_p1)
theorem k_leaf_shaped : Comp Tryz.prog nobx gtab 95 17 c_leaf_shaped [.t 4] := ⟨⟨Tryz.f95, _, Tryz.func95, rfl, rfl, kr, kr⟩⟩
abbrev c_leaf_shaped_1_p1 : VC := (.seq (.ops 0 [oo 5 (.fldA 0) [.t 2], oo 6 .ld1 [.t 5], oo 7 (.fldA 0) [.t 3], oo 8 .ld1 [.t 7], oo 9 (.eqB false) [.t 6, .t 8], oo 10 .mv [.t 9], og 11 10 true (.fldA 1) [.t 2], og 12 10 true .ld1 [.t 11], og 13 10 true (.fldA 1) [.t 3], og 14 10 true .ld1 [.t 13], og 15 10 true (.eqB false) [.t 12, .t 14], oo 16 .pick [.t 10, .t 15, (.c (.lit (.bool false)))], oo 4 .mv [.t 16]]) .ret)
def c_leaf_shaped_1 : VC := (.seq (.ops 3 [oo 2 (.box 84) [.t 0], oo 3 (.box 84) [.t 1], oo 4 .mv [(.c (.lit (.bool false)))]]) c_leaf_shaped_1_p1)
theorem k_leaf_shaped_1 : Comp Tryz.prog nobx gtab 167 17 c_leaf_shaped_1 [.t 4] := ⟨⟨Tryz.f167, _, Tryz.func167, rfl, rfl, kr, kr⟩⟩
abbrev c_leaf_inside_p1 : VC := (.seq (.ops 0 [oo 4 .mv [(.c (.lit (.bool false)))]]) .ret)
abbrev c_leaf_inside_p2 : VC := (.seq (.ops 0 [oo 4 .mv [(.c (.lit (.bool false)))]]) .ret)
abbrev c_leaf_inside_p3 : VC := (.seq (.ops 0 [oo 35 .mv [.t 8], oo 36 (.fldA 2) [.t 3], oo 37 .ld1 [.t 36], oo 38 .mv [.t 5], oo 39 (.ixA 4) [.t 37, .t 38], oo 40 (.fldA 3) [.t 39], oo 41 .ld1 [.t 40], oo 42 .mv [.t 7], oo 43 (.ixA 1) [.t 41, .t 42], oo 44 .ld1 [.t 43], oo 45 (.call 159) [.t 35, .t 44], oo 46 (.un .not) [.t 45]]) (.cond (.t 46) c_leaf_inside_p2 .skip))
abbrev c_leaf_inside_p4 : VC := (.ops 0 [oo 47 (.bin .add) [.t 30, kk 1], oo 30 .mv [.t 47]])
abbrev c_leaf_inside_p5 : VC := (.seq (.block 3 (.seq (.ops 0 [oo 32 .mv [.t 30], oo 33 (.ixA 1) [.t 28, .t 30], oo 34 .ld1 [.t 33], oo 7 .mv [.t 32], oo 8 .mv [.t 34]]) c_leaf_inside_p3)) c_leaf_inside_p4)
abbrev c_leaf_inside_p6 : VC := (.seq (.ops 0 [oo 31 (.bin .lss) [.t 30, .t 29]]) (.seq (.cond (.t 31) .skip (.exit 2)) c_leaf_inside_p5))
@[go_sem] abbrev w_leaf_inside_p6 : Nat := 281473902969232
abbrev c_leaf_inside_p8 : VC := (.seq (.ops 0 [oo 27 (.fldA 3) [.t 6], oo 28 .ld1 [.t 27], oo 29 .len [.t 28], oo 30 .mv [kk 0]]) (.block 2 (.loop c_leaf_inside_p6)))
abbrev c_leaf_inside_p9 : VC := (.seq (.seq (.ops 0 [oo 17 (.fldA 2) [.t 6], od 18 .ld1 [.t 17] [0], oo 19 (.fldA 2) [.t 3], od 20 .ld1 [.t 19] [2], oo 21 .mv [.t 5], oo 22 (.ixA 4) [.t 20, .t 21], oo 23 (.fldA 2) [.t 22], od 24 .ld1 [.t 23] [2, 3, 4, 5, 6], oo 25 (.call 158) [.t 18, .t 24], oo 26 (.un .not) [.t 25]]) (.cond (.t 26) c_leaf_inside_p1 .skip)) c_leaf_inside_p8)
abbrev c_leaf_inside_p10 : VC := (.ops 0 [oo 48 (.bin .add) [.t 12, kk 1], oo 12 .mv [.t 48]])
abbrev c_leaf_inside_p11 : VC := (.seq (.block 1 (.seq (.ops 6 [oo 14 .mv [.t 12], oo 15 (.ixA 4) [.t 10, .t 12], oo 16 (.ldA 4) [.t 15], ⟨(some 6), none, (.alloc 84 [(.lit (.bool false)), (.lit (.bool false)), (.sl 0 [] .exact), (.sl 0 [] .exact)]), [], none⟩, oo 5 .mv [.t 14], ⟨none, none, (.st 4), [.t 6, .t 16], none⟩]) c_leaf_inside_p9)) c_leaf_inside_p10)
abbrev c_leaf_inside_p12 : VC := (.seq (.ops 0 [oo 13 (.bin .lss) [.t 12, .t 11]]) (.seq (.cond (.t 13) .skip (.exit 0)) c_leaf_inside_p11))
@[go_sem] abbrev w_leaf_inside_p12 : Nat := 562949953417712
abbrev c_leaf_inside_p14 : VC := (.seq (.ops 0 [oo 4 .mv [(.c (.lit (.bool true)))]]) .ret)
abbrev c_leaf_inside_p15 : VC := (.seq (.seq (.ops 0 [oo 9 (.fldA 2) [.t 2], oo 10 .ld1 [.t 9], oo 11 .len [.t 10], oo 12 .mv [kk 0]]) (.block 0 (.loop c_leaf_inside_p12))) c_leaf_inside_p14)
def c_leaf_inside : VC := (.seq (.ops 3 [oo 2 (.box 28) [.t 0], oo 3 (.box 28) [.t 1], oo 4 .mv [(.c (.lit (.bool false)))]]) c_leaf_inside_p15)
theorem k_leaf_inside : Comp Tryz.prog nobx gtab 88 49 c_leaf_inside [.t 4] := ⟨⟨Tryz.f88, _, Tryz.func88, rfl, rfl, kr, kr⟩⟩
abbrev c_slices_Contains_api_Sign_api_Sign_p1 : VC := (.seq (.ops 0 [oo 5 .mv [.t 0], oo 6 (.ldA 3) [.t 3], oo 7 (.call 217) [.t 5, .t 6], oo 8 (.bin .geq) [.t 7, kk 0], oo 4 .mv [.t 8]]) .ret)
def c_slices_Contains_api_Sign_api_Sign : VC := (.seq (.ops 2 [oo 3 (.box 110) [.t 1], oo 4 .mv [(.c (.lit (.bool false)))]]) c_slices_Contains_api_Sign_api_Sign_p1)
theorem k_slices_Contains_api_Sign_api_Sign : Comp Tryz.prog nobx gtab 160 9 c_slices_Contains_api_Sign_api_Sign [.t 4] := ⟨⟨Tryz.f160, _, Tryz.func160, rfl, rfl, kr, kr⟩⟩
abbrev c_slices_Contains_int_int_p1 : VC := (.seq (.ops 0 [oo 5 .mv [.t 0], oo 6 .mv [.t 1], oo 7 (.call 218) [.t 5, .t 6], oo 8 (.bin .geq) [.t 7, kk 0], oo 4 .mv [.t 8]]) .ret)
def c_slices_Contains_int_int : VC := (.seq (.ops 0 [oo 4 .mv [(.c (.lit (.bool false)))]]) c_slices_Contains_int_int_p1)
theorem k_slices_Contains_int_int : Comp Tryz.prog nobx gtab 161 9 c_slices_Contains_int_int [.t 4] := ⟨⟨Tryz.f161, _, Tryz.func161, rfl, rfl, kr, kr⟩⟩
abbrev c_slices_Index_api_Sign_api_Sign_p1 : VC := (.seq (.ops 0 [oo 17 .mv [.t 5], oo 4 .mv [.t 17]]) .ret)
abbrev c_slices_Index_api_Sign_api_Sign_p2 : VC := (.seq (.ops 0 [od 11 (.ldA 3) [.t 3] [], oo 12 .mv [.t 0], oo 13 .mv [.t 5], oo 14 (.ixA 3) [.t 12, .t 13], od 15 (.ldA 3) [.t 14] [1, 2, 3], oo 16 (.eqP [(0, 0), (1, 1), (2, 1)] false) [.t 11, .t 15]]) (.cond (.t 16) c_slices_Index_api_Sign_api_Sign_p1 .skip))
abbrev c_slices_Index_api_Sign_api_Sign_p3 : VC := (.ops 0 [oo 18 (.bin .add) [.t 8, kk 1], oo 8 .mv [.t 18]])
abbrev c_slices_Index_api_Sign_api_Sign_p4 : VC := (.seq (.block 1 (.seq (.ops 0 [oo 10 .mv [.t 8], oo 5 .mv [.t 10]]) c_slices_Index_api_Sign_api_Sign_p2)) c_slices_Index_api_Sign_api_Sign_p3)
abbrev c_slices_Index_api_Sign_api_Sign_p5 : VC := (.seq (.cond (.t 9) .skip (.exit 0)) c_slices_Index_api_Sign_api_Sign_p4)
abbrev c_slices_Index_api_Sign_api_Sign_p6 : VC := (.seq (.ops 0 [oo 9 (.bin .lss) [.t 8, .t 7]]) c_slices_Index_api_Sign_api_Sign_p5)
@[go_sem] abbrev w_slices_Index_api_Sign_api_Sign_p6 : Nat := 524080
abbrev c_slices_Index_api_Sign_api_Sign_p8 : VC := (.seq (.ops 0 [oo 4 .mv [kk (-1)]]) .ret)
abbrev c_slices_Index_api_Sign_api_Sign_p9 : VC := (.seq (.seq (.ops 0 [oo 6 .mv [.t 0], oo 7 .len [.t 6], oo 8 .mv [kk 0]]) (.block 0 (.loop c_slices_Index_api_Sign_api_Sign_p6))) c_slices_Index_api_Sign_api_Sign_p8)
def c_slices_Index_api_Sign_api_Sign : VC := (.seq (.ops 2 [oo 3 (.box 110) [.t 1], oo 4 .mv [kk 0]]) c_slices_Index_api_Sign_api_Sign_p9)
theorem k_slices_Index_api_Sign_api_Sign : Comp Tryz.prog nobx gtab 217 19 c_slices_Index_api_Sign_api_Sign [.t 4] := ⟨⟨Tryz.f217, _, Tryz.func217, rfl, rfl, kr, kr⟩⟩
abbrev c_slices_Index_int_int_p1 : VC := (.seq (.ops 0 [oo 17 .mv [.t 5], oo 4 .mv [.t 17]]) .ret)
abbrev c_slices_Index_int_int_p2 : VC := (.seq (.ops 0 [oo 11 .mv [.t 1], oo 12 .mv [.t 0], oo 13 .mv [.t 5], oo 14 (.ixA 1) [.t 12, .t 13], oo 15 .ld1 [.t 14], oo 16 (.bin .eql) [.t 11, .t 15]]) (.cond (.t 16) c_slices_Index_int_int_p1 .skip))
abbrev c_slices_Index_int_int_p3 : VC := (.ops 0 [oo 18 (.bin .add) [.t 8, kk 1], oo 8 .mv [.t 18]])
abbrev c_slices_Index_int_int_p4 : VC := (.seq (.block 1 (.seq (.ops 0 [oo 10 .mv [.t 8], oo 5 .mv [.t 10]]) c_slices_Index_int_int_p2)) c_slices_Index_int_int_p3)
abbrev c_slices_Index_int_int_p5 : VC := (.seq (.cond (.t 9) .skip (.exit 0)) c_slices_Index_int_int_p4)
abbrev c_slices_Index_int_int_p6 : VC := (.seq (.ops 0 [oo 9 (.bin .lss) [.t 8, .t 7]]) c_slices_Index_int_int_p5)
@[go_sem] abbrev w_slices_Index_int_int_p6 : Nat := 524080
abbrev c_slices_Index_int_int_p8 : VC := (.seq (.ops 0 [oo 4 .mv [kk (-1)]]) .ret)
abbrev c_slices_Index_int_int_p9 : VC := (.seq (.seq (.ops 0 [oo 6 .mv [.t 0], oo 7 .len [.t 6], oo 8 .mv [kk 0]]) (.block 0 (.loop c_slices_Index_int_int_p6))) c_slices_Index_int_int_p8)
def c_slices_Index_int_int : VC := (.seq (.ops 0 [oo 4 .mv [kk 0]]) c_slices_Index_int_int_p9)
theorem k_slices_Index_int_int : Comp Tryz.prog nobx gtab 218 19 c_slices_Index_int_int [.t 4] := ⟨⟨Tryz.f218, _, Tryz.func218, rfl, rfl, kr, kr⟩⟩
abbrev c_slices_ContainsFunc_int_int_p1 : VC := (.seq (.ops 0 [oo 5 .mv [.t 0], oo 6 .mv [.t 1], oo 7 (.call 259) [.t 5, .t 6], oo 8 (.bin .geq) [.t 7, kk 0], oo 4 .mv [.t 8]]) .ret)
def c_slices_ContainsFunc_int_int : VC := (.seq (.ops 0 [oo 4 .mv [(.c (.lit (.bool false)))]]) c_slices_ContainsFunc_int_int_p1)
theorem k_slices_ContainsFunc_int_int : Comp Tryz.prog nobx gtab 215 9 c_slices_ContainsFunc_int_int [.t 4] := ⟨⟨Tryz.f215, _, Tryz.func215, rfl, rfl, kr, kr⟩⟩
abbrev c_slices_IndexFunc_int_int_p1 : VC := (.seq (.ops 0 [oo 17 .mv [.t 5], oo 4 .mv [.t 17]]) .ret)
abbrev c_slices_IndexFunc_int_int_p2 : VC := (.seq (.ops 0 [oo 11 .mv [.t 1], oo 12 .mv [.t 0], oo 13 .mv [.t 5], oo 14 (.ixA 1) [.t 12, .t 13], oo 15 .ld1 [.t 14], oo 16 .callv [.t 11, .t 15]]) (.cond (.t 16) c_slices_IndexFunc_int_int_p1 .skip))
abbrev c_slices_IndexFunc_int_int_p3 : VC := (.ops 0 [oo 18 (.bin .add) [.t 8, kk 1], oo 8 .mv [.t 18]])
abbrev c_slices_IndexFunc_int_int_p4 : VC := (.seq (.block 1 (.seq (.ops 0 [oo 10 .mv [.t 8], oo 5 .mv [.t 10]]) c_slices_IndexFunc_int_int_p2)) c_slices_IndexFunc_int_int_p3)
abbrev c_slices_IndexFunc_int_int_p5 : VC := (.seq (.cond (.t 9) .skip (.exit 0)) c_slices_IndexFunc_int_int_p4)
abbrev c_slices_IndexFunc_int_int_p6 : VC := (.seq (.ops 0 [oo 9 (.bin .lss) [.t 8, .t 7]]) c_slices_IndexFunc_int_int_p5)
@[go_sem] abbrev w_slices_IndexFunc_int_int_p6 : Nat := 524080
abbrev c_slices_IndexFunc_int_int_p8 : VC := (.seq (.ops 0 [oo 4 .mv [kk (-1)]]) .ret)
abbrev c_slices_IndexFunc_int_int_p9 : VC := (.seq (.seq (.ops 0 [oo 6 .mv [.t 0], oo 7 .len [.t 6], oo 8 .mv [kk 0]]) (.block 0 (.loop c_slices_IndexFunc_int_int_p6))) c_slices_IndexFunc_int_int_p8)
def c_slices_IndexFunc_int_int : VC := (.seq (.ops 0 [oo 4 .mv [kk 0]]) c_slices_IndexFunc_int_int_p9)
theorem k_slices_IndexFunc_int_int : Comp Tryz.prog nobx gtab 259 19 c_slices_IndexFunc_int_int [.t 4] := ⟨⟨Tryz.f259, _, Tryz.func259, rfl, rfl, kr, kr⟩⟩
abbrev c_instrument_Same_p1 : VC := (.seq (.ops 0 [oo 4 .mv [(.c (.lit (.bool false)))]]) .ret)
abbrev c_instrument_Same_p2 : VC := (.seq (.ops 0 [oo 4 .mv [(.c (.lit (.bool false)))]]) .ret)
abbrev c_instrument_Same_p3 : VC := (.seq (.ops 0 [oo 29 (.fldA 0) [.t 2], od 30 .ld1 [.t 29] [0], oo 31 .mv [.t 5], oo 32 (.ixA 3) [.t 30, .t 31], od 33 (.ldA 3) [.t 32] [0, 1, 2, 3], oo 34 (.fldA 0) [.t 3], od 35 .ld1 [.t 34] [5], oo 36 .mv [.t 5], oo 37 (.ixA 3) [.t 35, .t 36], od 38 (.ldA 3) [.t 37] [5, 6, 7, 8], oo 39 (.eqP [(0, 0), (1, 0), (2, 1)] true) [.t 33, .t 38]]) (.cond (.t 39) c_instrument_Same_p2 .skip))
abbrev c_instrument_Same_p4 : VC := (.ops 0 [oo 40 (.bin .add) [.t 26, kk 1], oo 26 .mv [.t 40]])
abbrev c_instrument_Same_p5 : VC := (.seq (.block 1 (.seq (.ops 0 [oo 28 .mv [.t 26], oo 5 .mv [.t 28]]) c_instrument_Same_p3)) c_instrument_Same_p4)
abbrev c_instrument_Same_p6 : VC := (.seq (.ops 0 [oo 27 (.bin .lss) [.t 26, .t 25]]) (.seq (.cond (.t 27) .skip (.exit 0)) c_instrument_Same_p5))
@[go_sem] abbrev w_instrument_Same_p6 : Nat := 2198956146736
abbrev c_instrument_Same_p8 : VC := (.seq (.ops 0 [oo 4 .mv [(.c (.lit (.bool false)))]]) .ret)
abbrev c_instrument_Same_p9 : VC := (.seq (.ops 0 [oo 47 (.fldA 1) [.t 2], od 48 .ld1 [.t 47] [0], oo 49 .mv [.t 6], oo 50 (.ixA 1) [.t 48, .t 49], od 51 .ld1 [.t 50] [0, 1, 2, 3], oo 52 (.fldA 1) [.t 3], od 53 .ld1 [.t 52] [5], oo 54 .mv [.t 6], oo 55 (.ixA 1) [.t 53, .t 54], od 56 .ld1 [.t 55] [5, 6, 7, 8], oo 57 (.bin .neq) [.t 51, .t 56]]) (.cond (.t 57) c_instrument_Same_p8 .skip))
abbrev c_instrument_Same_p10 : VC := (.ops 0 [oo 58 (.bin .add) [.t 44, kk 1], oo 44 .mv [.t 58]])
abbrev c_instrument_Same_p11 : VC := (.seq (.block 3 (.seq (.ops 0 [oo 46 .mv [.t 44], oo 6 .mv [.t 46]]) c_instrument_Same_p9)) c_instrument_Same_p10)
abbrev c_instrument_Same_p12 : VC := (.seq (.cond (.t 45) .skip (.exit 2)) c_instrument_Same_p11)
abbrev c_instrument_Same_p13 : VC := (.seq (.ops 0 [oo 45 (.bin .lss) [.t 44, .t 43]]) c_instrument_Same_p12)
@[go_sem] abbrev w_instrument_Same_p13 : Nat := 576443160117379152
abbrev c_instrument_Same_p15 : VC := (.seq (.ops 0 [oo 4 .mv [(.c (.lit (.bool true)))]]) .ret)
abbrev c_instrument_Same_p16 : VC := (.seq (.seq (.ops 0 [oo 41 (.fldA 1) [.t 2], oo 42 .ld1 [.t 41], oo 43 .len [.t 42], oo 44 .mv [kk 0]]) (.block 2 (.loop c_instrument_Same_p13))) c_instrument_Same_p15)
abbrev c_instrument_Same_p17 : VC := (.seq (.seq (.ops 0 [oo 23 (.fldA 0) [.t 2], oo 24 .ld1 [.t 23], oo 25 .len [.t 24], oo 26 .mv [kk 0]]) (.block 0 (.loop c_instrument_Same_p6))) c_instrument_Same_p16)
abbrev c_instrument_Same_p18 : VC := (.seq (.seq (.ops 0 [oo 7 (.fldA 0) [.t 2], oo 8 .ld1 [.t 7], oo 9 .len [.t 8], oo 10 (.fldA 0) [.t 3], oo 11 .ld1 [.t 10], oo 12 .len [.t 11], oo 13 (.bin .neq) [.t 9, .t 12], oo 14 .mv [.t 13], og 15 14 false (.fldA 1) [.t 2], og 16 14 false .ld1 [.t 15], og 17 14 false .len [.t 16], og 18 14 false (.fldA 1) [.t 3], og 19 14 false .ld1 [.t 18], og 20 14 false .len [.t 19], og 21 14 false (.bin .neq) [.t 17, .t 20], oo 22 .pick [.t 14, (.c (.lit (.bool true))), .t 21]]) (.cond (.t 22) c_instrument_Same_p1 .skip)) c_instrument_Same_p17)
def c_instrument_Same : VC := (.seq (.ops 3 [oo 2 (.box 25) [.t 0], oo 3 (.box 25) [.t 1], oo 4 .mv [(.c (.lit (.bool false)))]]) c_instrument_Same_p18)
theorem k_instrument_Same : Comp Tryz.prog nobx gtab 98 59 c_instrument_Same [.t 4] := ⟨⟨Tryz.f98, _, Tryz.func98, rfl, rfl, kr, kr⟩⟩
abbrev c_slices_EqualFunc_api_Column_api_Column_api_Column_api_Column_p1 : VC := (.seq (.ops 0 [oo 6 .mv [(.c (.lit (.bool false)))]]) .ret)
abbrev c_slices_EqualFunc_api_Column_api_Column_api_Column_api_Column_p2 : VC := (.cond (.t 14) c_slices_EqualFunc_api_Column_api_Column_api_Column_api_Column_p1 .skip)
abbrev c_slices_EqualFunc_api_Column_api_Column_api_Column_api_Column_p3 : VC := (.seq (.ops 0 [oo 6 .mv [(.c (.lit (.bool false)))]]) .ret)
abbrev c_slices_EqualFunc_api_Column_api_Column_api_Column_api_Column_p4 : VC := (.cond (.t 30) c_slices_EqualFunc_api_Column_api_Column_api_Column_api_Column_p3 .skip)
abbrev c_slices_EqualFunc_api_Column_api_Column_api_Column_api_Column_p5 : VC := (.seq (.ops 0 [oo 26 .mv [.t 2], oo 27 (.ldA 4) [.t 8], oo 28 (.ldA 4) [.t 9], oo 29 .callv [.t 26, .t 27, .t 28], oo 30 (.un .not) [.t 29]]) c_slices_EqualFunc_api_Column_api_Column_api_Column_api_Column_p4)
abbrev c_slices_EqualFunc_api_Column_api_Column_api_Column_api_Column_p6 : VC := (.seq (.ops 6 [oo 22 .mv [.t 1], oo 23 .mv [.t 7], oo 24 (.ixA 4) [.t 22, .t 23], oo 25 (.ldA 4) [.t 24], ⟨(some 9), none, (.alloc 84 [(.lit (.bool false)), (.lit (.bool false)), (.sl 0 [] .exact), (.sl 0 [] .exact)]), [], none⟩, ⟨none, none, (.st 4), [.t 9, .t 25], none⟩]) c_slices_EqualFunc_api_Column_api_Column_api_Column_api_Column_p5)
abbrev c_slices_EqualFunc_api_Column_api_Column_api_Column_api_Column_p7 : VC := (.ops 0 [oo 31 (.bin .add) [.t 17, kk 1], oo 17 .mv [.t 31]])
abbrev c_slices_EqualFunc_api_Column_api_Column_api_Column_api_Column_p8 : VC := (.seq (.block 1 (.seq (.ops 6 [oo 19 .mv [.t 17], oo 20 (.ixA 4) [.t 15, .t 17], oo 21 (.ldA 4) [.t 20], ⟨(some 8), none, (.alloc 84 [(.lit (.bool false)), (.lit (.bool false)), (.sl 0 [] .exact), (.sl 0 [] .exact)]), [], none⟩, oo 7 .mv [.t 19], ⟨none, none, (.st 4), [.t 8, .t 21], none⟩]) c_slices_EqualFunc_api_Column_api_Column_api_Column_api_Column_p6)) c_slices_EqualFunc_api_Column_api_Column_api_Column_api_Column_p7)
abbrev c_slices_EqualFunc_api_Column_api_Column_api_Column_api_Column_p9 : VC := (.seq (.cond (.t 18) .skip (.exit 0)) c_slices_EqualFunc_api_Column_api_Column_api_Column_api_Column_p8)
abbrev c_slices_EqualFunc_api_Column_api_Column_api_Column_api_Column_p10 : VC := (.seq (.ops 0 [oo 18 (.bin .lss) [.t 17, .t 16]]) c_slices_EqualFunc_api_Column_api_Column_api_Column_api_Column_p9)
@[go_sem] abbrev w_slices_EqualFunc_api_Column_api_Column_api_Column_api_Column_p10 : Nat := 4294837184
abbrev c_slices_EqualFunc_api_Column_api_Column_api_Column_api_Column_p12 : VC := (.block 0 (.loop c_slices_EqualFunc_api_Column_api_Column_api_Column_api_Column_p10))
abbrev c_slices_EqualFunc_api_Column_api_Column_api_Column_api_Column_p13 : VC := (.seq (.ops 0 [oo 6 .mv [(.c (.lit (.bool true)))]]) .ret)
abbrev c_slices_EqualFunc_api_Column_api_Column_api_Column_api_Column_p14 : VC := (.seq (.seq (.ops 0 [oo 15 .mv [.t 0], oo 16 .len [.t 15], oo 17 .mv [kk 0]]) c_slices_EqualFunc_api_Column_api_Column_api_Column_api_Column_p12) c_slices_EqualFunc_api_Column_api_Column_api_Column_api_Column_p13)
abbrev c_slices_EqualFunc_api_Column_api_Column_api_Column_api_Column_p15 : VC := (.seq (.seq (.ops 0 [oo 10 .mv [.t 0], oo 11 .len [.t 10], oo 12 .mv [.t 1], oo 13 .len [.t 12], oo 14 (.bin .neq) [.t 11, .t 13]]) c_slices_EqualFunc_api_Column_api_Column_api_Column_api_Column_p2) c_slices_EqualFunc_api_Column_api_Column_api_Column_api_Column_p14)
def c_slices_EqualFunc_api_Column_api_Column_api_Column_api_Column : VC := (.seq (.ops 0 [oo 6 .mv [(.c (.lit (.bool false)))]]) c_slices_EqualFunc_api_Column_api_Column_api_Column_api_Column_p15)
theorem k_slices_EqualFunc_api_Column_api_Column_api_Column_api_Column : Comp Tryz.prog nobx gtab 166 32 c_slices_EqualFunc_api_Column_api_Column_api_Column_api_Column [.t 6] := ⟨⟨Tryz.f166, _, Tryz.func166, rfl, rfl, kr, kr⟩⟩
abbrev c_theorboref10_shape_p1 : VC := (.seq (.ops 0 [oo 4 .mv [(.c (.lit (.bool false)))]]) .ret)
abbrev c_theorboref10_shape_p2 : VC := (.seq (.ops 0 [oo 4 .mv [(.c (.lit (.bool false)))]]) .ret)
abbrev c_theorboref10_shape_p3 : VC := (.ops 0 [oo 26 .mv [.t 5], oo 27 (.bin .add) [.t 26, kk 1], oo 5 .mv [.t 27]])
abbrev c_theorboref10_shape_p4 : VC := (.seq (.block 1 (.seq (.ops 0 [oo 28 (.fldA 2) [.t 2], od 29 .ld1 [.t 28] [0], oo 30 .mv [.t 5], oo 31 (.ixA 4) [.t 29, .t 30], oo 32 (.fldA 0) [.t 31], od 33 .ld1 [.t 32] [0, 1, 2, 3, 4], oo 34 (.fldA 2) [.t 3], od 35 .ld1 [.t 34] [6], oo 36 .mv [.t 5], oo 37 (.ixA 4) [.t 35, .t 36], oo 38 (.fldA 0) [.t 37], od 39 .ld1 [.t 38] [6, 7, 8, 9, 10], oo 40 (.eqB true) [.t 33, .t 39], oo 41 .mv [.t 40], og 42 41 false (.fldA 2) [.t 2], ⟨(some 43), (some (41, false)), .ld1, [.t 42], (some [0, 1, 2, 3, 4, 5, 6, 7, 8, 9, 10, 11, 12, 13, 14])⟩, og 44 41 false .mv [.t 5], og 45 41 false (.ixA 4) [.t 43, .t 44], og 46 41 false (.fldA 1) [.t 45], ⟨(some 47), (some (41, false)), .ld1, [.t 46], (some [0, 1, 2, 3, 4, 5, 6, 7, 8, 9, 10, 11, 12, 13, 14, 15, 16, 17, 18])⟩, og 48 41 false (.fldA 2) [.t 3], ⟨(some 49), (some (41, false)), .ld1, [.t 48], (some [0, 1, 2, 3, 4, 5, 6, 7, 8, 9, 10, 11, 12, 13, 20])⟩, og 50 41 false .mv [.t 5], og 51 41 false (.ixA 4) [.t 49, .t 50], og 52 41 false (.fldA 1) [.t 51], ⟨(some 53), (some (41, false)), .ld1, [.t 52], (some [0, 1, 2, 3, 4, 5, 6, 7, 8, 9, 10, 11, 12, 13, 20, 21, 22, 23, 24])⟩, og 54 41 false (.eqB true) [.t 47, .t 53], oo 55 .pick [.t 41, (.c (.lit (.bool true))), .t 54]]) (.cond (.t 55) c_theorboref10_shape_p2 .skip))) c_theorboref10_shape_p3)
abbrev c_theorboref10_shape_p5 : VC := (.seq (.seq (.ops 0 [oo 21 .mv [.t 5], oo 22 (.fldA 2) [.t 2], oo 23 .ld1 [.t 22], oo 24 .len [.t 23], oo 25 (.bin .lss) [.t 21, .t 24]]) (.cond (.t 25) .skip (.exit 0))) c_theorboref10_shape_p4)
@[go_sem] abbrev w_theorboref10_shape_p5 : Nat := 72057594035830832
abbrev c_theorboref10_shape_p7 : VC := (.seq (.ops 0 [oo 4 .mv [(.c (.lit (.bool true)))]]) .ret)
abbrev c_theorboref10_shape_p8 : VC := (.seq (.seq (.ops 0 [oo 5 .mv [kk 0]]) (.block 0 (.loop c_theorboref10_shape_p5))) c_theorboref10_shape_p7)
abbrev c_theorboref10_shape_p9 : VC := (.seq (.seq (.ops 0 [oo 6 (.fldA 0) [.t 2], oo 7 (.ldA 2) [.t 6], oo 8 (.fldA 0) [.t 3], oo 9 (.ldA 2) [.t 8], oo 10 (.call 70) [.t 7, .t 9], oo 11 (.un .not) [.t 10], oo 12 .mv [.t 11], og 13 12 false (.fldA 2) [.t 2], og 14 12 false .ld1 [.t 13], og 15 12 false .len [.t 14], og 16 12 false (.fldA 2) [.t 3], og 17 12 false .ld1 [.t 16], og 18 12 false .len [.t 17], og 19 12 false (.bin .neq) [.t 15, .t 18], oo 20 .pick [.t 12, (.c (.lit (.bool true))), .t 19]]) (.cond (.t 20) c_theorboref10_shape_p1 .skip)) c_theorboref10_shape_p8)
def c_theorboref10_shape : VC := (.seq (.ops 3 [oo 2 (.box 28) [.t 0], oo 3 (.box 28) [.t 1], oo 4 .mv [(.c (.lit (.bool false)))]]) c_theorboref10_shape_p9)
theorem k_theorboref10_shape : Comp Tryz.prog nobx gtab 96 56 c_theorboref10_shape [.t 4] := ⟨⟨Tryz.f96, _, Tryz.func96, rfl, rfl, kr, kr⟩⟩
abbrev c_theorboref10_within_p1 : VC := (.seq (.ops 0 [oo 4 .mv [(.c (.lit (.bool false)))]]) .ret)
abbrev c_theorboref10_within_p2 : VC := (.ops 0 [oo 25 .mv [.t 6], oo 26 (.bin .add) [.t 25, kk 1], oo 6 .mv [.t 26]])
abbrev c_theorboref10_within_p3 : VC := (.seq (.block 3 (.seq (.ops 0 [oo 27 (.fldA 2) [.t 3], od 28 .ld1 [.t 27] [0], oo 29 .mv [.t 5], oo 30 (.ixA 4) [.t 28, .t 29], oo 31 (.fldA 2) [.t 30], od 32 .ld1 [.t 31] [0, 1, 2, 3, 4], oo 33 (.fldA 2) [.t 2], od 34 .ld1 [.t 33] [6], oo 35 .mv [.t 5], oo 36 (.ixA 4) [.t 34, .t 35], oo 37 (.fldA 2) [.t 36], od 38 .ld1 [.t 37] [6, 7, 8, 9, 10], oo 39 .mv [.t 6], oo 40 (.ixA 3) [.t 38, .t 39], od 41 (.ldA 3) [.t 40] [6, 7, 8, 9, 10, 11, 12, 13], oo 42 (.call 67) [.t 32, .t 41], oo 43 (.un .not) [.t 42]]) (.cond (.t 43) c_theorboref10_within_p1 .skip))) c_theorboref10_within_p2)
abbrev c_theorboref10_within_p4 : VC := (.seq (.seq (.ops 0 [oo 16 .mv [.t 6], oo 17 (.fldA 2) [.t 2], oo 18 .ld1 [.t 17], oo 19 .mv [.t 5], oo 20 (.ixA 4) [.t 18, .t 19], oo 21 (.fldA 2) [.t 20], oo 22 .ld1 [.t 21], oo 23 .len [.t 22], oo 24 (.bin .lss) [.t 16, .t 23]]) (.cond (.t 24) .skip (.exit 2))) c_theorboref10_within_p3)
@[go_sem] abbrev w_theorboref10_within_p4 : Nat := 17592185978960
abbrev c_theorboref10_within_p6 : VC := (.seq (.ops 0 [oo 4 .mv [(.c (.lit (.bool false)))]]) .ret)
abbrev c_theorboref10_within_p7 : VC := (.ops 0 [oo 67 .mv [.t 8], oo 68 (.bin .add) [.t 67, kk 1], oo 8 .mv [.t 68]])
abbrev c_theorboref10_within_p8 : VC := (.seq (.block 7 (.seq (.ops 0 [oo 69 (.fldA 2) [.t 3], od 70 .ld1 [.t 69] [0], oo 71 .mv [.t 5], oo 72 (.ixA 4) [.t 70, .t 71], oo 73 (.fldA 3) [.t 72], od 74 .ld1 [.t 73] [0, 1, 2, 3, 4], oo 75 .mv [.t 7], oo 76 (.ixA 1) [.t 74, .t 75], od 77 .ld1 [.t 76] [0, 1, 2, 3, 4, 5, 6, 7], oo 78 (.fldA 2) [.t 2], od 79 .ld1 [.t 78] [9], oo 80 .mv [.t 5], oo 81 (.ixA 4) [.t 79, .t 80], oo 82 (.fldA 3) [.t 81], od 83 .ld1 [.t 82] [9, 10, 11, 12, 13], oo 84 .mv [.t 7], oo 85 (.ixA 1) [.t 83, .t 84], od 86 .ld1 [.t 85] [9, 10, 11, 12, 13, 14, 15, 16], oo 87 .mv [.t 8], oo 88 (.ixA 1) [.t 86, .t 87], od 89 .ld1 [.t 88] [9, 10, 11, 12, 13, 14, 15, 16, 17, 18, 19], oo 90 (.call 68) [.t 77, .t 89], oo 91 (.un .not) [.t 90]]) (.cond (.t 91) c_theorboref10_within_p6 .skip))) c_theorboref10_within_p7)
abbrev c_theorboref10_within_p9 : VC := (.seq (.seq (.ops 0 [oo 55 .mv [.t 8], oo 56 (.fldA 2) [.t 2], oo 57 .ld1 [.t 56], oo 58 .mv [.t 5], oo 59 (.ixA 4) [.t 57, .t 58], oo 60 (.fldA 3) [.t 59], oo 61 .ld1 [.t 60], oo 62 .mv [.t 7], oo 63 (.ixA 1) [.t 61, .t 62], oo 64 .ld1 [.t 63], oo 65 .len [.t 64], oo 66 (.bin .lss) [.t 55, .t 65]]) (.cond (.t 66) .skip (.exit 6))) c_theorboref10_within_p8)
@[go_sem] abbrev w_theorboref10_within_p9 : Nat := 4951760157105492302577533200
abbrev c_theorboref10_within_p11 : VC := (.ops 0 [oo 53 .mv [.t 7], oo 54 (.bin .add) [.t 53, kk 1], oo 7 .mv [.t 54]])
abbrev c_theorboref10_within_p12 : VC := (.seq (.block 5 (.seq (.ops 0 [oo 8 .mv [kk 0]]) (.block 6 (.loop c_theorboref10_within_p9)))) c_theorboref10_within_p11)
abbrev c_theorboref10_within_p13 : VC := (.seq (.seq (.ops 0 [oo 44 .mv [.t 7], oo 45 (.fldA 2) [.t 2], oo 46 .ld1 [.t 45], oo 47 .mv [.t 5], oo 48 (.ixA 4) [.t 46, .t 47], oo 49 (.fldA 3) [.t 48], oo 50 .ld1 [.t 49], oo 51 .len [.t 50], oo 52 (.bin .lss) [.t 44, .t 51]]) (.cond (.t 52) .skip (.exit 4))) c_theorboref10_within_p12)
@[go_sem] abbrev w_theorboref10_within_p13 : Nat := 4951760157141503507410452880
abbrev c_theorboref10_within_p15 : VC := (.seq (.ops 0 [oo 7 .mv [kk 0]]) (.block 4 (.loop c_theorboref10_within_p13)))
abbrev c_theorboref10_within_p16 : VC := (.ops 0 [oo 14 .mv [.t 5], oo 15 (.bin .add) [.t 14, kk 1], oo 5 .mv [.t 15]])
abbrev c_theorboref10_within_p17 : VC := (.seq (.block 1 (.seq (.seq (.ops 0 [oo 6 .mv [kk 0]]) (.block 2 (.loop c_theorboref10_within_p4))) c_theorboref10_within_p15)) c_theorboref10_within_p16)
abbrev c_theorboref10_within_p18 : VC := (.seq (.seq (.ops 0 [oo 9 .mv [.t 5], oo 10 (.fldA 2) [.t 2], oo 11 .ld1 [.t 10], oo 12 .len [.t 11], oo 13 (.bin .lss) [.t 9, .t 12]]) (.cond (.t 13) .skip (.exit 0))) c_theorboref10_within_p17)
@[go_sem] abbrev w_theorboref10_within_p18 : Nat := 4951760157141521099596496880
abbrev c_theorboref10_within_p20 : VC := (.seq (.ops 0 [oo 4 .mv [(.c (.lit (.bool true)))]]) .ret)
abbrev c_theorboref10_within_p21 : VC := (.seq (.seq (.ops 0 [oo 5 .mv [kk 0]]) (.block 0 (.loop c_theorboref10_within_p18))) c_theorboref10_within_p20)
def c_theorboref10_within : VC := (.seq (.ops 3 [oo 2 (.box 28) [.t 0], oo 3 (.box 28) [.t 1], oo 4 .mv [(.c (.lit (.bool false)))]]) c_theorboref10_within_p21)
theorem k_theorboref10_within : Comp Tryz.prog nobx gtab 97 92 c_theorboref10_within [.t 4] := ⟨⟨Tryz.f97, _, Tryz.func97, rfl, rfl, kr, kr⟩⟩
abbrev c_theorboref10_hasSign_p1 : VC := (.seq (.ops 0 [oo 4 .mv [(.c (.lit (.bool true)))]]) .ret)
abbrev c_theorboref10_hasSign_p2 : VC := (.ops 0 [oo 10 .mv [.t 5], oo 11 (.bin .add) [.t 10, kk 1], oo 5 .mv [.t 11]])
abbrev c_theorboref10_hasSign_p3 : VC := (.seq (.block 1 (.seq (.ops 0 [oo 12 .mv [.t 0], oo 13 .mv [.t 5], oo 14 (.ixA 3) [.t 12, .t 13], od 15 (.ldA 3) [.t 14] [0, 1, 2], od 16 (.ldA 3) [.t 3] [], oo 17 (.eqP [(0, 0), (1, 1), (2, 1)] false) [.t 15, .t 16]]) (.cond (.t 17) c_theorboref10_hasSign_p1 .skip))) c_theorboref10_hasSign_p2)
abbrev c_theorboref10_hasSign_p4 : VC := (.seq (.seq (.ops 0 [oo 6 .mv [.t 5], oo 7 .mv [.t 0], oo 8 .len [.t 7], oo 9 (.bin .lss) [.t 6, .t 8]]) (.cond (.t 9) .skip (.exit 0))) c_theorboref10_hasSign_p3)
@[go_sem] abbrev w_theorboref10_hasSign_p4 : Nat := 262128
abbrev c_theorboref10_hasSign_p6 : VC := (.seq (.ops 0 [oo 4 .mv [(.c (.lit (.bool false)))]]) .ret)
abbrev c_theorboref10_hasSign_p7 : VC := (.seq (.seq (.ops 0 [oo 5 .mv [kk 0]]) (.block 0 (.loop c_theorboref10_hasSign_p4))) c_theorboref10_hasSign_p6)
def c_theorboref10_hasSign : VC := (.seq (.ops 2 [oo 3 (.box 110) [.t 1], oo 4 .mv [(.c (.lit (.bool false)))]]) c_theorboref10_hasSign_p7)
theorem k_theorboref10_hasSign : Comp Tryz.prog nobx gtab 67 18 c_theorboref10_hasSign [.t 4] := ⟨⟨Tryz.f67, _, Tryz.func67, rfl, rfl, kr, kr⟩⟩
abbrev c_theorboref10_hasInt_p1 : VC := (.seq (.ops 0 [oo 4 .mv [(.c (.lit (.bool true)))]]) .ret)
abbrev c_theorboref10_hasInt_p2 : VC := (.ops 0 [oo 10 .mv [.t 5], oo 11 (.bin .add) [.t 10, kk 1], oo 5 .mv [.t 11]])
abbrev c_theorboref10_hasInt_p3 : VC := (.seq (.block 1 (.seq (.ops 0 [oo 12 .mv [.t 0], oo 13 .mv [.t 5], oo 14 (.ixA 1) [.t 12, .t 13], oo 15 .ld1 [.t 14], oo 16 .mv [.t 1], oo 17 (.bin .eql) [.t 15, .t 16]]) (.cond (.t 17) c_theorboref10_hasInt_p1 .skip))) c_theorboref10_hasInt_p2)
abbrev c_theorboref10_hasInt_p4 : VC := (.seq (.seq (.ops 0 [oo 6 .mv [.t 5], oo 7 .mv [.t 0], oo 8 .len [.t 7], oo 9 (.bin .lss) [.t 6, .t 8]]) (.cond (.t 9) .skip (.exit 0))) c_theorboref10_hasInt_p3)
@[go_sem] abbrev w_theorboref10_hasInt_p4 : Nat := 262128
abbrev c_theorboref10_hasInt_p6 : VC := (.seq (.ops 0 [oo 4 .mv [(.c (.lit (.bool false)))]]) .ret)
abbrev c_theorboref10_hasInt_p7 : VC := (.seq (.seq (.ops 0 [oo 5 .mv [kk 0]]) (.block 0 (.loop c_theorboref10_hasInt_p4))) c_theorboref10_hasInt_p6)
def c_theorboref10_hasInt : VC := (.seq (.ops 0 [oo 4 .mv [(.c (.lit (.bool false)))]]) c_theorboref10_hasInt_p7)
theorem k_theorboref10_hasInt : Comp Tryz.prog nobx gtab 68 18 c_theorboref10_hasInt [.t 4] := ⟨⟨Tryz.f68, _, Tryz.func68, rfl, rfl, kr, kr⟩⟩
abbrev c_leaf_subset_api_Sign_1_p1 : VC := (.seq (.ops 0 [oo 4 .ld1 [.t 1], oo 5 (.ldA 3) [.t 2], oo 6 (.call 160) [.t 4, .t 5], oo 7 (.un .not) [.t 6], oo 3 .mv [.t 7]]) .ret)
def c_leaf_subset_api_Sign_1 : VC := (.seq (.ops 2 [oo 2 (.box 110) [.t 0], oo 3 .mv [(.c (.lit (.bool false)))]]) c_leaf_subset_api_Sign_1_p1)
theorem k_leaf_subset_api_Sign_1 : Comp Tryz.prog nobx gtab 214 8 c_leaf_subset_api_Sign_1 [.t 3] := ⟨⟨Tryz.f214, _, Tryz.func214, rfl, rfl, kr, kr⟩⟩
abbrev c_leaf_subset_int_1_p1 : VC := (.seq (.ops 0 [oo 4 .ld1 [.t 1], oo 5 .mv [.t 0], oo 6 (.call 161) [.t 4, .t 5], oo 7 (.un .not) [.t 6], oo 3 .mv [.t 7]]) .ret)
def c_leaf_subset_int_1 : VC := (.seq (.ops 0 [oo 3 .mv [(.c (.lit (.bool false)))]]) c_leaf_subset_int_1_p1)
theorem k_leaf_subset_int_1 : Comp Tryz.prog nobx gtab 216 8 c_leaf_subset_int_1 [.t 3] := ⟨⟨Tryz.f216, _, Tryz.func216, rfl, rfl, kr, kr⟩⟩
end Go.Proofs.YtdefefeifcdogaaGreat
namespace Go.Proofs.YtdefefeifcdogaaGreat
open Go.RowKit
set_option maxRecDepth 100000

abbrev c_leaf_subset_api_Sign_a_p1 : VC := (.seq (.ops 0 [oo 5 .mv [.t 0], oo 6 (.mkfn 214) [.t 3], oo 7 (.call 144) [.t 5, .t 6], oo 8 (.un .not) [.t 7], oo 4 .mv [.t 8]]) .ret)
def c_leaf_subset_api_Sign_a : VC := (.seq (.ops 0 [oo 3 .boxE [.t 1], oo 4 .mv [(.c (.lit (.bool false)))]]) c_leaf_subset_api_Sign_a_p1)
theorem k_leaf_subset_api_Sign_a : Comp Tryz.prog allbx gtab 158 9 c_leaf_subset_api_Sign_a [.t 4] := ⟨⟨Tryz.f158, _, Tryz.func158, rfl, rfl, kr, kr⟩⟩
abbrev c_leaf_subset_int_a_p1 : VC := (.seq (.ops 0 [oo 5 .mv [.t 0], oo 6 (.mkfn 216) [.t 3], oo 7 (.call 215) [.t 5, .t 6], oo 8 (.un .not) [.t 7], oo 4 .mv [.t 8]]) .ret)
def c_leaf_subset_int_a : VC := (.seq (.ops 0 [oo 3 .boxE [.t 1], oo 4 .mv [(.c (.lit (.bool false)))]]) c_leaf_subset_int_a_p1)
theorem k_leaf_subset_int_a : Comp Tryz.prog allbx gtab 159 9 c_leaf_subset_int_a [.t 4] := ⟨⟨Tryz.f159, _, Tryz.func159, rfl, rfl, kr, kr⟩⟩
end Go.Proofs.YtdefefeifcdogaaGreat
namespace Go.Proofs.YtdefefeifcdogaaGreat
open Go.RowKit
set_option linter.unusedSimpArgs false
set_option linter.unusedVariables false

def memS (l : List Sg) (s : Sg) : Bool := l.any fun x => decide (x = s)
def memI (l : List Int) (n : Int) : Bool := l.any fun x => decide (x = n)
def subS (a b : List Sg) : Bool := !(a.any fun x => !memS b x)
def subI (a b : List Int) : Bool := !(a.any fun x => !memI b x)
theorem indexSg_fn (l : List Sg) (s : Sg) (hl : l.length ≤ 17592186044416) : Fn Tryz.prog Gd 217 [tL Sg.cells l, s.val] (vint (idxI (fun x => decide (x = s)) l)) := by
  refine Fn.of_vx0 k_slices_Index_api_Sign_api_Sign (by simp) (by rw [V.pures, pure_tL, V.pures, pure_sg]; rfl) ?_
  unfold c_slices_Index_api_Sign_api_Sign
  obtain ⟨v, d, tt⟩ := s
  repeat' (with_reducible first | refine x_ops ?_ | refine wk ?_ | ((first | refine gd1 ?_ ?_ | refine gd2 ?_ ?_ | refine gd3 ?_ ?_) <;> (first | exact @False.elim _ | intro hc)))
  refine x_loopF w_slices_Index_api_Sign_api_Sign_p6 kr l.length (fun k t => t 8 = vint k ∧ ∀ i, i < k → decide (l.getD i default = ⟨v, d, tt⟩) = false) ?_ ?_
  · exact ⟨vv, fun i h => by omega⟩
  rintro k t hk ⟨h8, hI⟩
  by_cases hlt : k < l.length
  case neg =>
    have c1 : ¬ (k : Int) < (l.length : Int) := by omega
    have hq : idxI (fun x => decide (x = ⟨v, d, tt⟩)) l = -1 := idxI_none fun i hi => hI i (by omega)
    rw [hq]
    clear hlt hk hI hq
    repeat' (with_reducible first | refine x_ops ?_ | refine wk ?_ | ((first | refine gd1 ?_ ?_ | refine gd2 ?_ ?_ | refine gd3 ?_ ?_) <;> (first | exact @False.elim _ | intro hc)))
    exact finV_lit vv rfl
  have g1 := sg_take (l := l) (k := k) hlt
  have g2 := sgs_len l
  have c1 : (k : Int) < (l.length : Int) := by omega
  have c3 : k * 3 + 3 ≤ l.length * 3 := by omega
  have w1 := w_add1 (k := k) (by omega)
  have hlt0 := Hid.mk hlt
  have hI2 : decide (l.getD k default = ⟨v, d, tt⟩) = false → ∀ i, i < k + 1 → decide (l.getD i default = ⟨v, d, tt⟩) = false := fun h i hi => by
    by_cases e : i = k
    · subst e; exact h
    · exact hI i (by omega)
  have hhit : decide (l.getD k default = ⟨v, d, tt⟩) = true → idxI (fun x => decide (x = ⟨v, d, tt⟩)) l = k := fun h => idxI_at hlt h hI
  replace hI2 := Hid.mk hI2
  replace hhit := Hid.mk hhit
  clear hlt hk hI
  generalize l.getD k default = x at *
  obtain ⟨v', d', tt'⟩ := x
  by_cases e1 : v = v'
  case neg =>
    have d1 : (v == v') = false := by rw [beq_eq_false_iff_ne]; exact e1
    have hI3 := hI2.out (decide_eq_false fun e => e1 (by injection e with e; exact e.symm))
    replace hI3 := Hid.mk hI3
    clear e1 hI2 hhit
    repeat' (with_reducible first | refine x_ops ?_ | simp only [go_sem, Nat.reduceAdd, Nat.reduceEqDiff, Nat.reduceLT, Nat.reduceLeDiff, Nat.reduceMul, Nat.reduceSub, Nat.reducePow, Nat.reduceDiv, Nat.reduceMod, Nat.reduceBEq, Int.reduceBEq, Int.reduceLT, reduceIte, tIs, tBs, tPs, Bool.false_and, *] | ((first | refine gd1 ?_ ?_ | refine gd2 ?_ ?_ | refine gd3 ?_ ?_) <;> (first | exact @False.elim _ | intro hc)))
    exact nf hlt0.out ⟨vv, fun i hi => of_decide_eq_false (hI3.out i hi)⟩ rfl
  subst e1
  by_cases e1 : d = d'
  case neg =>
    have d1 : (d == d') = false := by rw [beq_eq_false_iff_ne]; exact e1
    have hI3 := hI2.out (decide_eq_false fun e => e1 (by injection e with _ e; exact e.symm))
    replace hI3 := Hid.mk hI3
    clear e1 hI2 hhit
    repeat' (with_reducible first | refine x_ops ?_ | simp only [go_sem, Nat.reduceAdd, Nat.reduceEqDiff, Nat.reduceLT, Nat.reduceLeDiff, Nat.reduceMul, Nat.reduceSub, Nat.reducePow, Nat.reduceDiv, Nat.reduceMod, Nat.reduceBEq, Int.reduceBEq, Int.reduceLT, reduceIte, tIs, tBs, tPs, Bool.false_and, Bool.true_and, *] | ((first | refine gd1 ?_ ?_ | refine gd2 ?_ ?_ | refine gd3 ?_ ?_) <;> (first | exact @False.elim _ | intro hc)))
    exact nf hlt0.out ⟨vv, fun i hi => of_decide_eq_false (hI3.out i hi)⟩ rfl
  subst e1
  by_cases e1 : tt = tt'
  case neg =>
    have d1 : (tt == tt') = false := by rw [beq_eq_false_iff_ne]; exact e1
    have hI3 := hI2.out (decide_eq_false fun e => e1 (by injection e with _ _ e; exact e.symm))
    replace hI3 := Hid.mk hI3
    clear e1 hI2 hhit
    repeat' (with_reducible first | refine x_ops ?_ | simp only [go_sem, Nat.reduceAdd, Nat.reduceEqDiff, Nat.reduceLT, Nat.reduceLeDiff, Nat.reduceMul, Nat.reduceSub, Nat.reducePow, Nat.reduceDiv, Nat.reduceMod, Nat.reduceBEq, Int.reduceBEq, Int.reduceLT, reduceIte, tIs, tBs, tPs, Bool.false_and, Bool.true_and, *] | ((first | refine gd1 ?_ ?_ | refine gd2 ?_ ?_ | refine gd3 ?_ ?_) <;> (first | exact @False.elim _ | intro hc)))
    exact nf hlt0.out ⟨vv, fun i hi => of_decide_eq_false (hI3.out i hi)⟩ rfl
  subst e1
  have hq := hhit.out (decide_eq_true rfl)
  rw [hq]
  clear hI2 hhit hq
  repeat' (with_reducible first | refine x_ops ?_ | simp only [go_sem, Nat.reduceAdd, Nat.reduceEqDiff, Nat.reduceLT, Nat.reduceLeDiff, Nat.reduceMul, Nat.reduceSub, Nat.reducePow, Nat.reduceDiv, Nat.reduceMod, Nat.reduceBEq, Int.reduceBEq, Int.reduceLT, reduceIte, tIs, tBs, tPs, Bool.true_and, *] | ((first | refine gd1 ?_ ?_ | refine gd2 ?_ ?_ | refine gd3 ?_ ?_) <;> (first | exact @False.elim _ | intro hc)))
  exact finV_lit vv rfl
theorem hasSg_fn (l : List Sg) (s : Sg) (hl : l.length ≤ 17592186044416) : Fn Tryz.prog Gd 160 [tL Sg.cells l, s.val] (vbool (memS l s)) := by
  refine Fn.of_vx0 k_slices_Contains_api_Sign_api_Sign (by simp) (by rw [V.pures, pure_tL, V.pures, pure_sg]; rfl) ?_
  have I := indexSg_fn l s hl
  have G := idxI_ge (fun x => decide (x = s)) l
  have hq : memS l s = l.any fun x => decide (x = s) := rfl
  rw [hq, ← G]
  generalize idxI (fun x => decide (x = s)) l = z at *
  obtain ⟨v, d, tt⟩ := s
  clear hq G hl
  unfold c_slices_Contains_api_Sign_api_Sign
  repeat' (with_reducible first | refine x_ops ?_ | refine wk ?_ | (with_reducible refine xc (I) ?_) | ((first | refine gd1 ?_ ?_ | refine gd2 ?_ ?_ | refine gd3 ?_ ?_) <;> (first | exact @False.elim _ | intro hc)))
  exact finV_lit vv rfl
theorem indexIn_fn (l : List Int) (n : Int) (hl : l.length ≤ 17592186044416) : Fn Tryz.prog Gd 218 [tIs l, vint n] (vint (idxI (fun x => decide (x = n)) l)) := by
  refine Fn.of_vx0 k_slices_Index_int_int (by simp) (by rw [V.pures, pure_tIs, V.pures, vint, V.pure]; rfl) ?_
  unfold c_slices_Index_int_int
  repeat' (with_reducible first | refine x_ops ?_ | refine wk ?_ | ((first | refine gd1 ?_ ?_ | refine gd2 ?_ ?_ | refine gd3 ?_ ?_) <;> (first | exact @False.elim _ | intro hc)))
  refine x_loopF w_slices_Index_int_int_p6 kr l.length (fun k t => t 8 = vint k ∧ ∀ i, i < k → decide (l.getD i default = n) = false) ?_ ?_
  · exact ⟨vv, fun i h => by omega⟩
  rintro k t hk ⟨h8, hI⟩
  by_cases hlt : k < l.length
  case neg =>
    have c1 : ¬ (k : Int) < (l.length : Int) := by omega
    have hq : idxI (fun x => decide (x = n)) l = -1 := idxI_none fun i hi => hI i (by omega)
    rw [hq]
    clear hlt hk hI hq
    repeat' (with_reducible first | refine x_ops ?_ | refine wk ?_ | ((first | refine gd1 ?_ ?_ | refine gd2 ?_ ?_ | refine gd3 ?_ ?_) <;> (first | exact @False.elim _ | intro hc)))
    exact finV_lit vv rfl
  have g1 := ints_at (l := l) (k := k) hlt
  have c1 : (k : Int) < (l.length : Int) := by omega
  have w1 := w_add1 (k := k) (by omega)
  have hlt0 := Hid.mk hlt
  by_cases e1 : l.getD k 0 = n
  · have hq : idxI (fun x => decide (x = n)) l = k := idxI_at hlt (decide_eq_true e1) hI
    have d1 : (n == l.getD k 0) = true := by rw [beq_iff_eq]; exact e1.symm
    rw [hq]
    clear hlt hk hI hq e1
    repeat' (with_reducible first | refine x_ops ?_ | refine wk ?_ | ((first | refine gd1 ?_ ?_ | refine gd2 ?_ ?_ | refine gd3 ?_ ?_) <;> (first | exact @False.elim _ | intro hc)))
    exact finV_lit vv rfl
  · have d1 : (n == l.getD k 0) = false := by rw [beq_eq_false_iff_ne]; exact fun e => e1 e.symm
    have hI3 : ∀ i, i < k + 1 → decide (l.getD i default = n) = false := fun i hi => by
      by_cases e : i = k
      · subst e; exact decide_eq_false e1
      · exact hI i (by omega)
    replace hI3 := Hid.mk hI3
    clear hlt hk hI e1
    repeat' (with_reducible first | refine x_ops ?_ | refine wk ?_ | ((first | refine gd1 ?_ ?_ | refine gd2 ?_ ?_ | refine gd3 ?_ ?_) <;> (first | exact @False.elim _ | intro hc)))
    exact nf hlt0.out ⟨vv, fun i hi => of_decide_eq_false (hI3.out i hi)⟩ rfl
theorem hasIn_fn (l : List Int) (n : Int) (hl : l.length ≤ 17592186044416) : Fn Tryz.prog Gd 161 [tIs l, vint n] (vbool (memI l n)) := by
  refine Fn.of_vx0 k_slices_Contains_int_int (by simp) (by rw [V.pures, pure_tIs, V.pures, vint, V.pure]; rfl) ?_
  have I := indexIn_fn l n hl
  have G := idxI_ge (fun x => decide (x = n)) l
  have hq : memI l n = l.any fun x => decide (x = n) := rfl
  rw [hq, ← G]
  generalize idxI (fun x => decide (x = n)) l = z at *
  clear hq G hl
  unfold c_slices_Contains_int_int
  repeat' (with_reducible first | refine x_ops ?_ | refine wk ?_ | (with_reducible refine xc (I) ?_) | ((first | refine gd1 ?_ ?_ | refine gd2 ?_ ?_ | refine gd3 ?_ ?_) <;> (first | exact @False.elim _ | intro hc)))
  exact finV_lit vv rfl
theorem indexSC_fn (l : List Sg) (p : Sg → Bool) {f : FuncId} {cs : List V} (hc : callable Tryz.prog f = true) (hp : V.pures cs = true) (hn : V.norms cs = cs) (hf : ∀ x : Sg, Fn Tryz.prog Gd f (.agg x.cells :: cs) (vbool (p x))) (hl : l.length ≤ 17592186044416) :
    Fn Tryz.prog Gd 203 [tL Sg.cells l, .fn f cs] (vint (idxI p l)) := by
  refine Fn.of_vx0 k_slices_IndexFunc_api_Sign_api_Sign (by simp) (by rw [V.pures, pure_tL, V.pures, V.pure, hp]; rfl) ?_
  unfold c_slices_IndexFunc_api_Sign_api_Sign
  replace hc := Hid.mk hc
  replace hp := Hid.mk hp
  replace hf := Hid.mk hf
  repeat' (with_reducible first | refine x_ops ?_ | refine wk ?_ | ((first | refine gd1 ?_ ?_ | refine gd2 ?_ ?_ | refine gd3 ?_ ?_) <;> (first | exact @False.elim _ | intro hc)))
  refine x_loopF w_slices_IndexFunc_api_Sign_api_Sign_p7 kr l.length (fun k t => t 8 = vint k ∧ ∀ i, i < k → p (l.getD i default) = false) ?_ ?_
  · exact ⟨vv, fun i h => by omega⟩
  rintro k t hk ⟨h8, hI⟩
  replace hI := Hid.mk hI
  by_cases hlt : k < l.length
  · have g1 := sg_take (l := l) (k := k) hlt
    have g2 := sgs_len l
    have c2 : (k : Int) < (l.length : Int) := by omega
    have c3 : k * 3 + 3 ≤ l.length * 3 := by omega
    have w2 := w_add1 (k := k) (by omega)
    have hx := hf.out (l.getD k default)
    have hlt0 := Hid.mk hlt
    cases hb : p (l.getD k default)
    · rw [hb] at hx
      replace hb := Hid.mk hb
      clear hlt hk
      repeat' (with_reducible first | refine x_ops ?_ | refine wk ?_ | (with_reducible refine xcv hx hc.out ?_) | ((first | refine gd1 ?_ ?_ | refine gd2 ?_ ?_ | refine gd3 ?_ ?_) <;> (first | exact @False.elim _ | intro hc)))
      refine nf hlt0.out ⟨vv, fun i h => ?_⟩ rfl
      by_cases hi : i = k
      · subst hi; exact hb.out
      · exact hI.out i (by omega)
    · rw [hb] at hx
      replace hb := Hid.mk hb
      clear hlt hk
      repeat' (with_reducible first | refine x_ops ?_ | refine wk ?_ | (with_reducible refine xcv hx hc.out ?_) | ((first | refine gd1 ?_ ?_ | refine gd2 ?_ ?_ | refine gd3 ?_ ?_) <;> (first | exact @False.elim _ | intro hc)))
      refine finV_lit vv ?_
      rw [idxI_at hlt0.out hb.out hI.out]
  · have c1 : ¬ ((k : Int) < (l.length : Int)) := by omega
    have hq : idxI p l = -1 := idxI_none fun i hi => hI.out i (by omega)
    rw [hq]
    clear hlt hk hq
    repeat' (with_reducible first | refine x_ops ?_ | refine wk ?_ | ((first | refine gd1 ?_ ?_ | refine gd2 ?_ ?_ | refine gd3 ?_ ?_) <;> (first | exact @False.elim _ | intro hc)))
    exact finV_lit vv rfl
theorem containsSC_fn (l : List Sg) (p : Sg → Bool) {f : FuncId} {cs : List V} (hc : callable Tryz.prog f = true) (hp : V.pures cs = true) (hn : V.norms cs = cs) (hf : ∀ x : Sg, Fn Tryz.prog Gd f (.agg x.cells :: cs) (vbool (p x))) (hl : l.length ≤ 17592186044416) :
    Fn Tryz.prog Gd 144 [tL Sg.cells l, .fn f cs] (vbool (l.any p)) := by
  refine Fn.of_vx0 k_slices_ContainsFunc_api_Sign_api_Sign (by simp) (by rw [V.pures, pure_tL, V.pures, V.pure, hp]; rfl) ?_
  unfold c_slices_ContainsFunc_api_Sign_api_Sign
  have I := indexSC_fn l p hc hp hn hf hl
  have G := idxI_ge p l
  clear hp hc hf
  repeat' (with_reducible first | refine x_ops ?_ | refine wk ?_ | (with_reducible refine xc (I) ?_) | ((first | refine gd1 ?_ ?_ | refine gd2 ?_ ?_ | refine gd3 ?_ ?_) <;> (first | exact @False.elim _ | intro hc)))
  refine finV_lit vv ?_
  rw [← G]
theorem indexIC_fn (l : List Int) (p : Int → Bool) {f : FuncId} {cs : List V} (hc : callable Tryz.prog f = true) (hp : V.pures cs = true) (hn : V.norms cs = cs) (hf : ∀ x : Int, Fn Tryz.prog Gd f (vint x :: cs) (vbool (p x))) (hl : l.length ≤ 17592186044416) :
    Fn Tryz.prog Gd 259 [tIs l, .fn f cs] (vint (idxI p l)) := by
  refine Fn.of_vx0 k_slices_IndexFunc_int_int (by simp) (by rw [V.pures, pure_tIs, V.pures, V.pure, hp]; rfl) ?_
  unfold c_slices_IndexFunc_int_int
  replace hc := Hid.mk hc
  replace hp := Hid.mk hp
  replace hf := Hid.mk hf
  repeat' (with_reducible first | refine x_ops ?_ | refine wk ?_ | ((first | refine gd1 ?_ ?_ | refine gd2 ?_ ?_ | refine gd3 ?_ ?_) <;> (first | exact @False.elim _ | intro hc)))
  refine x_loopF w_slices_IndexFunc_int_int_p6 kr l.length (fun k t => t 8 = vint k ∧ ∀ i, i < k → p (l.getD i default) = false) ?_ ?_
  · exact ⟨vv, fun i h => by omega⟩
  rintro k t hk ⟨h8, hI⟩
  replace hI := Hid.mk hI
  by_cases hlt : k < l.length
  · have g1 := ints_at (l := l) (k := k) hlt
    have c2 : (k : Int) < (l.length : Int) := by omega
    have w2 := w_add1 (k := k) (by omega)
    have hx := hf.out (l.getD k 0)
    have hlt0 := Hid.mk hlt
    cases hb : p (l.getD k 0)
    · rw [hb] at hx
      replace hb := Hid.mk hb
      clear hlt hk
      repeat' (with_reducible first | refine x_ops ?_ | refine wk ?_ | (with_reducible refine xcv hx hc.out ?_) | ((first | refine gd1 ?_ ?_ | refine gd2 ?_ ?_ | refine gd3 ?_ ?_) <;> (first | exact @False.elim _ | intro hc)))
      refine nf hlt0.out ⟨vv, fun i h => ?_⟩ rfl
      by_cases hi : i = k
      · subst hi; exact hb.out
      · exact hI.out i (by omega)
    · rw [hb] at hx
      replace hb := Hid.mk hb
      clear hlt hk
      repeat' (with_reducible first | refine x_ops ?_ | refine wk ?_ | (with_reducible refine xcv hx hc.out ?_) | ((first | refine gd1 ?_ ?_ | refine gd2 ?_ ?_ | refine gd3 ?_ ?_) <;> (first | exact @False.elim _ | intro hc)))
      refine finV_lit vv ?_
      rw [idxI_at hlt0.out hb.out hI.out]
  · have c1 : ¬ ((k : Int) < (l.length : Int)) := by omega
    have hq : idxI p l = -1 := idxI_none fun i hi => hI.out i (by omega)
    rw [hq]
    clear hlt hk hq
    repeat' (with_reducible first | refine x_ops ?_ | refine wk ?_ | ((first | refine gd1 ?_ ?_ | refine gd2 ?_ ?_ | refine gd3 ?_ ?_) <;> (first | exact @False.elim _ | intro hc)))
    exact finV_lit vv rfl
theorem containsIC_fn (l : List Int) (p : Int → Bool) {f : FuncId} {cs : List V} (hc : callable Tryz.prog f = true) (hp : V.pures cs = true) (hn : V.norms cs = cs) (hf : ∀ x : Int, Fn Tryz.prog Gd f (vint x :: cs) (vbool (p x))) (hl : l.length ≤ 17592186044416) :
    Fn Tryz.prog Gd 215 [tIs l, .fn f cs] (vbool (l.any p)) := by
  refine Fn.of_vx0 k_slices_ContainsFunc_int_int (by simp) (by rw [V.pures, pure_tIs, V.pures, V.pure, hp]; rfl) ?_
  unfold c_slices_ContainsFunc_int_int
  have I := indexIC_fn l p hc hp hn hf hl
  have G := idxI_ge p l
  clear hp hc hf
  repeat' (with_reducible first | refine x_ops ?_ | refine wk ?_ | (with_reducible refine xc (I) ?_) | ((first | refine gd1 ?_ ?_ | refine gd2 ?_ ?_ | refine gd3 ?_ ?_) <;> (first | exact @False.elim _ | intro hc)))
  refine finV_lit vv ?_
  rw [← G]
theorem subS1_fn (b : List Sg) (hb : b.length ≤ 17592186044416) (s : Sg) : Fn Tryz.prog Gd 214 [.agg s.cells, .ept [tL Sg.cells b] 0] (vbool (!memS b s)) := by
  refine Fn.of_vx0 k_leaf_subset_api_Sign_1 (by simp) rfl ?_
  have H := hasSg_fn b s hb
  generalize memS b s = z at *
  obtain ⟨v, d, tt⟩ := s
  unfold c_leaf_subset_api_Sign_1
  repeat' (with_reducible first | refine x_ops ?_ | refine wk ?_ | (with_reducible refine xc (H) ?_) | ((first | refine gd1 ?_ ?_ | refine gd2 ?_ ?_ | refine gd3 ?_ ?_) <;> (first | exact @False.elim _ | intro hc)))
  exact finV_lit vv rfl
theorem subI1_fn (b : List Int) (hb : b.length ≤ 17592186044416) (n : Int) : Fn Tryz.prog Gd 216 [vint n, .ept [tIs b] 0] (vbool (!memI b n)) := by
  refine Fn.of_vx0 k_leaf_subset_int_1 (by simp) rfl ?_
  have H := hasIn_fn b n hb
  generalize memI b n = z at *
  unfold c_leaf_subset_int_1
  repeat' (with_reducible first | refine x_ops ?_ | refine wk ?_ | (with_reducible refine xc (H) ?_) | ((first | refine gd1 ?_ ?_ | refine gd2 ?_ ?_ | refine gd3 ?_ ?_) <;> (first | exact @False.elim _ | intro hc)))
  exact finV_lit vv rfl
theorem subS_fn (a b : List Sg) (ha : a.length ≤ 17592186044416) (hb : b.length ≤ 17592186044416) : Fn Tryz.prog Gd 158 [tL Sg.cells a, tL Sg.cells b] (vbool (subS a b)) := by
  refine Fn.of_vx0 k_leaf_subset_api_Sign_a (by simp) (by rw [V.pures, pure_tL, V.pures, pure_tL]; rfl) ?_
  have C := containsSC_fn a (fun x => !memS b x) (f := 214) (cs := [.ept [tL Sg.cells b] 0]) kr rfl rfl (fun s => subS1_fn b hb s) ha
  have hq : subS a b = !(a.any fun x => !memS b x) := rfl
  rw [hq]
  generalize (a.any fun x => !memS b x) = z at *
  clear ha hb hq
  unfold c_leaf_subset_api_Sign_a
  repeat' (with_reducible first | refine x_ops ?_ | refine wk ?_ | (with_reducible refine xc (C) ?_) | ((first | refine gd1 ?_ ?_ | refine gd2 ?_ ?_ | refine gd3 ?_ ?_) <;> (first | exact @False.elim _ | intro hc)))
  exact finV_lit vv rfl
theorem subI_fn (a b : List Int) (ha : a.length ≤ 17592186044416) (hb : b.length ≤ 17592186044416) : Fn Tryz.prog Gd 159 [tIs a, tIs b] (vbool (subI a b)) := by
  refine Fn.of_vx0 k_leaf_subset_int_a (by simp) (by rw [V.pures, pure_tIs, V.pures, pure_tIs]; rfl) ?_
  have C := containsIC_fn a (fun x => !memI b x) (f := 216) (cs := [.ept [tIs b] 0]) kr rfl rfl (fun s => subI1_fn b hb s) ha
  have hq : subI a b = !(a.any fun x => !memI b x) := rfl
  rw [hq]
  generalize (a.any fun x => !memI b x) = z at *
  clear ha hb hq
  unfold c_leaf_subset_int_a
  repeat' (with_reducible first | refine x_ops ?_ | refine wk ?_ | (with_reducible refine xc (C) ?_) | ((first | refine gd1 ?_ ?_ | refine gd2 ?_ ?_ | refine gd3 ?_ ?_) <;> (first | exact @False.elim _ | intro hc)))
  exact finV_lit vv rfl
end Go.Proofs.YtdefefeifcdogaaGreat
namespace Go.Proofs.YtdefefeifcdogaaGreat
open Go.RowKit
set_option maxRecDepth 100000

abbrev c_theorbolaw10_SameLeaf_p1 : VC := (.seq (.ops 0 [oo 4 .mv [(.c (.lit (.bool false)))]]) .ret)
abbrev c_theorbolaw10_SameLeaf_p2 : VC := (.seq (.ops 0 [oo 4 .mv [(.c (.lit (.bool false)))]]) .ret)
abbrev c_theorbolaw10_SameLeaf_p3 : VC := (.seq (.ops 0 [oo 4 .mv [(.c (.lit (.bool false)))]]) .ret)
abbrev c_theorbolaw10_SameLeaf_p4 : VC := (.ops 0 [oo 77 .mv [.t 8], oo 78 (.bin .add) [.t 77, kk 1], oo 8 .mv [.t 78]])
abbrev c_theorbolaw10_SameLeaf_p5 : VC := (.seq (.block 3 (.seq (.ops 0 [oo 79 (.fldA 2) [.t 6], od 80 .ld1 [.t 79] [0], oo 81 .mv [.t 8], oo 82 (.ixA 3) [.t 80, .t 81], od 83 (.ldA 3) [.t 82] [0, 1, 2, 3], oo 84 (.fldA 2) [.t 7], od 85 .ld1 [.t 84] [5], oo 86 .mv [.t 8], oo 87 (.ixA 3) [.t 85, .t 86], od 88 (.ldA 3) [.t 87] [5, 6, 7, 8], oo 89 (.eqP [(0, 0), (1, 1), (2, 1)] true) [.t 83, .t 88]]) (.cond (.t 89) c_theorbolaw10_SameLeaf_p3 .skip))) c_theorbolaw10_SameLeaf_p4)
abbrev c_theorbolaw10_SameLeaf_p6 : VC := (.seq (.seq (.ops 0 [oo 72 .mv [.t 8], oo 73 (.fldA 2) [.t 6], oo 74 .ld1 [.t 73], oo 75 .len [.t 74], oo 76 (.bin .lss) [.t 72, .t 75]]) (.cond (.t 76) .skip (.exit 2))) c_theorbolaw10_SameLeaf_p5)
@[go_sem] abbrev w_theorbolaw10_SameLeaf_p6 : Nat := 1237935316918897405253910800
abbrev c_theorbolaw10_SameLeaf_p8 : VC := (.seq (.ops 0 [oo 4 .mv [(.c (.lit (.bool false)))]]) .ret)
abbrev c_theorbolaw10_SameLeaf_p9 : VC := (.ops 0 [oo 95 .mv [.t 9], oo 96 (.bin .add) [.t 95, kk 1], oo 9 .mv [.t 96]])
abbrev c_theorbolaw10_SameLeaf_p10 : VC := (.seq (.block 5 (.seq (.ops 0 [oo 97 (.fldA 3) [.t 6], od 98 .ld1 [.t 97] [0], oo 99 .mv [.t 9], oo 100 (.ixA 1) [.t 98, .t 99], od 101 .ld1 [.t 100] [0, 1, 2, 3], oo 102 (.fldA 3) [.t 7], od 103 .ld1 [.t 102] [5], oo 104 .mv [.t 9], oo 105 (.ixA 1) [.t 103, .t 104], od 106 .ld1 [.t 105] [5, 6, 7, 8], oo 107 (.call 61) [.t 101, .t 106], oo 108 (.un .not) [.t 107]]) (.cond (.t 108) c_theorbolaw10_SameLeaf_p8 .skip))) c_theorbolaw10_SameLeaf_p9)
abbrev c_theorbolaw10_SameLeaf_p11 : VC := (.seq (.seq (.ops 0 [oo 90 .mv [.t 9], oo 91 (.fldA 3) [.t 6], oo 92 .ld1 [.t 91], oo 93 .len [.t 92], oo 94 (.bin .lss) [.t 90, .t 93]]) (.cond (.t 94) .skip (.exit 4))) c_theorbolaw10_SameLeaf_p10)
@[go_sem] abbrev w_theorbolaw10_SameLeaf_p11 : Nat := 649035869376814168186037142028816
abbrev c_theorbolaw10_SameLeaf_p13 : VC := (.seq (.ops 0 [oo 9 .mv [kk 0]]) (.block 4 (.loop c_theorbolaw10_SameLeaf_p11)))
abbrev c_theorbolaw10_SameLeaf_p14 : VC := (.seq (.seq (.ops 0 [oo 8 .mv [kk 0]]) (.block 2 (.loop c_theorbolaw10_SameLeaf_p6))) c_theorbolaw10_SameLeaf_p13)
abbrev c_theorbolaw10_SameLeaf_p15 : VC := (.seq (.seq (.ops 0 [oo 42 (.fldA 0) [.t 6], oo 43 .ld1 [.t 42], oo 44 (.fldA 0) [.t 7], oo 45 .ld1 [.t 44], oo 46 (.eqB true) [.t 43, .t 45], oo 47 .mv [.t 46], og 48 47 false (.fldA 1) [.t 6], og 49 47 false .ld1 [.t 48], og 50 47 false (.fldA 1) [.t 7], og 51 47 false .ld1 [.t 50], og 52 47 false (.eqB true) [.t 49, .t 51], oo 53 .pick [.t 47, (.c (.lit (.bool true))), .t 52], oo 54 .mv [.t 53], og 55 54 false (.fldA 2) [.t 6], og 56 54 false .ld1 [.t 55], og 57 54 false .len [.t 56], og 58 54 false (.fldA 2) [.t 7], og 59 54 false .ld1 [.t 58], og 60 54 false .len [.t 59], og 61 54 false (.bin .neq) [.t 57, .t 60], oo 62 .pick [.t 54, (.c (.lit (.bool true))), .t 61], oo 63 .mv [.t 62], og 64 63 false (.fldA 3) [.t 6], og 65 63 false .ld1 [.t 64], og 66 63 false .len [.t 65], og 67 63 false (.fldA 3) [.t 7], og 68 63 false .ld1 [.t 67], og 69 63 false .len [.t 68], og 70 63 false (.bin .neq) [.t 66, .t 69], oo 71 .pick [.t 63, (.c (.lit (.bool true))), .t 70]]) (.cond (.t 71) c_theorbolaw10_SameLeaf_p2 .skip)) c_theorbolaw10_SameLeaf_p14)
abbrev c_theorbolaw10_SameLeaf_p16 : VC := (.ops 0 [oo 30 .mv [.t 5], oo 31 (.bin .add) [.t 30, kk 1], oo 5 .mv [.t 31]])
abbrev c_theorbolaw10_SameLeaf_p17 : VC := (.seq (.block 1 (.seq (.ops 14 [oo 32 (.fldA 2) [.t 2], od 33 .ld1 [.t 32] [0], oo 34 .mv [.t 5], oo 35 (.ixA 4) [.t 33, .t 34], od 36 (.ldA 4) [.t 35] [0, 1, 2, 3], oo 37 (.fldA 2) [.t 3], od 38 .ld1 [.t 37] [5], oo 39 .mv [.t 5], oo 40 (.ixA 4) [.t 38, .t 39], od 41 (.ldA 4) [.t 40] [5, 6, 7, 8], ⟨(some 6), none, (.alloc 84 [(.lit (.bool false)), (.lit (.bool false)), (.sl 0 [] .exact), (.sl 0 [] .exact)]), [], (some [])⟩, ⟨(some 7), none, (.alloc 84 [(.lit (.bool false)), (.lit (.bool false)), (.sl 0 [] .exact), (.sl 0 [] .exact)]), [], (some [])⟩, ⟨none, none, (.st 4), [.t 6, .t 36], (some [10])⟩, ⟨none, none, (.st 4), [.t 7, .t 41], none⟩]) c_theorbolaw10_SameLeaf_p15)) c_theorbolaw10_SameLeaf_p16)
abbrev c_theorbolaw10_SameLeaf_p18 : VC := (.seq (.seq (.ops 0 [oo 25 .mv [.t 5], oo 26 (.fldA 2) [.t 2], oo 27 .ld1 [.t 26], oo 28 .len [.t 27], oo 29 (.bin .lss) [.t 25, .t 28]]) (.cond (.t 29) .skip (.exit 0))) c_theorbolaw10_SameLeaf_p17)
@[go_sem] abbrev w_theorbolaw10_SameLeaf_p18 : Nat := 649037107316853453566312007599088
abbrev c_theorbolaw10_SameLeaf_p20 : VC := (.seq (.ops 0 [oo 4 .mv [(.c (.lit (.bool true)))]]) .ret)
abbrev c_theorbolaw10_SameLeaf_p21 : VC := (.seq (.seq (.ops 0 [oo 5 .mv [kk 0]]) (.block 0 (.loop c_theorbolaw10_SameLeaf_p18))) c_theorbolaw10_SameLeaf_p20)
abbrev c_theorbolaw10_SameLeaf_p22 : VC := (.seq (.seq (.ops 0 [oo 10 (.fldA 0) [.t 2], oo 11 (.ldA 2) [.t 10], oo 12 (.fldA 0) [.t 3], oo 13 (.ldA 2) [.t 12], oo 14 (.call 70) [.t 11, .t 13], oo 15 (.un .not) [.t 14], oo 16 .mv [.t 15], og 17 16 false (.fldA 2) [.t 2], og 18 16 false .ld1 [.t 17], og 19 16 false .len [.t 18], og 20 16 false (.fldA 2) [.t 3], og 21 16 false .ld1 [.t 20], og 22 16 false .len [.t 21], og 23 16 false (.bin .neq) [.t 19, .t 22], oo 24 .pick [.t 16, (.c (.lit (.bool true))), .t 23]]) (.cond (.t 24) c_theorbolaw10_SameLeaf_p1 .skip)) c_theorbolaw10_SameLeaf_p21)
def c_theorbolaw10_SameLeaf : VC := (.seq (.ops 3 [oo 2 (.box 28) [.t 0], oo 3 (.box 28) [.t 1], oo 4 .mv [(.c (.lit (.bool false)))]]) c_theorbolaw10_SameLeaf_p22)
theorem k_theorbolaw10_SameLeaf : Comp Tryz.prog nobx gtab 22 109 c_theorbolaw10_SameLeaf [.t 4] := ⟨⟨Tryz.f22, _, Tryz.func22, rfl, rfl, kr, kr⟩⟩
end Go.Proofs.YtdefefeifcdogaaGreat
namespace Go.Proofs.YtdefefeifcdogaaGreat
open Go.RowKit
set_option linter.unusedSimpArgs false
set_option linter.unusedVariables false

/-- The first error of some. -/
def fstE (f : Nat → Int) : Nat → Int
  | 0 => 0
  | k + 1 => if fstE f k ≠ 0 then fstE f k else f k
theorem fstE_zero {f : Nat → Int} : ∀ {n : Nat}, fstE f n = 0 ↔ ∀ i, i < n → f i = 0
  | 0 => ⟨fun _ i hi => by omega, fun _ => rfl⟩
  | n + 1 => by
    rw [fstE]
    constructor
    · intro h i hi
      split at h
      · rename_i h1; exact absurd h h1
      · rename_i h1
        by_cases e : i = n
        · subst e; exact h
        · exact (fstE_zero (n := n)).1 (Decidable.not_not.1 h1) i (by omega)
    · intro h
      rw [if_neg (by have := (fstE_zero (f := f) (n := n)).2 fun i hi => h i (by omega); omega)]
      exact h n (by omega)
/-- A sign that may stand in a piece. -/
def rgtS (s : Sg) : Bool := okS s || (decide (s.v = 0) && !s.d && !s.t)
def hasC (x : Evt) (c : Int) : Bool := x.ss.any fun s => s.co == c
def rstE (x : Evt) : Bool := decide (x.ss.length = 0) && !x.tie
/-- How long a note may be held: from these events, at most n. -/
def lgL : Nat → List Evt → Int → Nat
  | 0, _, _ => 0
  | _ + 1, [], _ => 0
  | n + 1, x :: l, c => if (rstE x || hasC x c) = true then 0 else lgL n l c + 1
def lgst (p : Pce) (i : Nat) (c : Int) : Nat := lgL 15 (p.es.drop (i + 1)) c
def stpE (p : Pce) (i : Nat) (s : Stp) (last : Int) : Int :=
  if s.co < 1 ∨ (p.ins.cs.length : Int) < s.co then 12
  else if s.fr < 0 ∨ (p.ins.cs.getD (s.co - 1).toNat default).f < s.fr then 13
  else if s.co ≤ last then 22
  else if s.ri < 0 ∨ 3 < s.ri ∨ s.gr < 0 ∨ 4 < s.gr then 23
  else if s.ho < 0 ∨ (lgst p i s.co : Int) < s.ho ∨ 0 < s.ho ∧ s.fr = 0 then 24 else 0
def lstC (l : List Stp) (k : Nat) : Int := if k = 0 then 0 else (l.getD (k - 1) default).co
def evtE (p : Pce) (i : Nat) : Int :=
  if rgtS (p.es.getD i default).sg = false ∨ i = 0 ∧ (p.es.getD i default).sg.v = 0 then 20
  else if (p.es.getD i default).tie = true ∧ ((p.es.getD i default).ss.length ≠ 0 ∨ i = 0) then 21
  else fstE (fun k => stpE p i ((p.es.getD i default).ss.getD k default) (lstC (p.es.getD i default).ss k)) (p.es.getD i default).ss.length
/-- The first error of a piece. -/
noncomputable def chkP (p : Pce) : Int := if chkI p.ins ≠ 0 then chkI p.ins else if 400 < p.es.length then 2 else fstE (evtE p) p.es.length
theorem chkP_zero {p : Pce} (h : chkP p = 0) : chkI p.ins = 0 ∧ p.es.length ≤ 400 ∧ ∀ i, i < p.es.length → evtE p i = 0 := by
  unfold chkP at h
  split at h
  · rename_i h1; exact absurd h h1
  · split at h
    · cases h
    · exact ⟨by omega, by omega, fstE_zero.1 h⟩
/-- The sign in force behind the first k events. -/
def frc (l : List Evt) : Nat → Sg
  | 0 => ⟨0, false, false⟩
  | k + 1 => if (l.getD k default).sg.v ≠ 0 then (l.getD k default).sg else frc l k
/-- The events in plain. -/
def plnE (l : List Evt) (k : Nat) : List Evt := (List.range k).map fun i => { l.getD i default with sg := frc l (i + 1) }
/-- A piece with every sign written. -/
def plnP (p : Pce) : Pce := ⟨p.ins, plnE p.es p.es.length⟩
/-- The number of a course in an event: of the last stop there. -/
def numC (l : List Stp) (c : Int) : Nat → Int
  | 0 => -1
  | j + 1 => if (l.getD j default).co = c then (l.getD j default).fr else numC l c j
/-- The column of an event. -/
def clmO (n : Nat) (x : Evt) : Clm := ⟨x.bar, x.tie, [x.sg], (List.range n).map fun k => [numC x.ss ((k + 1 : Nat) : Int) x.ss.length]⟩
/-- The leaf of a piece. -/
def lfO (p : Pce) : Lf := ⟨p.ins, (plnP p).es.map (clmO p.ins.cs.length)⟩
def noL : Lf := ⟨⟨[], []⟩, []⟩
end Go.Proofs.YtdefefeifcdogaaGreat
namespace Go.Proofs.YtdefefeifcdogaaGreat
open Go.RowKit
set_option linter.unusedSimpArgs false
set_option linter.unusedVariables false

theorem tkS_pos (s : Sg) : decide (0 < tkS s) = okS s := by
  cases h : okS s with
  | false => rw [tkS, h]; rfl
  | true =>
    have h2 := h
    unfold okS at h2
    simp only [Bool.and_eq_true, decide_eq_true_eq] at h2
    obtain ⟨⟨h1, h7⟩, _⟩ := h2
    obtain ⟨n, hn⟩ : ∃ n : Nat, s.v = n := ⟨s.v.toNat, by omega⟩
    have q := tk0_cases (n := n) (by omega) (by omega)
    have hp : 0 < tk0 n / 2 * 3 ∧ 0 < tk0 n / 3 * 2 ∧ 0 < tk0 n := by
      have : n = 1 ∨ n = 2 ∨ n = 3 ∨ n = 4 ∨ n = 5 ∨ n = 6 ∨ n = 7 := by omega
      rcases this with rfl | rfl | rfl | rfl | rfl | rfl | rfl <;> decide
    rw [tkS, if_pos h, hn, Int.toNat_natCast]
    apply decide_eq_true
    split
    · exact hp.1
    · split
      · exact hp.2.1
      · exact hp.2.2
end Go.Proofs.YtdefefeifcdogaaGreat
namespace Go.Proofs.YtdefefeifcdogaaGreat
open Go.RowKit
set_option linter.unusedSimpArgs false
set_option linter.unusedVariables false

theorem lstC_succ (l : List Stp) (j : Nat) : lstC l (j + 1) = (l.getD j default).co := by rw [lstC, if_neg (by omega), Nat.add_sub_cancel]
end Go.Proofs.YtdefefeifcdogaaGreat
namespace Go.Proofs.YtdefefeifcdogaaGreat
open Go.RowKit
set_option linter.unusedSimpArgs false
set_option linter.unusedVariables false

theorem chkI_small {x : Ins} (h : chkI x = 0) : x.cs.length ≤ 14 ∧ x.st.length ≤ 18 ∧ 0 < x.cs.length ∧ stB x.st = true ∧ ∀ i, i < x.cs.length → crsE x.st (x.cs.getD i default) = 0 := by
  unfold chkI at h
  split at h
  · cases h
  · split at h
    · cases h
    · split at h
      · rename_i h1 h2 h3
        exact ⟨by omega, by omega, by omega, h3, firE_zero h⟩
      · cases h
theorem lchk_zero {f : Lf} (h : lchk f = 0) : chkI f.ins = 0 ∧ f.cols.length ≤ 400 ∧ ColsOk f := by
  unfold lchk at h
  split at h
  · rename_i h1; exact absurd h h1
  · split at h
    · cases h
    · split at h
      · rename_i h1 h2 h3
        exact ⟨by omega, by omega, h3⟩
      · cases h
end Go.Proofs.YtdefefeifcdogaaGreat
namespace Go.Proofs.YtdefefeifcdogaaGreat
open Go.RowKit
set_option linter.unusedSimpArgs false
set_option linter.unusedVariables false

theorem stp_zero {p : Pce} {i : Nat} {s : Stp} {last : Int} (h : stpE p i s last = 0) : (1 ≤ s.co ∧ s.co ≤ p.ins.cs.length) ∧ (0 ≤ s.fr ∧ s.fr ≤ (p.ins.cs.getD (s.co - 1).toNat default).f) ∧ last < s.co ∧ ((0 ≤ s.ri ∧ s.ri ≤ 3) ∧ 0 ≤ s.gr ∧ s.gr ≤ 4) ∧ (0 ≤ s.ho ∧ s.ho ≤ lgst p i s.co) ∧ (s.fr = 0 → s.ho = 0) := by
  unfold stpE at h
  split at h
  · cases h
  · split at h
    · cases h
    · split at h
      · cases h
      · split at h
        · cases h
        · split at h
          · cases h
          · omega
structure EvOk (p : Pce) (i : Nat) (x : Evt) : Prop where
  sg : rgtS x.sg = true
  s0 : i = 0 → x.sg.v ≠ 0
  tie : x.tie = true → x.ss.length = 0 ∧ i ≠ 0
  st : ∀ j, j < x.ss.length → stpE p i (x.ss.getD j default) (lstC x.ss j) = 0
theorem evt_zero {p : Pce} {i : Nat} (h : evtE p i = 0) : EvOk p i (p.es.getD i default) := by
  unfold evtE at h
  split at h
  · cases h
  · rename_i h1
    split at h
    · cases h
    · rename_i h2
      refine ⟨?_, fun e ev => h1 (.inr ⟨e, ev⟩), fun ht => ?_, fstE_zero.1 h⟩
      · cases hr : rgtS (p.es.getD i default).sg with
        | true => rfl
        | false => exact absurd (.inl hr) h1
      · constructor
        · exact Decidable.byContradiction fun hl => h2 ⟨ht, .inl hl⟩
        · exact fun e => h2 ⟨ht, .inr e⟩
theorem EvOk.co {p : Pce} {i : Nat} {x : Evt} (h : EvOk p i x) : ∀ j, j < x.ss.length → (j + 1 : Int) ≤ (x.ss.getD j default).co
  | 0, hj => by have := (stp_zero (h.st 0 hj)).1.1; omega
  | j + 1, hj => by
    have h1 := h.co j (by omega)
    have h2 := (stp_zero (h.st (j + 1) hj)).2.2.1
    rw [lstC_succ] at h2
    omega
theorem EvOk.len {p : Pce} {i : Nat} {x : Evt} (h : EvOk p i x) : x.ss.length ≤ p.ins.cs.length := by
  rcases Nat.eq_zero_or_pos x.ss.length with h0 | h0
  · omega
  · have h1 := h.co (x.ss.length - 1) (by omega)
    have h2 := (stp_zero (h.st (x.ss.length - 1) (by omega))).1.2
    omega
structure PcOk (p : Pce) : Prop where
  i : chkI p.ins = 0
  n : p.es.length ≤ 400
  e : ∀ i, i < p.es.length → EvOk p i (p.es.getD i default)
  l : ∀ i, i < p.es.length → (p.es.getD i default).ss.length ≤ 14
  c : p.ins.cs.length ≤ 14
  s : p.ins.st.length ≤ 18
theorem PcOk.of {p : Pce} (h : chkP p = 0) : PcOk p := by
  obtain ⟨h1, h2, h3⟩ := chkP_zero h
  obtain ⟨h4, h5, _⟩ := chkI_small h1
  exact ⟨h1, h2, fun i hi => evt_zero (h3 i hi), fun i hi => by have := (evt_zero (h3 i hi)).len; omega, h4, h5⟩
/-- A call gives an event with another sign, and leaves that sign in a box. -/
def P1Post (m : Mm) (b : Nat) (x : Evt) (f : Sg) (r : V) (m' : Mm) : Prop := r = .agg [vbool x.bar, vint f.v, vbool f.d, vbool f.t, vbool x.tie, .sl x.ss.length (x.ss.flatMap Stp.cells) .no] ∧ m'.obj b = some (.box f.cells 110) ∧ (∀ q, q < m.next → q ≠ b → m'.obj q = m.obj q) ∧ m.next ≤ m'.next
theorem P1Post.ne {m : Mm} {b : Nat} (hb : b < m.next) (x : Evt) (f : Sg) : ∃ r m', P1Post m b x f r m' :=
  ⟨_, m.put b (.box f.cells 110), rfl, if_pos rfl, fun q _ hq => if_neg hq, Nat.le_refl _⟩
end Go.Proofs.YtdefefeifcdogaaGreat
namespace Go.Proofs.YtdefefeifcdogaaGreat
open Go.RowKit
set_option linter.unusedSimpArgs false
set_option linter.unusedVariables false

theorem del_obj (m : Mm) (i j : Nat) : (m.del i).obj j = if j = i then none else m.obj j := rfl
theorem del_next (m : Mm) (i : Nat) : (m.del i).next = m.next := rfl
attribute [go_sem] del_obj del_next
/-- A copy of a piece: its events lie in a new box. -/
def CpPost (m : Mm) (p : Pce) (r : V) (m' : Mm) : Prop := ((∀ q, q < m.next → m'.obj q = m.obj q) ∧ m.next ≤ m'.next) ∧ ∃ ev, r = .agg [.sl p.ins.cs.length (p.ins.cs.flatMap Crs.cells) .no, .sl p.ins.st.length (p.ins.st.map vint) .no, ev] ∧
  ((p.es.length = 0 ∧ ev = .sl 0 [] .exact) ∨ (0 < p.es.length ∧ ∃ i, m.next ≤ i ∧ i < m'.next ∧ ev = .gsl i p.es.length 6 ∧ m'.obj i = some (.box (p.es.flatMap Evt.cells) 136)))
theorem CpPost.ne (m : Mm) (p : Pce) : ∃ r m', CpPost m p r m' := by
  rcases Nat.eq_zero_or_pos p.es.length with h | h
  · exact ⟨_, m, ⟨fun _ _ => rfl, Nat.le_refl _⟩, _, rfl, .inl ⟨h, rfl⟩⟩
  · refine ⟨_, ⟨(m.put m.next (.box (p.es.flatMap Evt.cells) 136)).obj, m.next + 1⟩, ⟨fun q hq => if_neg (by omega), Nat.le_succ _⟩, _, rfl, .inr ⟨h, m.next, Nat.le_refl _, Nat.lt_succ_self _, rfl, if_pos rfl⟩⟩
end Go.Proofs.YtdefefeifcdogaaGreat
namespace Go.Proofs.YtdefefeifcdogaaGreat
open Go.RowKit
set_option linter.unusedSimpArgs false
set_option linter.unusedVariables false

theorem sameints_refl (l : List Int) (hl : l.length ≤ 17592186044416) : Fn Tryz.prog Gd 61 [tIs l, tIs l] (vbool true) := by
  refine Fn.of_vx0 k_theorbolaw10_SameInts (by simp) (by rw [V.pures, pure_tIs, V.pures, pure_tIs]; rfl) ?_
  unfold c_theorbolaw10_SameInts
  repeat' (with_reducible first | refine x_ops ?_ | refine wk ?_ | ((first | refine gd1 ?_ ?_ | refine gd2 ?_ ?_ | refine gd3 ?_ ?_) <;> (first | exact @False.elim _ | intro hc)))
  refine x_loopF w_theorbolaw10_SameInts_p5 kr l.length (fun k t => t 5 = vint k) vv ?_
  intro k t hk h5
  by_cases hlt : k < l.length
  · have g1 := ints_at (l := l) (k := k) hlt
    have c1 : (k : Int) < (l.length : Int) := by omega
    have w1 := w_add1 (k := k) (by omega)
    have hlt0 := Hid.mk hlt
    clear hlt hk
    repeat' (with_reducible first | refine x_ops ?_ | refine wk ?_ | ((first | refine gd1 ?_ ?_ | refine gd2 ?_ ?_ | refine gd3 ?_ ?_) <;> (first | exact @False.elim _ | intro hc)))
    exact nf hlt0.out vv rfl
  · have c1 : ¬ (k : Int) < (l.length : Int) := by omega
    clear hlt hk
    repeat' (with_reducible first | refine x_ops ?_ | refine wk ?_ | ((first | refine gd1 ?_ ?_ | refine gd2 ?_ ?_ | refine gd3 ?_ ?_) <;> (first | exact @False.elim _ | intro hc)))
    exact finV_lit vv rfl
set_option maxHeartbeats 1000000 in
theorem sameleaf_refl (f : Lf) (hs : LfSm f) (h1 : f.ins.cs.length ≤ 17592186044416) (h2 : f.ins.st.length ≤ 17592186044416) : Fn Tryz.prog Gd 22 [f.val, f.val] (vbool true) := by
  refine Fn.of_vx0 k_theorbolaw10_SameLeaf (by simp) (by rw [V.pures, pure_lf, V.pures, pure_lf]; rfl) ?_
  have I := rsameI_fn f.ins f.ins h1 h2
  rw [decide_eq_true rfl] at I
  unfold c_theorbolaw10_SameLeaf
  have hn := hs.n
  have hc := Hid.mk hs.c
  clear hs h1 h2
  repeat' (with_reducible first | refine x_ops ?_ | refine wk ?_ | (with_reducible refine xc (I) ?_) | ((first | refine gd1 ?_ ?_ | refine gd2 ?_ ?_ | refine gd3 ?_ ?_) <;> (first | exact @False.elim _ | intro hc)))
  clear I
  refine x_loopW w_theorbolaw10_SameLeaf_p18 kr f.cols.length (fun k t m => t 5 = vint k ∧ (m.obj 0 = some (.box [.sl f.ins.cs.length (f.ins.cs.flatMap Crs.cells) .no, .sl f.ins.st.length (f.ins.st.map vint) .no, .sl f.cols.length (f.cols.flatMap Clm.cells) .no] 28) ∧ m.obj 1 = some (.box [.sl f.ins.cs.length (f.ins.cs.flatMap Crs.cells) .no, .sl f.ins.st.length (f.ins.st.map vint) .no, .sl f.cols.length (f.cols.flatMap Clm.cells) .no] 28) ∧ 1 < m.next)) ?_ ?_
  · exact ⟨vv, vv, vv, by show 1 < 3; omega⟩
  rintro k t m hk ⟨h5, hm0, hm1, hmn⟩
  have n0 : 0 < m.next := by omega
  by_cases hlt : k < f.cols.length
  case neg =>
    have c1 : ¬ (k : Int) < (f.cols.length : Int) := by omega
    clear hlt hk
    repeat' (with_reducible first | refine x_ops ?_ | refine wk ?_ | ((first | refine gd1 ?_ ?_ | refine gd2 ?_ ?_ | refine gd3 ?_ ?_) <;> (first | exact @False.elim _ | intro hc)))
    exact finV_lit vv rfl
  have g1 := clm_take (l := f.cols) (k := k) hlt
  have g2 := clms_len f.cols
  have c1 : (k : Int) < (f.cols.length : Int) := by omega
  have c3 : k * 4 + 4 ≤ f.cols.length * 4 := by omega
  have w1 := w_add1 (k := k) (by omega)
  have n3 : 0 < m.next + 14 := by omega
  have n4 : 1 < m.next + 14 := by omega
  have hcs := hc.out k hlt
  have hlt0 := Hid.mk hlt
  have hmn0 := Hid.mk hmn
  generalize f.cols.getD k default = c at *
  obtain ⟨bar, tie, sgs, ce⟩ := c
  have hls : sgs.length ≤ 17592186044416 := hcs.ls
  have hlc : ce.length ≤ 17592186044416 := hcs.lc
  have hle : ∀ i, i < ce.length → (ce.getD i []).length ≤ 17592186044416 := hcs.le
  replace hls := Hid.mk hls
  replace hlc := Hid.mk hlc
  replace hle := Hid.mk hle
  have hm00 := Hid.mk hm0
  have hm10 := Hid.mk hm1
  clear hlt hk hcs
  repeat' (with_reducible first | refine x_ops ?_ | refine wk ?_ | ((first | refine gd1 ?_ ?_ | refine gd2 ?_ ?_ | refine gd3 ?_ ?_) <;> (first | exact @False.elim _ | intro hc)))
  clear g1 g2 c3 hm0 hm1
  refine x_loopF w_theorbolaw10_SameLeaf_p6 kr sgs.length (fun j t => t 8 = vint j) vv ?_
  intro j t1 hj h8
  by_cases hlt2 : j < sgs.length
  · have g1 := sg_take (l := sgs) (k := j) hlt2
    have g2 := sgs_len sgs
    have d1 : (j : Int) < (sgs.length : Int) := by omega
    have d3 : j * 3 + 3 ≤ sgs.length * 3 := by omega
    have w2 := w_add1 (k := j) (by have := hls.out; omega)
    have hlt20 := Hid.mk hlt2
    clear hlt2 hj
    repeat' (with_reducible first | refine x_ops ?_ | simp only [go_sem, Nat.reduceAdd, Nat.reduceEqDiff, Nat.reduceLT, Nat.reduceLeDiff, Nat.reduceMul, Nat.reduceSub, Nat.reducePow, Nat.reduceDiv, Nat.reduceMod, Nat.reduceBEq, Int.reduceBEq, Int.reduceLT, reduceIte, tIs, tBs, tPs, Bool.true_and, Bool.and_self, *] | ((first | refine gd1 ?_ ?_ | refine gd2 ?_ ?_ | refine gd3 ?_ ?_) <;> (first | exact @False.elim _ | intro hc)))
    exact nf hlt20.out vv rfl
  have d1 : ¬ (j : Int) < (sgs.length : Int) := by omega
  clear hlt2 hj
  repeat' (with_reducible first | refine x_ops ?_ | refine wk ?_ | ((first | refine gd1 ?_ ?_ | refine gd2 ?_ ?_ | refine gd3 ?_ ?_) <;> (first | exact @False.elim _ | intro hc)))
  clear d1 h8
  refine x_loopF w_theorbolaw10_SameLeaf_p11 kr ce.length (fun j t => t 9 = vint j) vv ?_
  intro j2 t2 hj h9
  by_cases hlt2 : j2 < ce.length
  · have g1 := iss_at (l := ce) (k := j2) hlt2
    have d1 : (j2 : Int) < (ce.length : Int) := by omega
    have w2 := w_add1 (k := j2) (by have := hlc.out; omega)
    have SI := sameints_refl (ce.getD j2 []) (hle.out j2 hlt2)
    have hlt20 := Hid.mk hlt2
    generalize ce.getD j2 [] = l at *
    clear hlt2 hj
    repeat' (with_reducible first | refine x_ops ?_ | refine wk ?_ | (with_reducible refine xc (SI) ?_) | ((first | refine gd1 ?_ ?_ | refine gd2 ?_ ?_ | refine gd3 ?_ ?_) <;> (first | exact @False.elim _ | intro hc)))
    exact nf hlt20.out vv rfl
  have d1 : ¬ (j2 : Int) < (ce.length : Int) := by omega
  clear hlt2 hj
  repeat' (with_reducible first | refine x_ops ?_ | refine wk ?_ | ((first | refine gd1 ?_ ?_ | refine gd2 ?_ ?_ | refine gd3 ?_ ?_) <;> (first | exact @False.elim _ | intro hc)))
  have hmnn := hmn0.out
  refine nx hlt0.out ⟨vv, ?_, ?_, by show 1 < m.next + 14; omega⟩
  · (simp only [put_obj]; repeat rw [if_neg (by omega)]); exact hm00.out
  · (simp only [put_obj]; repeat rw [if_neg (by omega)]); exact hm10.out
theorem noL_sm : LfSm noL := ⟨by show 0 ≤ _; omega, fun i hi => absurd hi (Nat.not_lt_zero i)⟩
end Go.Proofs.YtdefefeifcdogaaGreat
namespace Go.Proofs.YtdefefeifcdogaaGreat
open Go.RowKit
set_option linter.unusedSimpArgs false
set_option linter.unusedVariables false

theorem isameI_fn (x y : Ins) (hx1 : x.cs.length ≤ 17592186044416) (hx2 : x.st.length ≤ 17592186044416) : Fn Tryz.prog Gd 98 [x.val, y.val] (vbool (decide (x = y))) := by
  refine Fn.of_vx0 k_instrument_Same (by simp) (by rw [V.pures, pure_ins, V.pures, pure_ins]; rfl) ?_
  unfold c_instrument_Same
  by_cases h1 : x.cs.length = y.cs.length
  case neg =>
    have c1 : ((x.cs.length : Int) == (y.cs.length : Int)) = false := by rw [beq_eq_false_iff_ne]; omega
    rw [decide_eq_false fun e => h1 (by rw [e])]
    clear h1
    repeat' (with_reducible first | refine x_ops ?_ | refine wk ?_ | ((first | refine gd1 ?_ ?_ | refine gd2 ?_ ?_ | refine gd3 ?_ ?_) <;> (first | exact @False.elim _ | intro hc)))
    exact finV_lit vv rfl
  have c1 : ((x.cs.length : Int) == (y.cs.length : Int)) = true := by rw [beq_iff_eq]; omega
  by_cases h2 : x.st.length = y.st.length
  case neg =>
    have c2 : ((x.st.length : Int) == (y.st.length : Int)) = false := by rw [beq_eq_false_iff_ne]; omega
    rw [decide_eq_false fun e => h2 (by rw [e])]
    clear h1 h2
    repeat' (with_reducible first | refine x_ops ?_ | refine wk ?_ | ((first | refine gd1 ?_ ?_ | refine gd2 ?_ ?_ | refine gd3 ?_ ?_) <;> (first | exact @False.elim _ | intro hc)))
    exact finV_lit vv rfl
  have c2 : ((x.st.length : Int) == (y.st.length : Int)) = true := by rw [beq_iff_eq]; omega
  have hy1 := Hid.mk h1
  have hy2 := Hid.mk h2
  have hdec : decide (x = y) = true ↔ x = y := decide_eq_true_iff
  replace hdec := Hid.mk hdec
  clear h1 h2
  repeat' (with_reducible first | refine x_ops ?_ | refine wk ?_ | ((first | refine gd1 ?_ ?_ | refine gd2 ?_ ?_ | refine gd3 ?_ ?_) <;> (first | exact @False.elim _ | intro hc)))
  clear c1 c2
  refine x_loopF w_instrument_Same_p6 kr x.cs.length (fun k t => t 26 = vint k ∧ ∀ i, i < k → x.cs.getD i default = y.cs.getD i default) ?_ ?_
  · exact ⟨vv, fun i h => by omega⟩
  rintro k t hk ⟨h26, hI⟩
  replace hI := Hid.mk hI
  by_cases hlt : k < x.cs.length
  case pos =>
    have g1 := crs_take (l := x.cs) (k := k) hlt
    have g2 := crs_take (l := y.cs) (k := k) (by have := hy1.out; omega)
    have hL1 := crss_len x.cs
    have hL2 := crss_len y.cs
    have c1 : (k : Int) < (x.cs.length : Int) := by omega
    have c2 : (k : Int) < (y.cs.length : Int) := by have := hy1.out; omega
    have c3 : k * 3 + 3 ≤ x.cs.length * 3 := by omega
    have c4 : k * 3 + 3 ≤ y.cs.length * 3 := by have := hy1.out; omega
    have w1 := w_add1 (k := k) (by omega)
    have hlt0 := Hid.mk hlt
    have hne : x.cs.getD k default ≠ y.cs.getD k default → x ≠ y := fun h e => h (by rw [e])
    replace hne := Hid.mk hne
    generalize ha : x.cs.getD k default = a at *
    generalize hb : y.cs.getD k default = b at *
    replace ha := Hid.mk ha
    replace hb := Hid.mk hb
    obtain ⟨a1, a2, a3⟩ := a
    obtain ⟨b1, b2, b3⟩ := b
    clear hlt hk
    by_cases e1 : a1 = b1
    case neg =>
      have d1 : (a1 == b1) = false := by rw [beq_eq_false_iff_ne]; exact e1
      rw [decide_eq_false (hne.out fun e => e1 (by injection e))]
      clear e1
      repeat' (with_reducible first | refine x_ops ?_ | simp only [go_sem, Nat.reduceAdd, Nat.reduceEqDiff, Nat.reduceLT, Nat.reduceLeDiff, Nat.reduceMul, Nat.reduceSub, Nat.reducePow, Nat.reduceDiv, Nat.reduceMod, Nat.reduceBEq, Int.reduceBEq, Int.reduceLT, reduceIte, tIs, tBs, tPs, Bool.false_and, *] | ((first | refine gd1 ?_ ?_ | refine gd2 ?_ ?_ | refine gd3 ?_ ?_) <;> (first | exact @False.elim _ | intro hc)))
      exact finV_lit vv rfl
    by_cases e2 : a2 = b2
    case neg =>
      have d1 : (a1 == b1) = true := by rw [beq_iff_eq]; exact e1
      have d2 : (a2 == b2) = false := by rw [beq_eq_false_iff_ne]; exact e2
      rw [decide_eq_false (hne.out fun e => e2 (by injection e))]
      clear e1 e2
      repeat' (with_reducible first | refine x_ops ?_ | simp only [go_sem, Nat.reduceAdd, Nat.reduceEqDiff, Nat.reduceLT, Nat.reduceLeDiff, Nat.reduceMul, Nat.reduceSub, Nat.reducePow, Nat.reduceDiv, Nat.reduceMod, Nat.reduceBEq, Int.reduceBEq, Int.reduceLT, reduceIte, tIs, tBs, tPs, Bool.false_and, Bool.true_and, *] | ((first | refine gd1 ?_ ?_ | refine gd2 ?_ ?_ | refine gd3 ?_ ?_) <;> (first | exact @False.elim _ | intro hc)))
      exact finV_lit vv rfl
    by_cases e3 : a3 = b3
    case neg =>
      have d1 : (a1 == b1) = true := by rw [beq_iff_eq]; exact e1
      have d2 : (a2 == b2) = true := by rw [beq_iff_eq]; exact e2
      have d3 : (a3 == b3) = false := by rw [beq_eq_false_iff_ne]; exact e3
      rw [decide_eq_false (hne.out fun e => e3 (by injection e))]
      clear e1 e2 e3
      repeat' (with_reducible first | refine x_ops ?_ | simp only [go_sem, Nat.reduceAdd, Nat.reduceEqDiff, Nat.reduceLT, Nat.reduceLeDiff, Nat.reduceMul, Nat.reduceSub, Nat.reducePow, Nat.reduceDiv, Nat.reduceMod, Nat.reduceBEq, Int.reduceBEq, Int.reduceLT, reduceIte, tIs, tBs, tPs, Bool.false_and, Bool.true_and, *] | ((first | refine gd1 ?_ ?_ | refine gd2 ?_ ?_ | refine gd3 ?_ ?_) <;> (first | exact @False.elim _ | intro hc)))
      exact finV_lit vv rfl
    subst e1 e2 e3
    repeat' (with_reducible first | refine x_ops ?_ | simp only [go_sem, Nat.reduceAdd, Nat.reduceEqDiff, Nat.reduceLT, Nat.reduceLeDiff, Nat.reduceMul, Nat.reduceSub, Nat.reducePow, Nat.reduceDiv, Nat.reduceMod, Nat.reduceBEq, Int.reduceBEq, Int.reduceLT, reduceIte, tIs, tBs, tPs, Bool.true_and, *] | ((first | refine gd1 ?_ ?_ | refine gd2 ?_ ?_ | refine gd3 ?_ ?_) <;> (first | exact @False.elim _ | intro hc)))
    refine nf hlt0.out ⟨vv, fun i hi => ?_⟩ rfl
    by_cases e : i = k
    · subst e; rw [ha.out, hb.out]
    · exact hI.out i (by omega)
  have c1 : ¬ ((k : Int) < (x.cs.length : Int)) := by omega
  have hcs : x.cs = y.cs := lst_eq hy1.out fun i hi => hI.out i (by omega)
  replace hcs := Hid.mk hcs
  clear hlt hk hI
  repeat' (with_reducible first | refine x_ops ?_ | refine wk ?_ | ((first | refine gd1 ?_ ?_ | refine gd2 ?_ ?_ | refine gd3 ?_ ?_) <;> (first | exact @False.elim _ | intro hc)))
  clear c1
  refine x_loopF w_instrument_Same_p13 kr x.st.length (fun k t => t 44 = vint k ∧ ∀ i, i < k → x.st.getD i default = y.st.getD i default) ?_ ?_
  · exact ⟨vv, fun i h => by omega⟩
  rintro k t hk ⟨h44, hI⟩
  replace hI := Hid.mk hI
  by_cases hlt : k < x.st.length
  case pos =>
    have g1 := ints_at (l := x.st) (k := k) hlt
    have g2 := ints_at (l := y.st) (k := k) (by have := hy2.out; omega)
    have c1 : (k : Int) < (x.st.length : Int) := by omega
    have c2 : (k : Int) < (y.st.length : Int) := by have := hy2.out; omega
    have w1 := w_add1 (k := k) (by omega)
    have hlt0 := Hid.mk hlt
    clear hlt hk
    by_cases e1 : x.st.getD k 0 = y.st.getD k 0
    case neg =>
      have d1 : (x.st.getD k 0 == y.st.getD k 0) = false := by rw [beq_eq_false_iff_ne]; exact e1
      rw [decide_eq_false fun e => e1 (by rw [e])]
      clear e1
      repeat' (with_reducible first | refine x_ops ?_ | refine wk ?_ | ((first | refine gd1 ?_ ?_ | refine gd2 ?_ ?_ | refine gd3 ?_ ?_) <;> (first | exact @False.elim _ | intro hc)))
      exact finV_lit vv rfl
    have d1 : (x.st.getD k 0 == y.st.getD k 0) = true := by rw [beq_iff_eq]; exact e1
    have e10 := Hid.mk e1
    clear e1
    repeat' (with_reducible first | refine x_ops ?_ | refine wk ?_ | ((first | refine gd1 ?_ ?_ | refine gd2 ?_ ?_ | refine gd3 ?_ ?_) <;> (first | exact @False.elim _ | intro hc)))
    refine nf hlt0.out ⟨vv, fun i hi => ?_⟩ rfl
    by_cases e : i = k
    · subst e; exact e10.out
    · exact hI.out i (by omega)
  have c1 : ¬ ((k : Int) < (x.st.length : Int)) := by omega
  have hst : x.st = y.st := lst_eq hy2.out fun i hi => hI.out i (by omega)
  have hxy : x = y := by
    obtain ⟨a, b⟩ := x; obtain ⟨a', b'⟩ := y
    have h1 := hcs.out
    dsimp only at h1 hst
    rw [h1, hst]
  rw [decide_eq_true hxy]
  clear hlt hk hI hst hxy
  repeat' (with_reducible first | refine x_ops ?_ | refine wk ?_ | ((first | refine gd1 ?_ ?_ | refine gd2 ?_ ?_ | refine gd3 ?_ ?_) <;> (first | exact @False.elim _ | intro hc)))
  exact finV_lit vv rfl
def shpC (x y : Clm) : Bool := (x.bar == y.bar) && (x.tie == y.tie)
def eqC (p : Clm → Clm → Bool) (a b : List Clm) : Bool := decide (a.length = b.length) && allB a.length fun i => p (a.getD i default) (b.getD i default)
def shpB (f g : Lf) : Bool := decide (f.ins = g.ins) && eqC shpC f.cols g.cols
def insC (x y : Clm) : Bool := subS x.sgs y.sgs && allB x.ce.length fun j => subI (x.ce.getD j []) (y.ce.getD j [])
def insB (f g : Lf) : Bool := allB f.cols.length fun i => insC (f.cols.getD i default) (g.cols.getD i default)
theorem eqC_len {p : Clm → Clm → Bool} {a b : List Clm} (h : a.length ≠ b.length) : eqC p a b = false := by rw [eqC, decide_eq_false h, Bool.false_and]
theorem eqC_bad {p : Clm → Clm → Bool} {a b : List Clm} {k : Nat} (hk : k < a.length) (h : p (a.getD k default) (b.getD k default) = false) : eqC p a b = false := by rw [eqC, allB_false hk h, Bool.and_false]
theorem eqC_all {p : Clm → Clm → Bool} {a b : List Clm} (h : a.length = b.length) (hI : ∀ i, i < a.length → p (a.getD i default) (b.getD i default) = true) : eqC p a b = true := by rw [eqC, decide_eq_true h, allB_true hI]; rfl
theorem equalC_fn (a b : List Clm) (p : Clm → Clm → Bool) {f : FuncId} {cs : List V} (hc : callable Tryz.prog f = true) (hp : V.pures cs = true) (hn : V.norms cs = cs) (hf : ∀ x y : Clm, Fn Tryz.prog Gd f (.agg x.cells :: .agg y.cells :: cs) (vbool (p x y))) (hl : a.length ≤ 17592186044416) :
    Fn Tryz.prog Gd 166 [tL Clm.cells a, tL Clm.cells b, .fn f cs] (vbool (eqC p a b)) := by
  refine Fn.of_vx0 k_slices_EqualFunc_api_Column_api_Column_api_Column_api_Column (by simp) (by rw [V.pures, pure_tL, V.pures, pure_tL, V.pures, V.pure, hp]; rfl) ?_
  unfold c_slices_EqualFunc_api_Column_api_Column_api_Column_api_Column
  replace hc := Hid.mk hc
  replace hp := Hid.mk hp
  replace hf := Hid.mk hf
  by_cases h1 : a.length = b.length
  case neg =>
    have c1 : ((a.length : Int) == (b.length : Int)) = false := by rw [beq_eq_false_iff_ne]; omega
    rw [eqC_len h1]
    clear h1
    repeat' (with_reducible first | refine x_ops ?_ | refine wk ?_ | ((first | refine gd1 ?_ ?_ | refine gd2 ?_ ?_ | refine gd3 ?_ ?_) <;> (first | exact @False.elim _ | intro hc)))
    exact finV_lit vv rfl
  have c1 : ((a.length : Int) == (b.length : Int)) = true := by rw [beq_iff_eq]; omega
  have h10 := Hid.mk h1
  clear h1
  repeat' (with_reducible first | refine x_ops ?_ | refine wk ?_ | ((first | refine gd1 ?_ ?_ | refine gd2 ?_ ?_ | refine gd3 ?_ ?_) <;> (first | exact @False.elim _ | intro hc)))
  clear c1
  refine x_loopW w_slices_EqualFunc_api_Column_api_Column_api_Column_api_Column_p10 kr a.length (fun k t m => t 17 = vint k ∧ ∀ i, i < k → p (a.getD i default) (b.getD i default) = true) ?_ ?_
  · exact ⟨vv, fun i h => by omega⟩
  rintro k t m hk ⟨h17, hI⟩
  replace hI := Hid.mk hI
  by_cases hlt : k < a.length
  · have g1 := clm_take (l := a) (k := k) hlt
    have g2 := clms_len a
    have g3 := clm_take (l := b) (k := k) (by have := h10.out; omega)
    have g4 := clms_len b
    have c2 : (k : Int) < (a.length : Int) := by omega
    have c3 : k * 4 + 4 ≤ a.length * 4 := by omega
    have c4 : (k : Int) < (b.length : Int) := by have := h10.out; omega
    have c5 : k * 4 + 4 ≤ b.length * 4 := by have := h10.out; omega
    have w2 := w_add1 (k := k) (by omega)
    have hx := hf.out (a.getD k default) (b.getD k default)
    have hlt0 := Hid.mk hlt
    cases hb : p (a.getD k default) (b.getD k default)
    · rw [hb] at hx
      rw [eqC_bad hlt hb]
      clear hlt hk hb
      repeat' (with_reducible first | refine x_ops ?_ | refine wk ?_ | (with_reducible refine xcv hx hc.out ?_) | ((first | refine gd1 ?_ ?_ | refine gd2 ?_ ?_ | refine gd3 ?_ ?_) <;> (first | exact @False.elim _ | intro hc)))
      exact finV_lit vv rfl
    · rw [hb] at hx
      replace hb := Hid.mk hb
      clear hlt hk
      repeat' (with_reducible first | refine x_ops ?_ | refine wk ?_ | (with_reducible refine xcv hx hc.out ?_) | ((first | refine gd1 ?_ ?_ | refine gd2 ?_ ?_ | refine gd3 ?_ ?_) <;> (first | exact @False.elim _ | intro hc)))
      refine nx hlt0.out ⟨vv, fun i h => ?_⟩
      by_cases hi : i = k
      · subst hi; exact hb.out
      · exact hI.out i (by omega)
  · have c2 : ¬ ((k : Int) < (a.length : Int)) := by omega
    rw [eqC_all h10.out fun i hi => hI.out i (by omega)]
    clear hlt hk
    repeat' (with_reducible first | refine x_ops ?_ | refine wk ?_ | ((first | refine gd1 ?_ ?_ | refine gd2 ?_ ?_ | refine gd3 ?_ ?_) <;> (first | exact @False.elim _ | intro hc)))
    exact finV_lit vv rfl
theorem shaped1_fn (x y : Clm) : Fn Tryz.prog Gd 167 [.agg x.cells, .agg y.cells] (vbool (shpC x y)) := by
  refine Fn.of_vx0 k_leaf_shaped_1 (by simp) (by rw [show V.agg x.cells = x.val from rfl, show V.agg y.cells = y.val from rfl, V.pures, pure_clm, V.pures, pure_clm]; rfl) ?_
  unfold c_leaf_shaped_1
  rw [shpC]
  obtain ⟨b, ti, sgs, ce⟩ := x
  obtain ⟨b', ti', sgs', ce'⟩ := y
  cases hq : (b == b') with
  | false =>
    repeat' (with_reducible first | refine x_ops ?_ | simp only [go_sem, Nat.reduceAdd, Nat.reduceEqDiff, Nat.reduceLT, Nat.reduceLeDiff, Nat.reduceMul, Nat.reduceSub, Nat.reducePow, Nat.reduceDiv, Nat.reduceMod, Nat.reduceBEq, Int.reduceBEq, Int.reduceLT, reduceIte, tIs, tBs, tPs, Bool.false_and, *] | ((first | refine gd1 ?_ ?_ | refine gd2 ?_ ?_ | refine gd3 ?_ ?_) <;> (first | exact @False.elim _ | intro hc)))
    exact finV_lit vv rfl
  | true =>
    cases hq2 : (ti == ti') with
    | false =>
      repeat' (with_reducible first | refine x_ops ?_ | simp only [go_sem, Nat.reduceAdd, Nat.reduceEqDiff, Nat.reduceLT, Nat.reduceLeDiff, Nat.reduceMul, Nat.reduceSub, Nat.reducePow, Nat.reduceDiv, Nat.reduceMod, Nat.reduceBEq, Int.reduceBEq, Int.reduceLT, reduceIte, tIs, tBs, tPs, Bool.true_and, *] | ((first | refine gd1 ?_ ?_ | refine gd2 ?_ ?_ | refine gd3 ?_ ?_) <;> (first | exact @False.elim _ | intro hc)))
      exact finV_lit vv rfl
    | true =>
      repeat' (with_reducible first | refine x_ops ?_ | simp only [go_sem, Nat.reduceAdd, Nat.reduceEqDiff, Nat.reduceLT, Nat.reduceLeDiff, Nat.reduceMul, Nat.reduceSub, Nat.reducePow, Nat.reduceDiv, Nat.reduceMod, Nat.reduceBEq, Int.reduceBEq, Int.reduceLT, reduceIte, tIs, tBs, tPs, Bool.true_and, *] | ((first | refine gd1 ?_ ?_ | refine gd2 ?_ ?_ | refine gd3 ?_ ?_) <;> (first | exact @False.elim _ | intro hc)))
      exact finV_lit vv rfl
theorem shaped_fn (f g : Lf) (h1 : f.ins.cs.length ≤ 17592186044416) (h2 : f.ins.st.length ≤ 17592186044416) (h3 : f.cols.length ≤ 17592186044416) : Fn Tryz.prog Gd 95 [f.val, g.val] (vbool (shpB f g)) := by
  refine Fn.of_vx0 k_leaf_shaped (by simp) (by rw [V.pures, pure_lf, V.pures, pure_lf]; rfl) ?_
  have I := isameI_fn f.ins g.ins h1 h2
  have E := equalC_fn f.cols g.cols shpC (f := 167) (cs := []) kr rfl rfl (fun x y => shaped1_fn x y) h3
  rw [shpB]
  generalize eqC shpC f.cols g.cols = e at *
  generalize decide (f.ins = g.ins) = d at *
  clear h1 h2 h3
  obtain ⟨⟨fc, fst⟩, fl⟩ := f
  obtain ⟨⟨gc, gst⟩, gl⟩ := g
  unfold c_leaf_shaped
  cases d with
  | false =>
    repeat' (with_reducible first | refine x_ops ?_ | refine wk ?_ | (with_reducible refine xc (I) ?_) | (with_reducible refine xc (E) ?_) | ((first | refine gd1 ?_ ?_ | refine gd2 ?_ ?_ | refine gd3 ?_ ?_) <;> (first | exact @False.elim _ | intro hc)))
    exact finV_lit vv rfl
  | true =>
    rw [Bool.true_and]
    repeat' (with_reducible first | refine x_ops ?_ | refine wk ?_ | (with_reducible refine xc (I) ?_) | (with_reducible refine xc (E) ?_) | ((first | refine gd1 ?_ ?_ | refine gd2 ?_ ?_ | refine gd3 ?_ ?_) <;> (first | exact @False.elim _ | intro hc)))
    exact finV_lit vv rfl
end Go.Proofs.YtdefefeifcdogaaGreat
namespace Go.Proofs.YtdefefeifcdogaaGreat
open Go.RowKit
set_option linter.unusedSimpArgs false
set_option linter.unusedVariables false

theorem insB_bad {f g : Lf} {k : Nat} (hk : k < f.cols.length) (h : insC (f.cols.getD k default) (g.cols.getD k default) = false) : insB f g = false := by rw [insB, allB_false hk h]
theorem insB_all {f g : Lf} (hI : ∀ i, i < f.cols.length → insC (f.cols.getD i default) (g.cols.getD i default) = true) : insB f g = true := by rw [insB, allB_true hI]
theorem insC_sg {x y : Clm} (h : subS x.sgs y.sgs = false) : insC x y = false := by rw [insC, h, Bool.false_and]
theorem insC_ce {x y : Clm} {j : Nat} (hj : j < x.ce.length) (h : subI (x.ce.getD j []) (y.ce.getD j []) = false) : insC x y = false := by rw [insC, allB_false hj h, Bool.and_false]
theorem insC_all {x y : Clm} (h : subS x.sgs y.sgs = true) (hI : ∀ j, j < x.ce.length → subI (x.ce.getD j []) (y.ce.getD j []) = true) : insC x y = true := by rw [insC, h, allB_true hI]; rfl
/-- What the comparison of two leaves needs. -/
structure TwoSm (f g : Lf) : Prop where
  a : LfSm f
  b : LfSm g
  n : f.cols.length ≤ g.cols.length
  c : ∀ i, i < f.cols.length → (f.cols.getD i default).ce.length ≤ (g.cols.getD i default).ce.length
set_option maxHeartbeats 1000000 in
theorem inside_fn (f g : Lf) (hs : TwoSm f g) : Fn Tryz.prog Gd 88 [f.val, g.val] (vbool (insB f g)) := by
  refine Fn.of_vx0 k_leaf_inside (by simp) (by rw [V.pures, pure_lf, V.pures, pure_lf]; rfl) ?_
  unfold c_leaf_inside
  have hs0 := Hid.mk hs
  have hn := hs.a.n
  clear hs
  repeat' (with_reducible first | refine x_ops ?_ | refine wk ?_ | ((first | refine gd1 ?_ ?_ | refine gd2 ?_ ?_ | refine gd3 ?_ ?_) <;> (first | exact @False.elim _ | intro hc)))
  refine x_loopW w_leaf_inside_p12 kr f.cols.length (fun k t m => t 12 = vint k ∧ (∀ i, i < k → insC (f.cols.getD i default) (g.cols.getD i default) = true) ∧ (m.obj 1 = some (.box [.sl g.ins.cs.length (g.ins.cs.flatMap Crs.cells) .no, .sl g.ins.st.length (g.ins.st.map vint) .no, .sl g.cols.length (g.cols.flatMap Clm.cells) .no] 28) ∧ 1 < m.next)) ?_ ?_
  · exact ⟨vv, fun i h => by omega, vv, by show 1 < 3; omega⟩
  rintro k t m hk ⟨h12, hI, hm1, hmn⟩
  replace hI := Hid.mk hI
  by_cases hlt : k < f.cols.length
  case neg =>
    have c1 : ¬ (k : Int) < (f.cols.length : Int) := by omega
    rw [insB_all fun i hi => hI.out i (by omega)]
    clear hlt hk
    repeat' (with_reducible first | refine x_ops ?_ | refine wk ?_ | ((first | refine gd1 ?_ ?_ | refine gd2 ?_ ?_ | refine gd3 ?_ ?_) <;> (first | exact @False.elim _ | intro hc)))
    exact finV_lit vv rfl
  have hkg : k < g.cols.length := by have := hs0.out.n; omega
  have g1 := clm_take (l := f.cols) (k := k) hlt
  have g2 := clms_len f.cols
  have g3 := clm_take (l := g.cols) (k := k) hkg
  have g4 := clms_len g.cols
  have q2 := clm_at2 (l := g.cols) (k := k) hkg
  have q3 := clm_at3 (l := g.cols) (k := k) hkg
  have c1 : (k : Int) < (f.cols.length : Int) := by omega
  have c2 : (k : Int) < (g.cols.length : Int) := by omega
  have c3 : k * 4 + 4 ≤ f.cols.length * 4 := by omega
  have c4 : k * 4 + 4 ≤ g.cols.length * 4 := by omega
  have w1 := w_add1 (k := k) (by omega)
  have n1 : 1 < m.next + 6 := by omega
  have hcx := hs0.out.a.c k hlt
  have hcy := hs0.out.b.c k hkg
  have hle := hs0.out.c k hlt
  have hbad : insC (f.cols.getD k default) (g.cols.getD k default) = false → insB f g = false := insB_bad hlt
  have hgood : insC (f.cols.getD k default) (g.cols.getD k default) = true → ∀ i, i < k + 1 → insC (f.cols.getD i default) (g.cols.getD i default) = true := fun h i hi => by
    by_cases e : i = k
    · subst e; exact h
    · exact hI.out i (by omega)
  have hlt0 := Hid.mk hlt
  have hmn0 := Hid.mk hmn
  generalize f.cols.getD k default = x at *
  generalize g.cols.getD k default = y at *
  obtain ⟨xb, xt, xs, xe⟩ := x
  obtain ⟨yb, yt, ys, ye⟩ := y
  have S := subS_fn xs ys hcx.ls hcy.ls
  rw [tL, tL] at S
  have hlc : xe.length ≤ 17592186044416 := hcx.lc
  have hle1 : xe.length ≤ ye.length := hle
  have hx1 : ∀ i, i < xe.length → (xe.getD i []).length ≤ 17592186044416 := hcx.le
  have hy1 : ∀ i, i < ye.length → (ye.getD i []).length ≤ 17592186044416 := hcy.le
  replace hlc := Hid.mk hlc
  replace hle := Hid.mk hle1
  replace hx1 := Hid.mk hx1
  replace hy1 := Hid.mk hy1
  replace hbad := Hid.mk hbad
  replace hgood := Hid.mk hgood
  clear hlt hk hcx hcy hkg hle1
  have hm10 := Hid.mk hm1
  cases hq : subS xs ys with
  | false =>
    rw [hq] at S
    rw [hbad.out (insC_sg hq)]
    clear hq
    repeat' (with_reducible first | refine x_ops ?_ | refine wk ?_ | (with_reducible refine xc (S) ?_) | ((first | refine gd1 ?_ ?_ | refine gd2 ?_ ?_ | refine gd3 ?_ ?_) <;> (first | exact @False.elim _ | intro hc)))
    exact finV_lit vv rfl
  | true =>
  rw [hq] at S
  replace hq := Hid.mk hq
  repeat' (with_reducible first | refine x_ops ?_ | refine wk ?_ | (with_reducible refine xc (S) ?_) | ((first | refine gd1 ?_ ?_ | refine gd2 ?_ ?_ | refine gd3 ?_ ?_) <;> (first | exact @False.elim _ | intro hc)))
  clear g1 g2 c3 S
  refine x_loopF w_leaf_inside_p6 kr xe.length (fun j t => t 30 = vint j ∧ ∀ i, i < j → subI (xe.getD i []) (ye.getD i []) = true) ?_ ?_
  · exact ⟨vv, fun i h => by omega⟩
  rintro j t1 hj ⟨h30, hJ⟩
  replace hJ := Hid.mk hJ
  by_cases hlt2 : j < xe.length
  · have g5 := iss_at (l := xe) (k := j) hlt2
    have g6 := iss_at (l := ye) (k := j) (by have := hle.out; omega)
    have d1 : (j : Int) < (xe.length : Int) := by omega
    have d2 : (j : Int) < (ye.length : Int) := by have := hle.out; omega
    have w2 := w_add1 (k := j) (by have := hlc.out; omega)
    have SI := subI_fn (xe.getD j []) (ye.getD j []) (hx1.out j hlt2) (hy1.out j (by have := hle.out; omega))
    have hlt20 := Hid.mk hlt2
    cases hr : subI (xe.getD j []) (ye.getD j []) with
    | false =>
      rw [hr] at SI
      rw [hbad.out (insC_ce (x := ⟨xb, xt, xs, xe⟩) (y := ⟨yb, yt, ys, ye⟩) hlt2 hr)]
      clear hr hlt2 hj
      repeat' (with_reducible first | refine x_ops ?_ | refine wk ?_ | (with_reducible refine xc (SI) ?_) | ((first | refine gd1 ?_ ?_ | refine gd2 ?_ ?_ | refine gd3 ?_ ?_) <;> (first | exact @False.elim _ | intro hc)))
      exact finV_lit vv rfl
    | true =>
      rw [hr] at SI
      replace hr := Hid.mk hr
      clear hlt2 hj
      repeat' (with_reducible first | refine x_ops ?_ | refine wk ?_ | (with_reducible refine xc (SI) ?_) | ((first | refine gd1 ?_ ?_ | refine gd2 ?_ ?_ | refine gd3 ?_ ?_) <;> (first | exact @False.elim _ | intro hc)))
      refine nf hlt20.out ⟨vv, fun i hi => ?_⟩ rfl
      by_cases e : i = j
      · subst e; exact hr.out
      · exact hJ.out i (by omega)
  have d1 : ¬ (j : Int) < (xe.length : Int) := by omega
  have hall : insC ⟨xb, xt, xs, xe⟩ ⟨yb, yt, ys, ye⟩ = true := insC_all hq.out fun i (hi : i < xe.length) => hJ.out i (by omega)
  replace hall := Hid.mk hall
  clear hlt2 hj
  repeat' (with_reducible first | refine x_ops ?_ | refine wk ?_ | ((first | refine gd1 ?_ ?_ | refine gd2 ?_ ?_ | refine gd3 ?_ ?_) <;> (first | exact @False.elim _ | intro hc)))
  have hmnn := hmn0.out
  refine nx hlt0.out ⟨vv, hgood.out hall.out, ?_, by show 1 < m.next + 6; omega⟩
  · (simp only [put_obj]; repeat rw [if_neg (by omega)]); exact hm10.out
end Go.Proofs.YtdefefeifcdogaaGreat
namespace Go.Proofs.YtdefefeifcdogaaGreat
open Go.RowKit
set_option linter.unusedSimpArgs false
set_option linter.unusedVariables false

theorem memS_at {l : List Sg} {s : Sg} {k : Nat} (hk : k < l.length) (h : l.getD k default = s) : memS l s = true := by
  rw [memS, List.any_eq_true]; exact ⟨_, getD_mem hk, decide_eq_true h⟩
theorem memS_none {l : List Sg} {s : Sg} (h : ∀ i, i < l.length → l.getD i default ≠ s) : memS l s = false := by
  rw [← Bool.not_eq_true, memS, List.any_eq_true]; rintro ⟨x, hx, e⟩
  obtain ⟨i, hi, rfl⟩ := List.getElem_of_mem hx
  refine h i hi ?_
  rw [List.getD_eq_getElem?_getD, List.getElem?_eq_getElem hi]; exact of_decide_eq_true e
theorem memI_at {l : List Int} {s : Int} {k : Nat} (hk : k < l.length) (h : l.getD k 0 = s) : memI l s = true := by
  rw [memI, List.any_eq_true]; exact ⟨_, getD_mem (l := l) hk, decide_eq_true h⟩
theorem memI_none {l : List Int} {s : Int} (h : ∀ i, i < l.length → l.getD i 0 ≠ s) : memI l s = false := by
  rw [← Bool.not_eq_true, memI, List.any_eq_true]; rintro ⟨x, hx, e⟩
  obtain ⟨i, hi, rfl⟩ := List.getElem_of_mem hx
  refine h i hi ?_
  rw [List.getD_eq_getElem?_getD, List.getElem?_eq_getElem hi]; exact of_decide_eq_true e
theorem subS_iff {a b : List Sg} : subS a b = true ↔ ∀ i, i < a.length → memS b (a.getD i default) = true := by
  rw [subS, Bool.not_eq_true', ← Bool.not_eq_true, List.any_eq_true]
  refine ⟨fun h i hi => ?_, ?_⟩
  · cases e : memS b (a.getD i default) with
    | true => rfl
    | false => exact absurd ⟨_, getD_mem hi, by rw [e]; rfl⟩ h
  · rintro h ⟨x, hx, e⟩
    obtain ⟨i, hi, rfl⟩ := List.getElem_of_mem hx
    have := h i hi
    rw [List.getD_eq_getElem?_getD, List.getElem?_eq_getElem hi] at this
    rw [show memS b a[i] = true from this] at e
    cases e
theorem subI_iff {a b : List Int} : subI a b = true ↔ ∀ i, i < a.length → memI b (a.getD i 0) = true := by
  rw [subI, Bool.not_eq_true', ← Bool.not_eq_true, List.any_eq_true]
  refine ⟨fun h i hi => ?_, ?_⟩
  · cases e : memI b (a.getD i 0) with
    | true => rfl
    | false => exact absurd ⟨_, getD_mem (l := a) hi, by rw [show a.getD i default = a.getD i 0 from rfl, e]; rfl⟩ h
  · rintro h ⟨x, hx, e⟩
    obtain ⟨i, hi, rfl⟩ := List.getElem_of_mem hx
    have := h i hi
    rw [List.getD_eq_getElem?_getD, List.getElem?_eq_getElem hi] at this
    rw [show memI b a[i] = true from this] at e
    cases e
theorem subS_bad {a b : List Sg} {i : Nat} (hi : i < a.length) (h : memS b (a.getD i default) = false) : subS a b = false := by
  rw [← Bool.not_eq_true, subS_iff]; intro g; rw [g i hi] at h; cases h
theorem subI_bad {a b : List Int} {i : Nat} (hi : i < a.length) (h : memI b (a.getD i 0) = false) : subI a b = false := by
  rw [← Bool.not_eq_true, subI_iff]; intro g; rw [g i hi] at h; cases h
theorem rhasSg_fn (l : List Sg) (s : Sg) (hl : l.length ≤ 17592186044416) : Fn Tryz.prog Gd 67 [tL Sg.cells l, s.val] (vbool (memS l s)) := by
  refine Fn.of_vx0 k_theorboref10_hasSign (by simp) (by rw [V.pures, pure_tL, V.pures, pure_sg]; rfl) ?_
  unfold c_theorboref10_hasSign
  obtain ⟨v, d, tt⟩ := s
  repeat' (with_reducible first | refine x_ops ?_ | refine wk ?_ | ((first | refine gd1 ?_ ?_ | refine gd2 ?_ ?_ | refine gd3 ?_ ?_) <;> (first | exact @False.elim _ | intro hc)))
  refine x_loopF w_theorboref10_hasSign_p4 kr l.length (fun k t => t 5 = vint k ∧ ∀ i, i < k → l.getD i default ≠ ⟨v, d, tt⟩) ?_ ?_
  · exact ⟨vv, fun i h => by omega⟩
  rintro k t hk ⟨h5, hI⟩
  by_cases hlt : k < l.length
  case neg =>
    have c1 : ¬ (k : Int) < (l.length : Int) := by omega
    rw [memS_none fun i hi => hI i (by omega)]
    clear hlt hk hI
    repeat' (with_reducible first | refine x_ops ?_ | refine wk ?_ | ((first | refine gd1 ?_ ?_ | refine gd2 ?_ ?_ | refine gd3 ?_ ?_) <;> (first | exact @False.elim _ | intro hc)))
    exact finV_lit vv rfl
  have g1 := sg_take (l := l) (k := k) hlt
  have g2 := sgs_len l
  have c1 : (k : Int) < (l.length : Int) := by omega
  have c3 : k * 3 + 3 ≤ l.length * 3 := by omega
  have w1 := w_add1 (k := k) (by omega)
  have hlt0 := Hid.mk hlt
  have hI2 : l.getD k default ≠ ⟨v, d, tt⟩ → ∀ i, i < k + 1 → l.getD i default ≠ ⟨v, d, tt⟩ := fun h i hi => by
    by_cases e : i = k
    · subst e; exact h
    · exact hI i (by omega)
  have hhit : l.getD k default = ⟨v, d, tt⟩ → memS l ⟨v, d, tt⟩ = true := fun h => memS_at hlt h
  replace hI2 := Hid.mk hI2
  replace hhit := Hid.mk hhit
  clear hlt hk hI
  generalize l.getD k default = x at *
  obtain ⟨v', d', tt'⟩ := x
  by_cases e1 : v' = v
  case neg =>
    have d1 : (v' == v) = false := by rw [beq_eq_false_iff_ne]; exact e1
    have hI3 := hI2.out (fun e => e1 (by injection e))
    replace hI3 := Hid.mk hI3
    clear e1 hI2 hhit
    repeat' (with_reducible first | refine x_ops ?_ | simp only [go_sem, Nat.reduceAdd, Nat.reduceEqDiff, Nat.reduceLT, Nat.reduceLeDiff, Nat.reduceMul, Nat.reduceSub, Nat.reducePow, Nat.reduceDiv, Nat.reduceMod, Nat.reduceBEq, Int.reduceBEq, Int.reduceLT, reduceIte, tIs, tBs, tPs, Bool.false_and, *] | ((first | refine gd1 ?_ ?_ | refine gd2 ?_ ?_ | refine gd3 ?_ ?_) <;> (first | exact @False.elim _ | intro hc)))
    exact nf hlt0.out ⟨vv, hI3.out⟩ rfl
  subst e1
  by_cases e1 : d' = d
  case neg =>
    have d1 : (d' == d) = false := by rw [beq_eq_false_iff_ne]; exact e1
    have hI3 := hI2.out (fun e => e1 (by injection e))
    replace hI3 := Hid.mk hI3
    clear e1 hI2 hhit
    repeat' (with_reducible first | refine x_ops ?_ | simp only [go_sem, Nat.reduceAdd, Nat.reduceEqDiff, Nat.reduceLT, Nat.reduceLeDiff, Nat.reduceMul, Nat.reduceSub, Nat.reducePow, Nat.reduceDiv, Nat.reduceMod, Nat.reduceBEq, Int.reduceBEq, Int.reduceLT, reduceIte, tIs, tBs, tPs, Bool.false_and, Bool.true_and, *] | ((first | refine gd1 ?_ ?_ | refine gd2 ?_ ?_ | refine gd3 ?_ ?_) <;> (first | exact @False.elim _ | intro hc)))
    exact nf hlt0.out ⟨vv, hI3.out⟩ rfl
  subst e1
  by_cases e1 : tt' = tt
  case neg =>
    have d1 : (tt' == tt) = false := by rw [beq_eq_false_iff_ne]; exact e1
    have hI3 := hI2.out (fun e => e1 (by injection e))
    replace hI3 := Hid.mk hI3
    clear e1 hI2 hhit
    repeat' (with_reducible first | refine x_ops ?_ | simp only [go_sem, Nat.reduceAdd, Nat.reduceEqDiff, Nat.reduceLT, Nat.reduceLeDiff, Nat.reduceMul, Nat.reduceSub, Nat.reducePow, Nat.reduceDiv, Nat.reduceMod, Nat.reduceBEq, Int.reduceBEq, Int.reduceLT, reduceIte, tIs, tBs, tPs, Bool.false_and, Bool.true_and, *] | ((first | refine gd1 ?_ ?_ | refine gd2 ?_ ?_ | refine gd3 ?_ ?_) <;> (first | exact @False.elim _ | intro hc)))
    exact nf hlt0.out ⟨vv, hI3.out⟩ rfl
  subst e1
  have hq := hhit.out rfl
  rw [hq]
  clear hI2 hhit hq
  repeat' (with_reducible first | refine x_ops ?_ | simp only [go_sem, Nat.reduceAdd, Nat.reduceEqDiff, Nat.reduceLT, Nat.reduceLeDiff, Nat.reduceMul, Nat.reduceSub, Nat.reducePow, Nat.reduceDiv, Nat.reduceMod, Nat.reduceBEq, Int.reduceBEq, Int.reduceLT, reduceIte, tIs, tBs, tPs, Bool.true_and, *] | ((first | refine gd1 ?_ ?_ | refine gd2 ?_ ?_ | refine gd3 ?_ ?_) <;> (first | exact @False.elim _ | intro hc)))
  exact finV_lit vv rfl
theorem rhasIn_fn (l : List Int) (n : Int) (hl : l.length ≤ 17592186044416) : Fn Tryz.prog Gd 68 [tIs l, vint n] (vbool (memI l n)) := by
  refine Fn.of_vx0 k_theorboref10_hasInt (by simp) (by rw [V.pures, pure_tIs, V.pures, vint, V.pure]; rfl) ?_
  unfold c_theorboref10_hasInt
  repeat' (with_reducible first | refine x_ops ?_ | refine wk ?_ | ((first | refine gd1 ?_ ?_ | refine gd2 ?_ ?_ | refine gd3 ?_ ?_) <;> (first | exact @False.elim _ | intro hc)))
  refine x_loopF w_theorboref10_hasInt_p4 kr l.length (fun k t => t 5 = vint k ∧ ∀ i, i < k → l.getD i 0 ≠ n) ?_ ?_
  · exact ⟨vv, fun i h => by omega⟩
  rintro k t hk ⟨h5, hI⟩
  by_cases hlt : k < l.length
  case neg =>
    have c1 : ¬ (k : Int) < (l.length : Int) := by omega
    rw [memI_none fun i hi => hI i (by omega)]
    clear hlt hk hI
    repeat' (with_reducible first | refine x_ops ?_ | refine wk ?_ | ((first | refine gd1 ?_ ?_ | refine gd2 ?_ ?_ | refine gd3 ?_ ?_) <;> (first | exact @False.elim _ | intro hc)))
    exact finV_lit vv rfl
  have g1 := ints_at (l := l) (k := k) hlt
  have c1 : (k : Int) < (l.length : Int) := by omega
  have w1 := w_add1 (k := k) (by omega)
  have hlt0 := Hid.mk hlt
  by_cases e1 : l.getD k 0 = n
  · have hq := memI_at hlt e1
    have d1 : (l.getD k 0 == n) = true := by rw [beq_iff_eq]; exact e1
    rw [hq]
    clear hlt hk hI hq e1
    repeat' (with_reducible first | refine x_ops ?_ | refine wk ?_ | ((first | refine gd1 ?_ ?_ | refine gd2 ?_ ?_ | refine gd3 ?_ ?_) <;> (first | exact @False.elim _ | intro hc)))
    exact finV_lit vv rfl
  · have d1 : (l.getD k 0 == n) = false := by rw [beq_eq_false_iff_ne]; exact e1
    have hI3 : ∀ i, i < k + 1 → l.getD i 0 ≠ n := fun i hi => by
      by_cases e : i = k
      · subst e; exact e1
      · exact hI i (by omega)
    replace hI3 := Hid.mk hI3
    clear hlt hk hI e1
    repeat' (with_reducible first | refine x_ops ?_ | refine wk ?_ | ((first | refine gd1 ?_ ?_ | refine gd2 ?_ ?_ | refine gd3 ?_ ?_) <;> (first | exact @False.elim _ | intro hc)))
    exact nf hlt0.out ⟨vv, hI3.out⟩ rfl
set_option maxHeartbeats 1000000 in
theorem rshape_fn (f g : Lf) (h1 : f.ins.cs.length ≤ 17592186044416) (h2 : f.ins.st.length ≤ 17592186044416) (h3 : f.cols.length ≤ 17592186044416) : Fn Tryz.prog Gd 96 [f.val, g.val] (vbool (shpB f g)) := by
  refine Fn.of_vx0 k_theorboref10_shape (by simp) (by rw [V.pures, pure_lf, V.pures, pure_lf]; rfl) ?_
  have I := rsameI_fn f.ins g.ins h1 h2
  rw [shpB]
  generalize decide (f.ins = g.ins) = d at *
  clear h1 h2
  obtain ⟨⟨fc, fst⟩, fl⟩ := f
  obtain ⟨⟨gc, gst⟩, gl⟩ := g
  replace h3 : fl.length ≤ 17592186044416 := h3
  unfold c_theorboref10_shape
  cases d with
  | false =>
    rw [Bool.false_and]
    repeat' (with_reducible first | refine x_ops ?_ | refine wk ?_ | (with_reducible refine xc (I) ?_) | ((first | refine gd1 ?_ ?_ | refine gd2 ?_ ?_ | refine gd3 ?_ ?_) <;> (first | exact @False.elim _ | intro hc)))
    exact finV_lit vv rfl
  | true =>
  rw [Bool.true_and]
  by_cases hl : fl.length = gl.length
  case neg =>
    have c1 : ((fl.length : Int) == (gl.length : Int)) = false := by rw [beq_eq_false_iff_ne]; omega
    rw [show eqC shpC (Lf.cols ⟨⟨fc, fst⟩, fl⟩) (Lf.cols ⟨⟨gc, gst⟩, gl⟩) = false from eqC_len hl]
    clear hl
    repeat' (with_reducible first | refine x_ops ?_ | refine wk ?_ | (with_reducible refine xc (I) ?_) | ((first | refine gd1 ?_ ?_ | refine gd2 ?_ ?_ | refine gd3 ?_ ?_) <;> (first | exact @False.elim _ | intro hc)))
    exact finV_lit vv rfl
  have c1 : ((fl.length : Int) == (gl.length : Int)) = true := by rw [beq_iff_eq]; omega
  have hl0 := Hid.mk hl
  rw [show Lf.cols ⟨⟨fc, fst⟩, fl⟩ = fl from rfl, show Lf.cols ⟨⟨gc, gst⟩, gl⟩ = gl from rfl]
  clear hl
  repeat' (with_reducible first | refine x_ops ?_ | refine wk ?_ | (with_reducible refine xc (I) ?_) | ((first | refine gd1 ?_ ?_ | refine gd2 ?_ ?_ | refine gd3 ?_ ?_) <;> (first | exact @False.elim _ | intro hc)))
  clear c1 I
  refine x_loopF w_theorboref10_shape_p5 kr fl.length (fun k t => t 5 = vint k ∧ ∀ i, i < k → shpC (fl.getD i default) (gl.getD i default) = true) ?_ ?_
  · exact ⟨vv, fun i h => by omega⟩
  rintro k t hk ⟨h5, hI⟩
  replace hI := Hid.mk hI
  by_cases hlt : k < fl.length
  case neg =>
    have c1 : ¬ (k : Int) < (fl.length : Int) := by omega
    rw [eqC_all hl0.out fun i hi => hI.out i (by omega)]
    clear hlt hk
    repeat' (with_reducible first | refine x_ops ?_ | refine wk ?_ | ((first | refine gd1 ?_ ?_ | refine gd2 ?_ ?_ | refine gd3 ?_ ?_) <;> (first | exact @False.elim _ | intro hc)))
    exact finV_lit vv rfl
  have hkg : k < gl.length := by have := hl0.out; omega
  have a0 := clm_at0 (l := fl) (k := k) hlt
  have a1 := clm_at1 (l := fl) (k := k) hlt
  have b0 := clm_at0 (l := gl) (k := k) hkg
  have b1 := clm_at1 (l := gl) (k := k) hkg
  have g2 := clms_len fl
  have g4 := clms_len gl
  have c1 : (k : Int) < (fl.length : Int) := by omega
  have c2 : (k : Int) < (gl.length : Int) := by omega
  have c3 : k * 4 + 4 ≤ fl.length * 4 := by omega
  have c4 : k * 4 + 4 ≤ gl.length * 4 := by omega
  have w1 := w_add1 (k := k) (by omega)
  have hbad : shpC (fl.getD k default) (gl.getD k default) = false → eqC shpC fl gl = false := eqC_bad hlt
  have hgood : shpC (fl.getD k default) (gl.getD k default) = true → ∀ i, i < k + 1 → shpC (fl.getD i default) (gl.getD i default) = true := fun h i hi => by
    by_cases e : i = k
    · subst e; exact h
    · exact hI.out i (by omega)
  replace hbad := Hid.mk hbad
  replace hgood := Hid.mk hgood
  have hlt0 := Hid.mk hlt
  generalize fl.getD k default = x at *
  generalize gl.getD k default = y at *
  obtain ⟨b, ti, sgs, ce⟩ := x
  obtain ⟨b', ti', sgs', ce'⟩ := y
  clear hlt hk hkg
  cases hq : (b == b') with
  | false =>
    rw [hbad.out (show ((b == b') && (ti == ti')) = false by rw [hq]; rfl)]
    repeat' (with_reducible first | refine x_ops ?_ | simp only [go_sem, Nat.reduceAdd, Nat.reduceEqDiff, Nat.reduceLT, Nat.reduceLeDiff, Nat.reduceMul, Nat.reduceSub, Nat.reducePow, Nat.reduceDiv, Nat.reduceMod, Nat.reduceBEq, Int.reduceBEq, Int.reduceLT, reduceIte, tIs, tBs, tPs, Bool.false_and, *] | ((first | refine gd1 ?_ ?_ | refine gd2 ?_ ?_ | refine gd3 ?_ ?_) <;> (first | exact @False.elim _ | intro hc)))
    exact finV_lit vv rfl
  | true =>
  cases hq2 : (ti == ti') with
  | false =>
    rw [hbad.out (show ((b == b') && (ti == ti')) = false by rw [hq, hq2]; rfl)]
    repeat' (with_reducible first | refine x_ops ?_ | simp only [go_sem, Nat.reduceAdd, Nat.reduceEqDiff, Nat.reduceLT, Nat.reduceLeDiff, Nat.reduceMul, Nat.reduceSub, Nat.reducePow, Nat.reduceDiv, Nat.reduceMod, Nat.reduceBEq, Int.reduceBEq, Int.reduceLT, reduceIte, tIs, tBs, tPs, Bool.false_and, *] | ((first | refine gd1 ?_ ?_ | refine gd2 ?_ ?_ | refine gd3 ?_ ?_) <;> (first | exact @False.elim _ | intro hc)))
    exact finV_lit vv rfl
  | true =>
    have hg := Hid.mk (hgood.out (show ((b == b') && (ti == ti')) = true by rw [hq, hq2]; rfl))
    repeat' (with_reducible first | refine x_ops ?_ | simp only [go_sem, Nat.reduceAdd, Nat.reduceEqDiff, Nat.reduceLT, Nat.reduceLeDiff, Nat.reduceMul, Nat.reduceSub, Nat.reducePow, Nat.reduceDiv, Nat.reduceMod, Nat.reduceBEq, Int.reduceBEq, Int.reduceLT, reduceIte, tIs, tBs, tPs, Bool.false_and, *] | ((first | refine gd1 ?_ ?_ | refine gd2 ?_ ?_ | refine gd3 ?_ ?_) <;> (first | exact @False.elim _ | intro hc)))
    exact nf hlt0.out ⟨vv, hg.out⟩ rfl
end Go.Proofs.YtdefefeifcdogaaGreat
namespace Go.Proofs.YtdefefeifcdogaaGreat
open Go.RowKit
set_option linter.unusedSimpArgs false
set_option linter.unusedVariables false

set_option maxHeartbeats 2000000 in
theorem rwithin_fn (f g : Lf) (hs : TwoSm f g) : Fn Tryz.prog Gd 97 [f.val, g.val] (vbool (insB f g)) := by
  refine Fn.of_vx0 k_theorboref10_within (by simp) (by rw [V.pures, pure_lf, V.pures, pure_lf]; rfl) ?_
  unfold c_theorboref10_within
  have hs0 := Hid.mk hs
  have hn := hs.a.n
  clear hs
  repeat' (with_reducible first | refine x_ops ?_ | refine wk ?_ | ((first | refine gd1 ?_ ?_ | refine gd2 ?_ ?_ | refine gd3 ?_ ?_) <;> (first | exact @False.elim _ | intro hc)))
  refine x_loopF w_theorboref10_within_p18 kr f.cols.length (fun k t => t 5 = vint k ∧ (∀ i, i < k → insC (f.cols.getD i default) (g.cols.getD i default) = true)) ?_ ?_
  · exact ⟨vv, fun i h => by omega⟩
  rintro k t hk ⟨h5, hI⟩
  replace hI := Hid.mk hI
  by_cases hlt : k < f.cols.length
  case neg =>
    have c1 : ¬ (k : Int) < (f.cols.length : Int) := by omega
    rw [insB_all fun i hi => hI.out i (by omega)]
    clear hlt hk
    repeat' (with_reducible first | refine x_ops ?_ | refine wk ?_ | ((first | refine gd1 ?_ ?_ | refine gd2 ?_ ?_ | refine gd3 ?_ ?_) <;> (first | exact @False.elim _ | intro hc)))
    exact finV_lit vv rfl
  have hkg : k < g.cols.length := by have := hs0.out.n; omega
  have p2 := clm_at2 (l := f.cols) (k := k) hlt
  have p3 := clm_at3 (l := f.cols) (k := k) hlt
  have g2 := clms_len f.cols
  have g4 := clms_len g.cols
  have q2 := clm_at2 (l := g.cols) (k := k) hkg
  have q3 := clm_at3 (l := g.cols) (k := k) hkg
  have c1 : (k : Int) < (f.cols.length : Int) := by omega
  have c2 : (k : Int) < (g.cols.length : Int) := by omega
  have c3 : k * 4 + 4 ≤ f.cols.length * 4 := by omega
  have c4 : k * 4 + 4 ≤ g.cols.length * 4 := by omega
  have w1 := w_add1 (k := k) (by omega)
  have hcx := hs0.out.a.c k hlt
  have hcy := hs0.out.b.c k hkg
  have hle := hs0.out.c k hlt
  have hbad : insC (f.cols.getD k default) (g.cols.getD k default) = false → insB f g = false := insB_bad hlt
  have hgood : insC (f.cols.getD k default) (g.cols.getD k default) = true → ∀ i, i < k + 1 → insC (f.cols.getD i default) (g.cols.getD i default) = true := fun h i hi => by
    by_cases e : i = k
    · subst e; exact h
    · exact hI.out i (by omega)
  have hlt0 := Hid.mk hlt
  generalize f.cols.getD k default = x at *
  generalize g.cols.getD k default = y at *
  obtain ⟨xb, xt, xs, xe⟩ := x
  obtain ⟨yb, yt, ys, ye⟩ := y
  have hls : xs.length ≤ 17592186044416 := hcx.ls
  have hly : ys.length ≤ 17592186044416 := hcy.ls
  have hlc : xe.length ≤ 17592186044416 := hcx.lc
  have hle1 : xe.length ≤ ye.length := hle
  have hx1 : ∀ i, i < xe.length → (xe.getD i []).length ≤ 17592186044416 := hcx.le
  have hy1 : ∀ i, i < ye.length → (ye.getD i []).length ≤ 17592186044416 := hcy.le
  replace hls := Hid.mk hls
  replace hly := Hid.mk hly
  replace hlc := Hid.mk hlc
  replace hle := Hid.mk hle1
  replace hx1 := Hid.mk hx1
  replace hy1 := Hid.mk hy1
  replace hbad := Hid.mk hbad
  replace hgood := Hid.mk hgood
  clear hlt hk hcx hcy hkg hle1
  repeat' (with_reducible first | refine x_ops ?_ | refine wk ?_ | ((first | refine gd1 ?_ ?_ | refine gd2 ?_ ?_ | refine gd3 ?_ ?_) <;> (first | exact @False.elim _ | intro hc)))
  refine x_loopF w_theorboref10_within_p4 kr xs.length (fun j t => t 6 = vint j ∧ ∀ i, i < j → memS ys (xs.getD i default) = true) ?_ ?_
  · exact ⟨vv, fun i h => by omega⟩
  rintro j t1 hj ⟨h6, hJ⟩
  replace hJ := Hid.mk hJ
  by_cases hlt2 : j < xs.length
  · have g5 := sg_take (l := xs) (k := j) hlt2
    have g6 := sgs_len xs
    have d1 : (j : Int) < (xs.length : Int) := by omega
    have d3 : j * 3 + 3 ≤ xs.length * 3 := by omega
    have w2 := w_add1 (k := j) (by have := hls.out; omega)
    have H := rhasSg_fn ys (xs.getD j default) hly.out
    rw [tL] at H
    have hlt20 := Hid.mk hlt2
    cases hr : memS ys (xs.getD j default) with
    | false =>
      rw [hr] at H
      rw [hbad.out (insC_sg (x := ⟨xb, xt, xs, xe⟩) (y := ⟨yb, yt, ys, ye⟩) (subS_bad hlt2 hr))]
      clear hr hlt2 hj
      generalize xs.getD j default = s at *
      obtain ⟨v, d, tt⟩ := s
      repeat' (with_reducible first | refine x_ops ?_ | refine wk ?_ | (with_reducible refine xc (H) ?_) | ((first | refine gd1 ?_ ?_ | refine gd2 ?_ ?_ | refine gd3 ?_ ?_) <;> (first | exact @False.elim _ | intro hc)))
      exact finV_lit vv rfl
    | true =>
      rw [hr] at H
      have hr' : ∀ i, i < j + 1 → memS ys (xs.getD i default) = true := fun i hi => by
        by_cases e : i = j
        · subst e; exact hr
        · exact hJ.out i (by omega)
      replace hr' := Hid.mk hr'
      clear hlt2 hj hr
      generalize xs.getD j default = s at *
      obtain ⟨v, d, tt⟩ := s
      repeat' (with_reducible first | refine x_ops ?_ | refine wk ?_ | (with_reducible refine xc (H) ?_) | ((first | refine gd1 ?_ ?_ | refine gd2 ?_ ?_ | refine gd3 ?_ ?_) <;> (first | exact @False.elim _ | intro hc)))
      exact nf hlt20.out ⟨vv, hr'.out⟩ rfl
  have d1 : ¬ (j : Int) < (xs.length : Int) := by omega
  have hS : subS xs ys = true := subS_iff.2 fun i hi => hJ.out i (by omega)
  replace hS := Hid.mk hS
  clear hlt2 hj hJ
  repeat' (with_reducible first | refine x_ops ?_ | refine wk ?_ | ((first | refine gd1 ?_ ?_ | refine gd2 ?_ ?_ | refine gd3 ?_ ?_) <;> (first | exact @False.elim _ | intro hc)))
  clear d1 h6
  refine x_loopF w_theorboref10_within_p13 kr xe.length (fun j t => t 7 = vint j ∧ ∀ i, i < j → subI (xe.getD i []) (ye.getD i []) = true) ?_ ?_
  · exact ⟨vv, fun i h => by omega⟩
  rintro j t2 hj ⟨h7, hJ⟩
  replace hJ := Hid.mk hJ
  by_cases hlt2 : j < xe.length
  case neg =>
    have d1 : ¬ (j : Int) < (xe.length : Int) := by omega
    have hall : insC ⟨xb, xt, xs, xe⟩ ⟨yb, yt, ys, ye⟩ = true := insC_all hS.out fun i (hi : i < xe.length) => hJ.out i (by omega)
    replace hall := Hid.mk hall
    clear hlt2 hj
    repeat' (with_reducible first | refine x_ops ?_ | refine wk ?_ | ((first | refine gd1 ?_ ?_ | refine gd2 ?_ ?_ | refine gd3 ?_ ?_) <;> (first | exact @False.elim _ | intro hc)))
    exact nf hlt0.out ⟨vv, hgood.out hall.out⟩ rfl
  have g5 := iss_at (l := xe) (k := j) hlt2
  have g6 := iss_at (l := ye) (k := j) (by have := hle.out; omega)
  have d1 : (j : Int) < (xe.length : Int) := by omega
  have d2 : (j : Int) < (ye.length : Int) := by have := hle.out; omega
  have w2 := w_add1 (k := j) (by have := hlc.out; omega)
  have ha := hx1.out j hlt2
  have hb := Hid.mk (hy1.out j (by have := hle.out; omega))
  have hlt20 := Hid.mk hlt2
  have hbad2 : subI (xe.getD j []) (ye.getD j []) = false → insB f g = false := fun h => hbad.out (insC_ce (x := ⟨xb, xt, xs, xe⟩) (y := ⟨yb, yt, ys, ye⟩) hlt2 h)
  have hgood2 : subI (xe.getD j []) (ye.getD j []) = true → ∀ i, i < j + 1 → subI (xe.getD i []) (ye.getD i []) = true := fun h i hi => by
    by_cases e : i = j
    · subst e; exact h
    · exact hJ.out i (by omega)
  replace hbad2 := Hid.mk hbad2
  replace hgood2 := Hid.mk hgood2
  generalize xe.getD j [] = a at *
  generalize ye.getD j [] = b at *
  clear hlt2 hj hJ
  have ha0 := Hid.mk ha
  clear ha
  repeat' (with_reducible first | refine x_ops ?_ | refine wk ?_ | ((first | refine gd1 ?_ ?_ | refine gd2 ?_ ?_ | refine gd3 ?_ ?_) <;> (first | exact @False.elim _ | intro hc)))
  refine x_loopF w_theorboref10_within_p9 kr a.length (fun n t => t 8 = vint n ∧ ∀ i, i < n → memI b (a.getD i 0) = true) ?_ ?_
  · exact ⟨vv, fun i h => by omega⟩
  rintro n t3 hj ⟨h8, hK⟩
  replace hK := Hid.mk hK
  by_cases hlt2 : n < a.length
  case neg =>
    have d3 : ¬ (n : Int) < (a.length : Int) := by omega
    have hall : subI a b = true := subI_iff.2 fun i hi => hK.out i (by omega)
    replace hall := Hid.mk hall
    clear hlt2 hj
    repeat' (with_reducible first | refine x_ops ?_ | refine wk ?_ | ((first | refine gd1 ?_ ?_ | refine gd2 ?_ ?_ | refine gd3 ?_ ?_) <;> (first | exact @False.elim _ | intro hc)))
    exact nf hlt20.out ⟨vv, hgood2.out hall.out⟩ rfl
  have g7 := ints_at (l := a) (k := n) hlt2
  have d3 : (n : Int) < (a.length : Int) := by omega
  have w3 := w_add1 (k := n) (by have := ha0.out; omega)
  have H := rhasIn_fn b (a.getD n 0) hb.out
  have hlt30 := Hid.mk hlt2
  cases hr : memI b (a.getD n 0) with
  | false =>
    rw [hr] at H
    rw [hbad2.out (subI_bad hlt2 hr)]
    clear hr hlt2 hj
    generalize a.getD n 0 = v at *
    repeat' (with_reducible first | refine x_ops ?_ | refine wk ?_ | (with_reducible refine xc (H) ?_) | ((first | refine gd1 ?_ ?_ | refine gd2 ?_ ?_ | refine gd3 ?_ ?_) <;> (first | exact @False.elim _ | intro hc)))
    exact finV_lit vv rfl
  | true =>
    rw [hr] at H
    have hr' : ∀ i, i < n + 1 → memI b (a.getD i 0) = true := fun i hi => by
      by_cases e : i = n
      · subst e; exact hr
      · exact hK.out i (by omega)
    replace hr' := Hid.mk hr'
    clear hlt2 hj hr
    generalize a.getD n 0 = v at *
    repeat' (with_reducible first | refine x_ops ?_ | refine wk ?_ | (with_reducible refine xc (H) ?_) | ((first | refine gd1 ?_ ?_ | refine gd2 ?_ ?_ | refine gd3 ?_ ?_) <;> (first | exact @False.elim _ | intro hc)))
    exact nf hlt30.out ⟨vv, hr'.out⟩ rfl
end Go.Proofs.YtdefefeifcdogaaGreat
namespace Go.Proofs.YtdefefeifcdogaaGreat
open Go.RowKit
set_option linter.unusedSimpArgs false
set_option linter.unusedVariables false

/-- The first error of two leaves. -/
noncomputable def twoE (f g : Lf) : Int := if lchk f ≠ 0 then lchk f else if lchk g ≠ 0 then lchk g else if shpB f g = true then 0 else 101
theorem twoE_zero {f g : Lf} (h : twoE f g = 0) : lchk f = 0 ∧ lchk g = 0 ∧ shpB f g = true := by
  unfold twoE at h
  split at h
  · rename_i h1; exact absurd h h1
  · split at h
    · rename_i h1; exact absurd h h1
    · split at h
      · rename_i h1; exact ⟨by omega, by omega, h1⟩
      · cases h
theorem TwoSm.of {f g : Lf} (hf : LfSm f) (hg : LfSm g) (h : twoE f g = 0) : TwoSm f g := by
  obtain ⟨h1, h2, h3⟩ := twoE_zero h
  obtain ⟨_, _, q3⟩ := lchk_zero h1
  obtain ⟨_, _, q6⟩ := lchk_zero h2
  rw [shpB, eqC, Bool.and_eq_true, Bool.and_eq_true, decide_eq_true_iff, decide_eq_true_iff] at h3
  obtain ⟨e1, e2, _⟩ := h3
  refine ⟨hf, hg, by omega, fun i hi => ?_⟩
  rw [(q3 i hi).1.len, (q6 i (by omega)).1.len, e1]
  exact Nat.le_refl _
theorem both_fn (f g : Lf) (hf : LfSm f) (hg : LfSm g) : Fn Tryz.prog Gd 87 [f.val, g.val] (vint (twoE f g)) := by
  refine Fn.of_vx0 k_leaf_both (by simp) (by rw [V.pures, pure_lf, V.pures, pure_lf]; rfl) ?_
  have A := lcheck_fn f hf
  have B := lcheck_fn g hg
  unfold c_leaf_both
  by_cases h0 : lchk f = 0
  case neg =>
    have c1 : (lchk f == 0) = false := by rw [beq_eq_false_iff_ne]; exact h0
    rw [show twoE f g = lchk f from if_pos h0]
    clear h0 hf hg B
    generalize lchk f = e at *
    obtain ⟨⟨fc, fst⟩, fl⟩ := f
    obtain ⟨⟨gc, gst⟩, gl⟩ := g
    repeat' (with_reducible first | refine x_ops ?_ | refine wk ?_ | (with_reducible refine xc (A) ?_) | ((first | refine gd1 ?_ ?_ | refine gd2 ?_ ?_ | refine gd3 ?_ ?_) <;> (first | exact @False.elim _ | intro hc)))
    exact finV_lit vv rfl
  by_cases h1 : lchk g = 0
  case neg =>
    have c1 : (lchk g == 0) = false := by rw [beq_eq_false_iff_ne]; exact h1
    rw [show twoE f g = lchk g from by rw [twoE, if_neg (by omega), if_pos h1]]
    rw [h0] at A
    clear h0 h1 hf hg
    generalize lchk g = e at *
    obtain ⟨⟨fc, fst⟩, fl⟩ := f
    obtain ⟨⟨gc, gst⟩, gl⟩ := g
    repeat' (with_reducible first | refine x_ops ?_ | refine wk ?_ | (with_reducible refine xc (A) ?_) | (with_reducible refine xc (B) ?_) | ((first | refine gd1 ?_ ?_ | refine gd2 ?_ ?_ | refine gd3 ?_ ?_) <;> (first | exact @False.elim _ | intro hc)))
    exact finV_lit vv rfl
  obtain ⟨q1, q2, q3⟩ := lchk_zero h0
  obtain ⟨q4, q5, _⟩ := chkI_small q1
  have S := shaped_fn f g (by omega) (by omega) hf.n
  rw [show twoE f g = if shpB f g = true then 0 else 101 from by rw [twoE, if_neg (by omega), if_neg (by omega)]]
  rw [h0] at A
  rw [h1] at B
  generalize shpB f g = z at *
  clear h0 h1 hf hg q1 q2 q3 q4 q5
  obtain ⟨⟨fc, fst⟩, fl⟩ := f
  obtain ⟨⟨gc, gst⟩, gl⟩ := g
  cases z with
  | false =>
    repeat' (with_reducible first | refine x_ops ?_ | refine wk ?_ | (with_reducible refine xc (A) ?_) | (with_reducible refine xc (B) ?_) | (with_reducible refine xc (S) ?_) | ((first | refine gd1 ?_ ?_ | refine gd2 ?_ ?_ | refine gd3 ?_ ?_) <;> (first | exact @False.elim _ | intro hc)))
    exact finV_lit vv rfl
  | true =>
    repeat' (with_reducible first | refine x_ops ?_ | refine wk ?_ | (with_reducible refine xc (A) ?_) | (with_reducible refine xc (B) ?_) | (with_reducible refine xc (S) ?_) | ((first | refine gd1 ?_ ?_ | refine gd2 ?_ ?_ | refine gd3 ?_ ?_) <;> (first | exact @False.elim _ | intro hc)))
    exact finV_lit vv rfl
theorem rtwo_fn (f g : Lf) (hf : LfSm f) (hg : LfSm g) : Fn Tryz.prog Gd 115 [f.val, g.val] (vint (twoE f g)) := by
  refine Fn.of_vx0 k_theorboref10_two (by simp) (by rw [V.pures, pure_lf, V.pures, pure_lf]; rfl) ?_
  have A := rlcheck_fn f hf
  have B := rlcheck_fn g hg
  unfold c_theorboref10_two
  by_cases h0 : lchk f = 0
  case neg =>
    have c1 : (lchk f == 0) = false := by rw [beq_eq_false_iff_ne]; exact h0
    rw [show twoE f g = lchk f from if_pos h0]
    clear h0 hf hg B
    generalize lchk f = e at *
    obtain ⟨⟨fc, fst⟩, fl⟩ := f
    obtain ⟨⟨gc, gst⟩, gl⟩ := g
    repeat' (with_reducible first | refine x_ops ?_ | refine wk ?_ | (with_reducible refine xc (A) ?_) | ((first | refine gd1 ?_ ?_ | refine gd2 ?_ ?_ | refine gd3 ?_ ?_) <;> (first | exact @False.elim _ | intro hc)))
    exact finV_lit vv rfl
  by_cases h1 : lchk g = 0
  case neg =>
    have c1 : (lchk g == 0) = false := by rw [beq_eq_false_iff_ne]; exact h1
    rw [show twoE f g = lchk g from by rw [twoE, if_neg (by omega), if_pos h1]]
    rw [h0] at A
    clear h0 h1 hf hg
    generalize lchk g = e at *
    obtain ⟨⟨fc, fst⟩, fl⟩ := f
    obtain ⟨⟨gc, gst⟩, gl⟩ := g
    repeat' (with_reducible first | refine x_ops ?_ | refine wk ?_ | (with_reducible refine xc (A) ?_) | (with_reducible refine xc (B) ?_) | ((first | refine gd1 ?_ ?_ | refine gd2 ?_ ?_ | refine gd3 ?_ ?_) <;> (first | exact @False.elim _ | intro hc)))
    exact finV_lit vv rfl
  obtain ⟨q1, q2, q3⟩ := lchk_zero h0
  obtain ⟨q4, q5, _⟩ := chkI_small q1
  have S := rshape_fn f g (by omega) (by omega) hf.n
  rw [show twoE f g = if shpB f g = true then 0 else 101 from by rw [twoE, if_neg (by omega), if_neg (by omega)]]
  rw [h0] at A
  rw [h1] at B
  generalize shpB f g = z at *
  clear h0 h1 hf hg q1 q2 q3 q4 q5
  obtain ⟨⟨fc, fst⟩, fl⟩ := f
  obtain ⟨⟨gc, gst⟩, gl⟩ := g
  cases z with
  | false =>
    repeat' (with_reducible first | refine x_ops ?_ | refine wk ?_ | (with_reducible refine xc (A) ?_) | (with_reducible refine xc (B) ?_) | (with_reducible refine xc (S) ?_) | ((first | refine gd1 ?_ ?_ | refine gd2 ?_ ?_ | refine gd3 ?_ ?_) <;> (first | exact @False.elim _ | intro hc)))
    exact finV_lit vv rfl
  | true =>
    repeat' (with_reducible first | refine x_ops ?_ | refine wk ?_ | (with_reducible refine xc (A) ?_) | (with_reducible refine xc (B) ?_) | (with_reducible refine xc (S) ?_) | ((first | refine gd1 ?_ ?_ | refine gd2 ?_ ?_ | refine gd3 ?_ ?_) <;> (first | exact @False.elim _ | intro hc)))
    exact finV_lit vv rfl
/-- What Within answers. -/
noncomputable def wthR (f g : Lf) : Bool × Int := if twoE f g ≠ 0 then (false, twoE f g) else (insB f g, 0)
theorem wthn_fn (f g : Lf) (hf : LfSm f) (hg : LfSm g) : Fn Tryz.prog Gd 36 [f.val, g.val] (.tup [vbool (wthR f g).1, vint (wthR f g).2]) := by
  refine Fn.of_vx0 k_leaf_Within (by simp) (by rw [V.pures, pure_lf, V.pures, pure_lf]; rfl) ?_
  have A := both_fn f g hf hg
  unfold c_leaf_Within
  by_cases h0 : twoE f g = 0
  case neg =>
    have c1 : (twoE f g == 0) = false := by rw [beq_eq_false_iff_ne]; exact h0
    rw [show wthR f g = (false, twoE f g) from if_pos h0]
    clear h0 hf hg
    generalize twoE f g = e at *
    obtain ⟨⟨fc, fst⟩, fl⟩ := f
    obtain ⟨⟨gc, gst⟩, gl⟩ := g
    repeat' (with_reducible first | refine x_ops ?_ | refine wk ?_ | (with_reducible refine xc (A) ?_) | ((first | refine gd1 ?_ ?_ | refine gd2 ?_ ?_ | refine gd3 ?_ ?_) <;> (first | exact @False.elim _ | intro hc)))
    refine finV_ret vv ?_
    exact .tup (.cons (.lit _) (.cons (.lit _) .nil))
  have I := inside_fn f g (TwoSm.of hf hg h0)
  rw [show wthR f g = (insB f g, 0) from by rw [wthR, if_neg (by omega)]]
  rw [h0] at A
  generalize insB f g = z at *
  clear h0 hf hg
  obtain ⟨⟨fc, fst⟩, fl⟩ := f
  obtain ⟨⟨gc, gst⟩, gl⟩ := g
  repeat' (with_reducible first | refine x_ops ?_ | refine wk ?_ | (with_reducible refine xc (A) ?_) | (with_reducible refine xc (I) ?_) | ((first | refine gd1 ?_ ?_ | refine gd2 ?_ ?_ | refine gd3 ?_ ?_) <;> (first | exact @False.elim _ | intro hc)))
  refine finV_ret vv ?_
  exact .tup (.cons (.lit _) (.cons (.lit _) .nil))
theorem rwthn_fn (f g : Lf) (hf : LfSm f) (hg : LfSm g) : Fn Tryz.prog Gd 49 [f.val, g.val] (.tup [vbool (wthR f g).1, vint (wthR f g).2]) := by
  refine Fn.of_vx0 k_theorboref10_Within (by simp) (by rw [V.pures, pure_lf, V.pures, pure_lf]; rfl) ?_
  have A := rtwo_fn f g hf hg
  unfold c_theorboref10_Within
  by_cases h0 : twoE f g = 0
  case neg =>
    have c1 : (twoE f g == 0) = false := by rw [beq_eq_false_iff_ne]; exact h0
    rw [show wthR f g = (false, twoE f g) from if_pos h0]
    clear h0 hf hg
    generalize twoE f g = e at *
    obtain ⟨⟨fc, fst⟩, fl⟩ := f
    obtain ⟨⟨gc, gst⟩, gl⟩ := g
    repeat' (with_reducible first | refine x_ops ?_ | refine wk ?_ | (with_reducible refine xc (A) ?_) | ((first | refine gd1 ?_ ?_ | refine gd2 ?_ ?_ | refine gd3 ?_ ?_) <;> (first | exact @False.elim _ | intro hc)))
    refine finV_ret vv ?_
    exact .tup (.cons (.lit _) (.cons (.lit _) .nil))
  have I := rwithin_fn f g (TwoSm.of hf hg h0)
  rw [show wthR f g = (insB f g, 0) from by rw [wthR, if_neg (by omega)]]
  rw [h0] at A
  generalize insB f g = z at *
  clear h0 hf hg
  obtain ⟨⟨fc, fst⟩, fl⟩ := f
  obtain ⟨⟨gc, gst⟩, gl⟩ := g
  repeat' (with_reducible first | refine x_ops ?_ | refine wk ?_ | (with_reducible refine xc (A) ?_) | (with_reducible refine xc (I) ?_) | ((first | refine gd1 ?_ ?_ | refine gd2 ?_ ?_ | refine gd3 ?_ ?_) <;> (first | exact @False.elim _ | intro hc)))
  refine finV_ret vv ?_
  exact .tup (.cons (.lit _) (.cons (.lit _) .nil))
theorem take_filter {α : Type} [Inhabited α] (p : α → Bool) {l : List α} {k : Nat} (h : k < l.length) : (l.take (k + 1)).filter p = (l.take k).filter p ++ if p (l.getD k default) = true then [l.getD k default] else [] := by
  rw [List.take_add_one, List.getElem?_eq_getElem h, List.filter_append, List.getD_eq_getElem?_getD, List.getElem?_eq_getElem h]
  show _ ++ List.filter p [l[k]] = _ ++ if p l[k] = true then [l[k]] else []
  cases hp : p l[k] <;> simp [hp]
theorem filter_len {α : Type} (p : α → Bool) (l : List α) (k : Nat) : ((l.take k).filter p).length ≤ k := Nat.le_trans (List.length_filter_le ..) (by rw [List.length_take]; omega)
set_option maxHeartbeats 1000000 in
theorem commonS_fn (a b : List Sg) (ha : a.length ≤ 17592186044) (hb : b.length ≤ 17592186044416) : Fn Tryz.prog Gd 90 [tL Sg.cells a, tL Sg.cells b] (tL Sg.cells (a.filter (memS b))) := by
  refine Fn.of_vx0 k_leaf_common_api_Sign (by simp) (by rw [V.pures, pure_tL, V.pures, pure_tL]; rfl) ?_
  unfold c_leaf_common_api_Sign
  have hs := fun k (h : k < a.length) => take_filter (memS b) h
  have hfl := fun k => filter_len (memS b) a k
  have hall : (a.take a.length).filter (memS b) = a.filter (memS b) := by rw [List.take_length]
  replace hs := Hid.mk hs
  replace hfl := Hid.mk hfl
  replace hall := Hid.mk hall
  have ha0 := Hid.mk ha
  have hb0 := Hid.mk hb
  clear ha hb
  rw [tL, tL]
  repeat' (with_reducible first | refine x_ops ?_ | refine wk ?_ | ((first | refine gd1 ?_ ?_ | refine gd2 ?_ ?_ | refine gd3 ?_ ?_) <;> (first | exact @False.elim _ | intro hc)))
  refine x_loopW w_leaf_common_api_Sign_p6 kr a.length (fun k t m' => t 9 = vint k ∧ ∃ tok, t 4 = .sl ((a.take k).filter (memS b)).length (((a.take k).filter (memS b)).flatMap Sg.cells) tok ∧ Apb m' tok ((a.take k).filter (memS b)).length 110 3) ?_ ?_
  · exact ⟨vv, .exact, vv, .inl rfl⟩
  rintro k t m1 hk ⟨h9, tok, h4, hap⟩
  replace hap := Hid.mk hap
  by_cases hlt : k < a.length
  case neg =>
    have c1 : ¬ ((k : Int) < (a.length : Int)) := by omega
    have hkl : k = a.length := by omega
    subst hkl
    rw [hall.out] at h4
    clear hlt hk
    generalize a.filter (memS b) = L at *
    repeat' (with_reducible first | refine x_ops ?_ | refine wk ?_ | ((first | refine gd1 ?_ ?_ | refine gd2 ?_ ?_ | refine gd3 ?_ ?_) <;> (first | exact @False.elim _ | intro hc)))
    exact finV_ret vv (.sl _ _ _)
  have g1 := sg_take (l := a) (k := k) hlt
  have g2 := sgs_len a
  have c1 : (k : Int) < (a.length : Int) := by omega
  have c3 : k * 3 + 3 ≤ a.length * 3 := by omega
  have w1 := w_add1 (k := k) (by have := ha0.out; omega)
  have hs1 := hs.out k hlt
  have hfl1 := hfl.out k
  have H := hasSg_fn b (a.getD k default) hb0.out
  rw [tL] at H
  have hlt0 := Hid.mk hlt
  generalize hL9 : (a.take (k + 1)).filter (memS b) = L9 at *
  generalize (a.take k).filter (memS b) = L8 at *
  have hsl := sgs_len L8
  replace hL9 := Hid.mk hL9
  replace hs1 := Hid.mk hs1
  replace hsl := Hid.mk hsl
  replace hfl1 := Hid.mk hfl1
  clear hlt hk
  cases hm : memS b (a.getD k default) with
  | false =>
    rw [hm] at H
    have e := hs1.out
    rw [if_neg (by rw [hm]; decide), List.append_nil] at e
    replace e := Hid.mk e
    clear hm hs1
    generalize a.getD k default = x at *
    obtain ⟨v, d, tt⟩ := x
    repeat' (with_reducible first | refine x_ops ?_ | refine wk ?_ | (with_reducible refine xc (H) ?_) | ((first | refine gd1 ?_ ?_ | refine gd2 ?_ ?_ | refine gd3 ?_ ?_) <;> (first | exact @False.elim _ | intro hc)))
    refine nx hlt0.out ⟨vv, tok, ?_, ?_⟩
    · rw [hL9.out, e.out]; first | exact h4 | exact vv
    · rw [hL9.out, e.out]; exact hap.out.mono (fun q hq _ => by (simp only [put_obj]; repeat rw [if_neg (by omega)])) (by show m1.next ≤ m1.next + 4; omega)
  | true =>
    rw [hm] at H
    have e := hs1.out
    rw [if_pos hm] at e
    replace e := Hid.mk e
    clear hm hs1
    generalize a.getD k default = x at *
    obtain ⟨v, d, tt⟩ := x
    repeat' (with_reducible first | refine x_ops ?_ | refine wk ?_ | (with_reducible refine xc (H) ?_) | ((first | refine gd1 ?_ ?_ | refine gd2 ?_ ?_ | refine gd3 ?_ ?_) <;> (first | exact @False.elim _ | intro hc)))
    refine x_appc (n := L8.length) (xs := L8.flatMap Sg.cells) (j := 1) (ys := [vint v, vbool d, vbool tt]) (k := tok) (k2 := .exact) vw vw (hap.out.mono (fun q hq _ => by (simp only [put_obj]; repeat rw [if_neg (by omega)])) (by show m1.next ≤ m1.next + 9; omega)) hsl.out rfl (by have := hlt0.out; have := ha0.out; have := hfl1.out; omega) (by have := hlt0.out; have := ha0.out; have := hfl1.out; unfold Go.maxLen; omega) (by show m1.next + 4 + 3 < m1.next + 9; omega) ?_
    intro tok3 m3 hap3 hn3 hf3 hq3
    replace hap3 := Hid.mk hap3
    replace hn3 : m3.next = m1.next + 9 := hn3
    have e9 : L9.length = L8.length + 1 := by rw [e.out, List.length_append]; rfl
    have f9 : L9.flatMap Sg.cells = L8.flatMap Sg.cells ++ [vint v, vbool d, vbool tt] := by rw [e.out, List.flatMap_append]; rfl
    replace e9 := Hid.mk e9
    replace f9 := Hid.mk f9
    clear hf3 hq3
    repeat' (with_reducible first | refine x_ops ?_ | refine wk ?_ | ((first | refine gd1 ?_ ?_ | refine gd2 ?_ ?_ | refine gd3 ?_ ?_) <;> (first | exact @False.elim _ | intro hc)))
    refine nx hlt0.out ⟨vv, tok3, ?_, ?_⟩
    · rw [hL9.out, e9.out, f9.out]; exact vv
    · rw [hL9.out, e9.out]; exact hap3.out.mono (fun _ _ _ => rfl) (by show m3.next ≤ m1.next + 9; omega)
end Go.Proofs.YtdefefeifcdogaaGreat
namespace Go.Proofs.YtdefefeifcdogaaGreat
open Go.RowKit
set_option linter.unusedSimpArgs false
set_option linter.unusedVariables false

set_option maxHeartbeats 1000000 in
theorem commonI_fn (a b : List Int) (ha : a.length ≤ 17592186044) (hb : b.length ≤ 17592186044416) : Fn Tryz.prog Gd 91 [tIs a, tIs b] (tIs (a.filter (memI b))) := by
  refine Fn.of_vx0 k_leaf_common_int (by simp) (by rw [V.pures, pure_tIs, V.pures, pure_tIs]; rfl) ?_
  unfold c_leaf_common_int
  have hs := fun k (h : k < a.length) => take_filter (memI b) h
  have hfl := fun k => filter_len (memI b) a k
  have hall : (a.take a.length).filter (memI b) = a.filter (memI b) := by rw [List.take_length]
  replace hs := Hid.mk hs
  replace hfl := Hid.mk hfl
  replace hall := Hid.mk hall
  have ha0 := Hid.mk ha
  have hb0 := Hid.mk hb
  clear ha hb
  rw [tIs, tIs]
  repeat' (with_reducible first | refine x_ops ?_ | refine wk ?_ | ((first | refine gd1 ?_ ?_ | refine gd2 ?_ ?_ | refine gd3 ?_ ?_) <;> (first | exact @False.elim _ | intro hc)))
  refine x_loopW w_leaf_common_int_p5 kr a.length (fun k t m' => t 9 = vint k ∧ ∃ tok, t 4 = .sl ((a.take k).filter (memI b)).length (((a.take k).filter (memI b)).map vint) tok ∧ Apb m' tok ((a.take k).filter (memI b)).length 3 1) ?_ ?_
  · exact ⟨vv, .exact, vv, .inl rfl⟩
  rintro k t m1 hk ⟨h9, tok, h4, hap⟩
  replace hap := Hid.mk hap
  by_cases hlt : k < a.length
  case neg =>
    have c1 : ¬ ((k : Int) < (a.length : Int)) := by omega
    have hkl : k = a.length := by omega
    subst hkl
    rw [hall.out] at h4
    clear hlt hk
    generalize a.filter (memI b) = L at *
    repeat' (with_reducible first | refine x_ops ?_ | refine wk ?_ | ((first | refine gd1 ?_ ?_ | refine gd2 ?_ ?_ | refine gd3 ?_ ?_) <;> (first | exact @False.elim _ | intro hc)))
    exact finV_ret vv (.sl _ _ _)
  have g1 := ints_at (l := a) (k := k) hlt
  have c1 : (k : Int) < (a.length : Int) := by omega
  have w1 := w_add1 (k := k) (by have := ha0.out; omega)
  have hs1 := hs.out k hlt
  have hfl1 := hfl.out k
  have H := hasIn_fn b (a.getD k 0) hb0.out
  have hlt0 := Hid.mk hlt
  generalize hL9 : (a.take (k + 1)).filter (memI b) = L9 at *
  generalize (a.take k).filter (memI b) = L8 at *
  have hsl : (L8.map vint).length = L8.length * 1 := by rw [List.length_map, Nat.mul_one]
  replace hL9 := Hid.mk hL9
  replace hs1 := Hid.mk hs1
  replace hsl := Hid.mk hsl
  replace hfl1 := Hid.mk hfl1
  clear hlt hk
  cases hm : memI b (a.getD k 0) with
  | false =>
    rw [hm] at H
    have e := hs1.out
    rw [if_neg (by rw [show a.getD k default = a.getD k 0 from rfl, hm]; decide), List.append_nil] at e
    replace e := Hid.mk e
    clear hm hs1
    generalize a.getD k 0 = x at *
    repeat' (with_reducible first | refine x_ops ?_ | refine wk ?_ | (with_reducible refine xc (H) ?_) | ((first | refine gd1 ?_ ?_ | refine gd2 ?_ ?_ | refine gd3 ?_ ?_) <;> (first | exact @False.elim _ | intro hc)))
    refine nx hlt0.out ⟨vv, tok, ?_, ?_⟩
    · rw [hL9.out, e.out]; first | exact h4 | exact vv
    · rw [hL9.out, e.out]; exact hap.out.mono (fun q hq _ => rfl) (Nat.le_refl _)
  | true =>
    rw [hm] at H
    have e := hs1.out
    rw [if_pos (show memI b (a.getD k default) = true from hm)] at e
    have e' : L9 = L8 ++ [a.getD k 0] := e
    replace e := Hid.mk e'
    clear hm hs1 e'
    generalize a.getD k 0 = x at *
    repeat' (with_reducible first | refine x_ops ?_ | refine wk ?_ | (with_reducible refine xc (H) ?_) | ((first | refine gd1 ?_ ?_ | refine gd2 ?_ ?_ | refine gd3 ?_ ?_) <;> (first | exact @False.elim _ | intro hc)))
    refine x_appc (n := L8.length) (xs := L8.map vint) (j := 1) (ys := [vint x]) (k := tok) (k2 := .exact) vw vw (hap.out.mono (fun q hq _ => rfl) (by show m1.next ≤ m1.next + 5; omega)) hsl.out rfl (by have := hlt0.out; have := ha0.out; have := hfl1.out; omega) (by have := hlt0.out; have := ha0.out; have := hfl1.out; unfold Go.maxLen; omega) (by show m1.next + 3 < m1.next + 5; omega) ?_
    intro tok3 m3 hap3 hn3 hf3 hq3
    replace hap3 := Hid.mk hap3
    replace hn3 : m3.next = m1.next + 5 := hn3
    have e9 : L9.length = L8.length + 1 := by rw [e.out, List.length_append]; rfl
    have f9 : L9.map vint = L8.map vint ++ [vint x] := by rw [e.out, List.map_append]; rfl
    replace e9 := Hid.mk e9
    replace f9 := Hid.mk f9
    clear hf3 hq3
    repeat' (with_reducible first | refine x_ops ?_ | refine wk ?_ | ((first | refine gd1 ?_ ?_ | refine gd2 ?_ ?_ | refine gd3 ?_ ?_) <;> (first | exact @False.elim _ | intro hc)))
    refine nx hlt0.out ⟨vv, tok3, ?_, ?_⟩
    · rw [hL9.out, e9.out, f9.out]; exact vv
    · rw [hL9.out, e9.out]; exact hap3.out.mono (fun _ _ _ => rfl) (by show m3.next ≤ m1.next + 5; omega)
end Go.Proofs.YtdefefeifcdogaaGreat
namespace Go.Proofs.YtdefefeifcdogaaGreat
open Go.RowKit
set_option linter.unusedSimpArgs false
set_option linter.unusedVariables false

theorem flat_take_succ {α : Type} [Inhabited α] (c : α → List V) (L : List α) {k : Nat} (h : k < L.length) : (L.take (k + 1)).flatMap c = (L.take k).flatMap c ++ c (L.getD k default) := by
  rw [List.take_add_one, List.getElem?_eq_getElem h, List.flatMap_append]
  congr 1
  rw [List.getD_eq_getElem?_getD, List.getElem?_eq_getElem h]
  show List.flatMap c [L[k]] = _
  simp
section
variable {P : Program} {G : Ground}
end
end Go.Proofs.YtdefefeifcdogaaGreat
namespace Go.Proofs.YtdefefeifcdogaaGreat
open Go.RowKit
set_option linter.unusedSimpArgs false
set_option linter.unusedVariables false

/-- The cells of two columns, by a function. -/
def ceK (C : List Int → List Int → List Int) (a b : List (List Int)) (k : Nat) : List (List Int) := (List.range k).map fun j => C (a.getD j []) (b.getD j [])
theorem ceK_succ (C : List Int → List Int → List Int) (a b : List (List Int)) (k : Nat) : (ceK C a b (k + 1)).map tIs = (ceK C a b k).map tIs ++ [tIs (C (a.getD k []) (b.getD k []))] := by
  rw [ceK, List.range_succ, List.map_append, List.map_append]; rfl
theorem ceK_len (C : List Int → List Int → List Int) (a b : List (List Int)) (k : Nat) : (ceK C a b k).length = k := by rw [ceK, List.length_map, List.length_range]
/-- A column of two. -/
def cmbC (S : List Sg → List Sg → List Sg) (C : List Int → List Int → List Int) (x y : Clm) : Clm := ⟨x.bar, x.tie, S x.sgs y.sgs, ceK C x.ce y.ce x.ce.length⟩
def cmbL (S : List Sg → List Sg → List Sg) (C : List Int → List Int → List Int) (f g : Lf) : Lf := ⟨f.ins, (List.range f.cols.length).map fun i => cmbC S C (f.cols.getD i default) (g.cols.getD i default)⟩
theorem cmbL_len (S : List Sg → List Sg → List Sg) (C : List Int → List Int → List Int) (f g : Lf) : (cmbL S C f g).cols.length = f.cols.length := by rw [cmbL, List.length_map, List.length_range]
theorem cmbL_at (S : List Sg → List Sg → List Sg) (C : List Int → List Int → List Int) (f g : Lf) {i : Nat} (h : i < f.cols.length) : (cmbL S C f g).cols.getD i default = cmbC S C (f.cols.getD i default) (g.cols.getD i default) := by
  rw [cmbL, List.getD_eq_getElem?_getD, List.getElem?_map, List.getElem?_range h]; rfl
set_option maxHeartbeats 4000000 in
theorem combine_fn (f g : Lf) (S : List Sg → List Sg → List Sg) (C : List Int → List Int → List Int) {f1 f2 : FuncId} (hc1 : callable Tryz.prog f1 = true) (hc2 : callable Tryz.prog f2 = true) (hn : f.cols.length ≤ 400) (hng : f.cols.length ≤ g.cols.length) (h1 : f.ins.cs.length ≤ 14) (h2 : f.ins.st.length ≤ 18)
    (hS : ∀ i, i < f.cols.length → Fn Tryz.prog Gd f1 [tL Sg.cells (f.cols.getD i default).sgs, tL Sg.cells (g.cols.getD i default).sgs] (tL Sg.cells (S (f.cols.getD i default).sgs (g.cols.getD i default).sgs)))
    (hC : ∀ i j, i < f.cols.length → j < (f.cols.getD i default).ce.length → Fn Tryz.prog Gd f2 [tIs ((f.cols.getD i default).ce.getD j []), tIs ((g.cols.getD i default).ce.getD j [])] (tIs (C ((f.cols.getD i default).ce.getD j []) ((g.cols.getD i default).ce.getD j []))))
    (hl : ∀ i, i < f.cols.length → (f.cols.getD i default).ce.length ≤ 14 ∧ (f.cols.getD i default).ce.length ≤ (g.cols.getD i default).ce.length) : Fn Tryz.prog Gd 89 [f.val, g.val, .fn f1 [], .fn f2 []] (cmbL S C f g).val := by
  refine Fn.of_vx0 k_leaf_combine (by simp) (by rw [V.pures, pure_lf, V.pures, pure_lf]; rfl) ?_
  unfold c_leaf_combine
  have CP := copied_fn f.ins (by omega) (by omega)
  have hcl := cmbL_len S C f g
  have hcs := fun k (h : k < f.cols.length) => flat_take_succ Clm.cells (cmbL S C f g).cols (k := k) (by rw [hcl]; exact h)
  have hca := fun k (h : k < f.cols.length) => cmbL_at S C f g h
  rw [show (cmbL S C f g).val = .agg [tL Crs.cells f.ins.cs, tIs f.ins.st, .sl f.cols.length ((cmbL S C f g).cols.flatMap Clm.cells) .no] from by rw [Lf.val, tL, tL, hcl]; rfl]
  generalize (cmbL S C f g).cols = CL at *
  replace hcs := Hid.mk hcs
  replace hca := Hid.mk hca
  replace hS := Hid.mk hS
  replace hC := Hid.mk hC
  replace hl := Hid.mk hl
  replace hc1 := Hid.mk hc1
  replace hc2 := Hid.mk hc2
  have hcl0 := Hid.mk hcl
  have hn0 := Hid.mk hn
  have hng0 := Hid.mk hng
  clear hcl hn hng h1 h2
  repeat' (with_reducible first | refine x_ops ?_ | refine wk ?_ | (with_reducible refine xc (CP) ?_) | ((first | refine gd1 ?_ ?_ | refine gd2 ?_ ?_ | refine gd3 ?_ ?_) <;> (first | exact @False.elim _ | intro hc)))
  clear CP
  refine x_loopW w_leaf_combine_p12 kr f.cols.length (fun k t m => t 22 = vint k ∧ (m.obj 1 = some (.box [.sl g.ins.cs.length (g.ins.cs.flatMap Crs.cells) .no, .sl g.ins.st.length (g.ins.st.map vint) .no, .sl g.cols.length (g.cols.flatMap Clm.cells) .no] 28) ∧ m.obj 2 = some (.box [.sl 0 [] .exact, .sl 0 [] .exact, .sl 0 [] .exact] 28) ∧ 7 < m.next) ∧ ∃ tok, m.obj 7 = some (.box [.sl f.ins.cs.length (f.ins.cs.flatMap Crs.cells) .no, .sl f.ins.st.length (f.ins.st.map vint) .no, .sl k ((CL.take k).flatMap Clm.cells) tok] 28) ∧ Apb m tok k 84 4) ?_ ?_
  · exact ⟨vv, ⟨vv, vv, by show 7 < 9; omega⟩, .exact, vv, .inl rfl⟩
  rintro k t m hk ⟨h22, ⟨hm1, hm2, hmn⟩, tok, hm7, hap⟩
  replace hap := Hid.mk hap
  by_cases hlt : k < f.cols.length
  case neg =>
    have c1 : ¬ (k : Int) < (f.cols.length : Int) := by omega
    have hkl : k = f.cols.length := by omega
    rw [hkl, List.take_of_length_le (by have := hcl0.out; omega)] at hm7
    subst hkl
    have n2 : 2 < m.next := by omega
    clear hlt hk
    repeat' (with_reducible first | refine x_ops ?_ | refine wk ?_ | ((first | refine gd1 ?_ ?_ | refine gd2 ?_ ?_ | refine gd3 ?_ ?_) <;> (first | exact @False.elim _ | intro hc)))
    exact finV_ret vv (.agg (.cons (.sl _ _ _) (.cons (.sl _ _ _) (.cons (.sl _ _ _) .nil))))
  have hkg : k < g.cols.length := by have := hng0.out; omega
  have g1 := clm_take (l := f.cols) (k := k) hlt
  have g2 := clms_len f.cols
  have g3 := clm_take (l := g.cols) (k := k) hkg
  have g4 := clms_len g.cols
  have c1 : (k : Int) < (f.cols.length : Int) := by omega
  have c2 : (k : Int) < (g.cols.length : Int) := by omega
  have c3 : k * 4 + 4 ≤ f.cols.length * 4 := by omega
  have c4 : k * 4 + 4 ≤ g.cols.length * 4 := by omega
  have w1 := w_add1 (k := k) (by have := hn0.out; omega)
  have hsl : ((CL.take k).flatMap Clm.cells).length = k * 4 := by
    rw [clms_len, List.length_take, Nat.min_eq_left (by have := hcl0.out; omega)]
  have hcs1 := hcs.out k hlt
  rw [hca.out k hlt] at hcs1
  have H1 := hS.out k hlt
  have H2 := fun j => hC.out k j hlt
  have hlk := hl.out k hlt
  have hlt0 := Hid.mk hlt
  have hmn0 := Hid.mk hmn
  generalize f.cols.getD k default = x at *
  generalize g.cols.getD k default = y at *
  generalize hL9 : (CL.take (k + 1)).flatMap Clm.cells = L9 at *
  generalize (CL.take k).flatMap Clm.cells = L8 at *
  obtain ⟨xb, xt, xs, xe⟩ := x
  obtain ⟨yb, yt, ys, ye⟩ := y
  rw [tL, tL, tL] at H1
  replace H2 : ∀ j, j < xe.length → Fn Tryz.prog Gd f2 [tIs (xe.getD j []), tIs (ye.getD j [])] (tIs (C (xe.getD j []) (ye.getD j []))) := H2
  replace hlk : xe.length ≤ 14 ∧ xe.length ≤ ye.length := hlk
  replace hcs1 : L9 = L8 ++ [vbool xb, vbool xt, .sl (S xs ys).length ((S xs ys).flatMap Sg.cells) .no, .sl (ceK C xe ye xe.length).length ((ceK C xe ye xe.length).map tIs) .no] := hcs1
  rw [ceK_len] at hcs1
  dsimp only at H1
  generalize S xs ys = SL at *
  replace hL9 := Hid.mk hL9
  replace hcs1 := Hid.mk hcs1
  replace hsl := Hid.mk hsl
  replace H2 := Hid.mk H2
  replace hlk := Hid.mk hlk
  replace hm7 := Hid.mk hm7
  replace hm2 := Hid.mk hm2
  have hm10 := Hid.mk hm1
  have n1 : 1 < m.next + 6 := by omega
  clear hlt hk hmn hkg
  repeat' (with_reducible first | refine x_ops ?_ | refine wk ?_ | (with_reducible refine xcv H1 hc1.out ?_) | ((first | refine gd1 ?_ ?_ | refine gd2 ?_ ?_ | refine gd3 ?_ ?_) <;> (first | exact @False.elim _ | intro hc)))
  clear H1 hm1
  refine x_loopW w_leaf_combine_p4 kr xe.length (fun j t' m' => t' 46 = vint j ∧ (m'.obj 1 = some (.box [.sl g.ins.cs.length (g.ins.cs.flatMap Crs.cells) .no, .sl g.ins.st.length (g.ins.st.map vint) .no, .sl g.cols.length (g.cols.flatMap Clm.cells) .no] 28) ∧ m'.obj 2 = some (.box [.sl 0 [] .exact, .sl 0 [] .exact, .sl 0 [] .exact] 28) ∧ m'.obj 7 = some (.box [.sl f.ins.cs.length (f.ins.cs.flatMap Crs.cells) .no, .sl f.ins.st.length (f.ins.st.map vint) .no, .sl k L8 tok] 28) ∧ m'.obj (m.next + 3) = some (.box [vbool xb, vbool xt, .sl xs.length (xs.flatMap Sg.cells) .no, .sl xe.length (xe.map tIs) .no] 84) ∧ m'.obj (m.next + 11) = some (.box [vbool yb, vbool yt, .sl ys.length (ys.flatMap Sg.cells) .no, .sl ye.length (ye.map tIs) .no] 84) ∧ m.next + 26 ≤ m'.next) ∧ Apb m' tok k 84 4 ∧ ∃ tok2, m'.obj (m.next + 24) = some (.box [vbool xb, vbool xt, .sl SL.length (SL.flatMap Sg.cells) .no, .sl j ((ceK C xe ye j).map tIs) tok2] 84) ∧ Apb m' tok2 j 23 1) ?_ ?_
  · have := hmn0.out
    refine ⟨vv, ⟨?_, ?_, ?_, ?_, ?_, Nat.le_refl _⟩, ?_, .exact, ?_, .inl rfl⟩
    · (simp only [put_obj]; repeat rw [if_neg (by omega)]); exact hm10.out
    · (simp only [put_obj]; repeat rw [if_neg (by omega)]); exact hm2.out
    · (simp only [put_obj]; repeat rw [if_neg (by omega)]); exact hm7.out
    · simp only [put_obj]
      repeat rw [if_neg (by omega)]
      first
        | (rw [if_pos rfl]; done)
        | (rw [if_pos trivial]; done)
        | (rw [if_pos rfl]; rfl)
        | (rw [if_pos trivial]; rfl)
    · simp only [put_obj]
      repeat rw [if_neg (by omega)]
      first
        | (rw [if_pos rfl]; done)
        | (rw [if_pos trivial]; done)
        | (rw [if_pos rfl]; rfl)
        | (rw [if_pos trivial]; rfl)
    · refine hap.out.mono (fun q hq _ => ?_) (by show m.next ≤ m.next + 26; omega)
      (simp only [put_obj]; repeat rw [if_neg (by omega)])
    · simp only [put_obj]
      repeat rw [if_neg (by omega)]
      first
        | (rw [if_pos rfl]; done)
        | (rw [if_pos trivial]; done)
        | (rw [if_pos rfl]; rfl)
        | (rw [if_pos trivial]; rfl)
  clear hm2 hm7 hap g1 g2 g3 g4 c2 c3 c4 n1 hm10
  rintro j t1 m1 hj ⟨h46, ⟨hm1, hm2, hm7, hm3, hm11, hn1⟩, hap, tok2, hm24, hap2⟩
  replace hap := Hid.mk hap
  replace hap2 := Hid.mk hap2
  have hmnn := hmn0.out
  have n1 : m.next + 3 < m1.next := by omega
  have n2 : m.next + 11 < m1.next := by omega
  have n3 : m.next + 24 < m1.next := by omega
  have n4 : 7 < m1.next := by omega
  have hn10 := Hid.mk hn1
  by_cases hlt2 : j < xe.length
  case neg =>
    have d1 : ¬ ((j : Int) < (xe.length : Int)) := by omega
    have hjl : j = xe.length := by omega
    subst hjl
    clear hlt2 hj hn1 hmnn hm3 hm11
    repeat' (with_reducible first | refine x_ops ?_ | refine wk ?_ | ((first | refine gd1 ?_ ?_ | refine gd2 ?_ ?_ | refine gd3 ?_ ?_) <;> (first | exact @False.elim _ | intro hc)))
    refine x_appc (n := k) (xs := L8) (j := 1) (ys := [vbool xb, vbool xt, .sl SL.length (SL.flatMap Sg.cells) .no, .sl xe.length ((ceK C xe ye xe.length).map tIs) .no]) (k := tok) (k2 := .exact) vw vw (hap.out.mono (fun _ _ _ => rfl) (Nat.le_add_right _ _)) hsl.out rfl (by have := hlt0.out; have := hn0.out; omega) (by have := hlt0.out; have := hn0.out; unfold Go.maxLen; omega) (by show m1.next + 4 < m1.next + 7; omega) ?_
    intro tok3 m3 hap3 hn3 hf3 hq3
    have hnn : m3.next = m1.next + 7 := hn3
    have old : ∀ q cs t, q < m1.next → m1.obj q = some (.box cs t) → m3.obj q = some (.box cs t) := fun q cs t hq h => (hf3 q (by show ¬ q = m1.next + 4; omega) (hap.out.box h)).trans h
    have a1 := old _ _ _ (by omega) hm1
    have a2 := old _ _ _ (by omega) hm2
    have a7 := old _ _ _ n4 hm7
    replace hap3 := Hid.mk hap3
    clear hm1 hm2 hm7 hm24 hf3 hq3 old hn3
    repeat' (with_reducible first | refine x_ops ?_ | refine wk ?_ | ((first | refine gd1 ?_ ?_ | refine gd2 ?_ ?_ | refine gd3 ?_ ?_) <;> (first | exact @False.elim _ | intro hc)))
    refine nx hlt0.out ⟨vv, ⟨a1, a2, by show 7 < m1.next + 7; omega⟩, tok3, ?_, ?_⟩
    · rw [hL9.out, hcs1.out]
      first
        | exact vv
        | exact if_pos rfl
        | rfl
    · show Apb ⟨(m3.put 7 _).obj, _⟩ tok3 (k + 1) 84 4
      exact (hap3.out.put a7).mono (fun _ _ _ => rfl) (by show m3.next ≤ m1.next + 7; omega)
  have d1 : (j : Int) < (xe.length : Int) := by omega
  have d2 : (j : Int) < (ye.length : Int) := by have := hlk.out; omega
  have g1 := iss_at (l := xe) (k := j) hlt2
  have g3 := iss_at (l := ye) (k := j) (by have := hlk.out; omega)
  have w2 := w_add1 (k := j) (by have := hlk.out; omega)
  have H3 := H2.out j hlt2
  have hces := ceK_succ C xe ye j
  have hcel : ((ceK C xe ye j).map tIs).length = j * 1 := by rw [List.length_map, ceK_len, Nat.mul_one]
  have hlt20 := Hid.mk hlt2
  have hj14 : j < 14 := by have := hlk.out; omega
  rw [tIs, tIs, tIs] at H3
  rw [tIs] at hces
  generalize C (xe.getD j []) (ye.getD j []) = z at *
  generalize xe.getD j [] = xa at *
  generalize ye.getD j [] = ya at *
  generalize hC9 : (ceK C xe ye (j + 1)).map tIs = C9 at *
  replace hC9 := Hid.mk hC9
  generalize (ceK C xe ye j).map tIs = C8 at *
  replace hj14 := Hid.mk hj14
  replace hces := Hid.mk hces
  replace hcel := Hid.mk hcel
  have b1 := Hid.mk hm1
  have b2 := Hid.mk hm2
  have b7 := Hid.mk hm7
  clear hlt2 hj hn1 hmnn hm1 hm2 hm7
  repeat' (with_reducible first | refine x_ops ?_ | refine wk ?_ | (with_reducible refine xcv H3 hc2.out ?_) | ((first | refine gd1 ?_ ?_ | refine gd2 ?_ ?_ | refine gd3 ?_ ?_) <;> (first | exact @False.elim _ | intro hc)))
  have hx : ∀ q, tok2 = .own q → tok ≠ .own q := hap2.out.ne hap.out (by decide)
  refine x_appc (n := j) (xs := C8) (j := 1) (ys := [.sl z.length (z.map vint) .no]) (k := tok2) (k2 := .exact) vw vw (hap2.out.mono (fun _ _ _ => rfl) (Nat.le_add_right _ _)) hcel.out rfl (by have := hj14.out; omega) (by have := hj14.out; unfold Go.maxLen; omega) (by show m1.next + 15 < m1.next + 18; omega) ?_
  intro tok3 m3 hap3 hn3 hf3 hq3
  have hnn : m3.next = m1.next + 18 := hn3
  have hm1n := hn10.out
  have hmnn := hmn0.out
  have old : ∀ q cs t, q < m1.next → m1.obj q = some (.box cs t) → m3.obj q = some (.box cs t) := fun q cs t hq h => (hf3 q (by show ¬ q = m1.next + 15; omega) (hap2.out.box h)).trans h
  have a1 := old _ _ _ (by omega) b1.out
  have a2 := old _ _ _ (by omega) b2.out
  have a7 := old _ _ _ (by omega) b7.out
  have a3 := old _ _ _ (by omega) hm3
  have a11 := old _ _ _ (by omega) hm11
  have a24 := old _ _ _ (by omega) hm24
  have hapk : Apb m3 tok k 84 4 := hap.out.keep (by omega) fun q hq e => hf3 q (by show ¬ q = m1.next + 15; omega) fun e2 => hx q e2 e
  have hapk2 := hapk.put (o := .box [vbool xb, vbool xt, .sl SL.length (SL.flatMap Sg.cells) .no, .sl (j + 1) (C8 ++ [.sl z.length (z.map vint) .no]) tok3] 84) a24
  have hap32 := hap3.put (o := .box [vbool xb, vbool xt, .sl SL.length (SL.flatMap Sg.cells) .no, .sl (j + 1) (C8 ++ [.sl z.length (z.map vint) .no]) tok3] 84) a24
  replace hapk2 := Hid.mk hapk2
  replace hap32 := Hid.mk hap32
  have f1 : ¬ 1 = m.next + 24 := by omega
  have f2 : ¬ 2 = m.next + 24 := by omega
  have f7 : ¬ 7 = m.next + 24 := by omega
  clear hf3 hq3 old hap3 hapk hm1n hmnn hx hn3 hm3 hm11 hm24
  repeat' (with_reducible first | refine x_ops ?_ | refine wk ?_ | ((first | refine gd1 ?_ ?_ | refine gd2 ?_ ?_ | refine gd3 ?_ ?_) <;> (first | exact @False.elim _ | intro hc)))
  refine nx hlt20.out ⟨vv, ⟨?_, ?_, ?_, ?_, ?_, by show m.next + 26 ≤ m1.next + 18; have := hn10.out; omega⟩, ?_, tok3, ?_, ?_⟩
  · simp only [put_obj]; rw [if_neg f1]; exact a1
  · simp only [put_obj]; rw [if_neg f2]; exact a2
  · simp only [put_obj]; rw [if_neg f7]; exact a7
  · simp only [put_obj]; rw [if_neg (by omega)]; exact a3
  · simp only [put_obj]; rw [if_neg (by omega)]; exact a11
  · exact hapk2.out.mono (fun _ _ _ => rfl) (by show m3.next ≤ m1.next + 18; omega)
  · rw [hC9.out, hces.out]
    first
      | exact vv
      | exact if_pos rfl
      | rfl
  · exact hap32.out.mono (fun _ _ _ => rfl) (by show m3.next ≤ m1.next + 18; omega)
end Go.Proofs.YtdefefeifcdogaaGreat
namespace Go.Proofs.YtdefefeifcdogaaGreat
open Go.RowKit
set_option maxRecDepth 100000

abbrev c_slices_ContainsFunc_ints_p1 : VC := (.seq (.ops 0 [oo 5 .mv [.t 0], oo 6 .mv [.t 1], oo 7 (.call 162) [.t 5, .t 6], oo 8 (.bin .geq) [.t 7, kk 0], oo 4 .mv [.t 8]]) .ret)
def c_slices_ContainsFunc_ints : VC := (.seq (.ops 0 [oo 4 .mv [(.c (.lit (.bool false)))]]) c_slices_ContainsFunc_ints_p1)
theorem k_slices_ContainsFunc_ints : Comp Tryz.prog nobx gtab 92 9 c_slices_ContainsFunc_ints [.t 4] := ⟨⟨Tryz.f92, _, Tryz.func92, rfl, rfl, kr, kr⟩⟩
abbrev c_slices_IndexFunc_ints_p1 : VC := (.seq (.ops 0 [oo 17 .mv [.t 5], oo 4 .mv [.t 17]]) .ret)
abbrev c_slices_IndexFunc_ints_p2 : VC := (.seq (.ops 0 [oo 11 .mv [.t 1], oo 12 .mv [.t 0], oo 13 .mv [.t 5], oo 14 (.ixA 1) [.t 12, .t 13], oo 15 .ld1 [.t 14], oo 16 .callv [.t 11, .t 15]]) (.cond (.t 16) c_slices_IndexFunc_ints_p1 .skip))
abbrev c_slices_IndexFunc_ints_p3 : VC := (.ops 0 [oo 18 (.bin .add) [.t 8, kk 1], oo 8 .mv [.t 18]])
abbrev c_slices_IndexFunc_ints_p4 : VC := (.seq (.block 1 (.seq (.ops 0 [oo 10 .mv [.t 8], oo 5 .mv [.t 10]]) c_slices_IndexFunc_ints_p2)) c_slices_IndexFunc_ints_p3)
abbrev c_slices_IndexFunc_ints_p5 : VC := (.seq (.cond (.t 9) .skip (.exit 0)) c_slices_IndexFunc_ints_p4)
abbrev c_slices_IndexFunc_ints_p6 : VC := (.seq (.ops 0 [oo 9 (.bin .lss) [.t 8, .t 7]]) c_slices_IndexFunc_ints_p5)
@[go_sem] abbrev w_slices_IndexFunc_ints_p6 : Nat := 524080
abbrev c_slices_IndexFunc_ints_p8 : VC := (.seq (.ops 0 [oo 4 .mv [kk (-1)]]) .ret)
abbrev c_slices_IndexFunc_ints_p9 : VC := (.seq (.seq (.ops 0 [oo 6 .mv [.t 0], oo 7 .len [.t 6], oo 8 .mv [kk 0]]) (.block 0 (.loop c_slices_IndexFunc_ints_p6))) c_slices_IndexFunc_ints_p8)
def c_slices_IndexFunc_ints : VC := (.seq (.ops 0 [oo 4 .mv [kk 0]]) c_slices_IndexFunc_ints_p9)
theorem k_slices_IndexFunc_ints : Comp Tryz.prog nobx gtab 162 19 c_slices_IndexFunc_ints [.t 4] := ⟨⟨Tryz.f162, _, Tryz.func162, rfl, rfl, kr, kr⟩⟩
end Go.Proofs.YtdefefeifcdogaaGreat
namespace Go.Proofs.YtdefefeifcdogaaGreat
open Go.RowKit
set_option linter.unusedSimpArgs false
set_option linter.unusedVariables false

def emI (l : List Int) : Bool := decide (l.length = 0)
theorem meet1_fn (l : List Int) : Fn Tryz.prog Gd 93 [tIs l] (vbool (emI l)) := by
  refine Fn.of_vx0 k_leaf_Meet_1 (by simp) (by rw [V.pures, pure_tIs]; rfl) ?_
  unfold c_leaf_Meet_1
  by_cases h : l.length = 0
  · have c1 : ((l.length : Int) == 0) = true := by rw [beq_iff_eq]; omega
    rw [emI, decide_eq_true h]
    clear h
    repeat' (with_reducible first | refine x_ops ?_ | refine wk ?_ | ((first | refine gd1 ?_ ?_ | refine gd2 ?_ ?_ | refine gd3 ?_ ?_) <;> (first | exact @False.elim _ | intro hc)))
    exact finV_lit vv rfl
  · have c1 : ((l.length : Int) == 0) = false := by rw [beq_eq_false_iff_ne]; omega
    rw [emI, decide_eq_false h]
    clear h
    repeat' (with_reducible first | refine x_ops ?_ | refine wk ?_ | ((first | refine gd1 ?_ ?_ | refine gd2 ?_ ?_ | refine gd3 ?_ ?_) <;> (first | exact @False.elim _ | intro hc)))
    exact finV_lit vv rfl
theorem indexII_fn (l : List (List Int)) (hl : l.length ≤ 17592186044416) :
    Fn Tryz.prog Gd 162 [tIss l, .fn 93 []] (vint (idxI emI l)) := by
  refine Fn.of_vx0 k_slices_IndexFunc_ints (by simp) (by rw [V.pures, pure_tIss]; rfl) ?_
  unfold c_slices_IndexFunc_ints
  rw [tIss]
  repeat' (with_reducible first | refine x_ops ?_ | refine wk ?_ | ((first | refine gd1 ?_ ?_ | refine gd2 ?_ ?_ | refine gd3 ?_ ?_) <;> (first | exact @False.elim _ | intro hc)))
  refine x_loopF w_slices_IndexFunc_ints_p6 kr l.length (fun k t => t 8 = vint k ∧ ∀ i, i < k → emI (l.getD i default) = false) ?_ ?_
  · exact ⟨vv, fun i h => by omega⟩
  rintro k t hk ⟨h8, hI⟩
  replace hI := Hid.mk hI
  by_cases hlt : k < l.length
  · have g1 := iss_at (l := l) (k := k) hlt
    have c2 : (k : Int) < (l.length : Int) := by omega
    have w2 := w_add1 (k := k) (by omega)
    have hx := meet1_fn (l.getD k [])
    rw [tIs] at hx
    have hlt0 := Hid.mk hlt
    cases hb : emI (l.getD k [])
    · rw [hb] at hx
      replace hb := Hid.mk hb
      clear hlt hk
      generalize hE : l.getD k [] = y at *
      replace hE := Hid.mk hE
      repeat' (with_reducible first | refine x_ops ?_ | refine wk ?_ | (with_reducible refine xcv (hx) kr ?_) | ((first | refine gd1 ?_ ?_ | refine gd2 ?_ ?_ | refine gd3 ?_ ?_) <;> (first | exact @False.elim _ | intro hc)))
      refine nf hlt0.out ⟨vv, fun i h => ?_⟩ rfl
      by_cases hi : i = k
      · subst hi; rw [show l.getD i default = y from hE.out]; exact hb.out
      · exact hI.out i (by omega)
    · rw [hb] at hx
      rw [idxI_at hlt0.out hb hI.out]
      clear hlt hk hb
      generalize l.getD k [] = y at *
      repeat' (with_reducible first | refine x_ops ?_ | refine wk ?_ | (with_reducible refine xcv (hx) kr ?_) | ((first | refine gd1 ?_ ?_ | refine gd2 ?_ ?_ | refine gd3 ?_ ?_) <;> (first | exact @False.elim _ | intro hc)))
      exact finV_lit vv rfl
  · have c1 : ¬ ((k : Int) < (l.length : Int)) := by omega
    have hq : idxI emI l = -1 := idxI_none fun i hi => hI.out i (by omega)
    rw [hq]
    clear hlt hk hq
    repeat' (with_reducible first | refine x_ops ?_ | refine wk ?_ | ((first | refine gd1 ?_ ?_ | refine gd2 ?_ ?_ | refine gd3 ?_ ?_) <;> (first | exact @False.elim _ | intro hc)))
    exact finV_lit vv rfl
theorem containsII_fn (l : List (List Int)) (hl : l.length ≤ 17592186044416) :
    Fn Tryz.prog Gd 92 [tIss l, .fn 93 []] (vbool (l.any emI)) := by
  refine Fn.of_vx0 k_slices_ContainsFunc_ints (by simp) (by rw [V.pures, pure_tIss]; rfl) ?_
  unfold c_slices_ContainsFunc_ints
  have I := indexII_fn l hl
  have G := idxI_ge emI l
  repeat' (with_reducible first | refine x_ops ?_ | refine wk ?_ | (with_reducible refine xc (I) ?_) | ((first | refine gd1 ?_ ?_ | refine gd2 ?_ ?_ | refine gd3 ?_ ?_) <;> (first | exact @False.elim _ | intro hc)))
  refine finV_lit vv ?_
  rw [← G]
def meetS (a b : List Sg) : List Sg := a.filter (memS b)
def meetI (a b : List Int) : List Int := a.filter (memI b)
def emC (c : Clm) : Bool := decide (c.sgs.length = 0) || c.ce.any emI
/-- What Meet answers. -/
noncomputable def metR (f g : Lf) : Lf × Int := if twoE f g ≠ 0 then (noL, twoE f g) else if (cmbL meetS meetI f g).cols.any emC = true then (noL, 102) else (cmbL meetS meetI f g, 0)
theorem any_at {α : Type} [Inhabited α] {p : α → Bool} {l : List α} {k : Nat} (hk : k < l.length) (h : p (l.getD k default) = true) : l.any p = true := List.any_eq_true.2 ⟨_, getD_mem hk, h⟩
theorem any_none {α : Type} [Inhabited α] {p : α → Bool} {l : List α} (h : ∀ i, i < l.length → p (l.getD i default) = false) : l.any p = false := by
  rw [← Bool.not_eq_true, List.any_eq_true]; rintro ⟨x, hx, e⟩
  obtain ⟨i, hi, rfl⟩ := List.getElem_of_mem hx
  have := h i hi
  rw [List.getD_eq_getElem?_getD, List.getElem?_eq_getElem hi] at this
  rw [show p l[i] = false from this] at e; cases e
/-- What two leaves that fit one another are like. -/
structure TwoOk (f g : Lf) : Prop where
  n : f.cols.length ≤ 400
  w : f.cols.length ≤ g.cols.length
  c : f.ins.cs.length ≤ 14
  s : f.ins.st.length ≤ 18
  l : ∀ i, i < f.cols.length → (f.cols.getD i default).ce.length ≤ 14 ∧ (f.cols.getD i default).ce.length ≤ (g.cols.getD i default).ce.length
theorem TwoOk.of {f g : Lf} (hf : LfSm f) (hg : LfSm g) (h : twoE f g = 0) : TwoOk f g := by
  have hs := TwoSm.of hf hg h
  obtain ⟨h1, h2, h3⟩ := twoE_zero h
  obtain ⟨q1, q2, q3⟩ := lchk_zero h1
  obtain ⟨q4, q5, _⟩ := chkI_small q1
  exact ⟨q2, hs.n, q4, q5, fun i hi => ⟨by rw [(q3 i hi).1.len]; exact q4, hs.c i hi⟩⟩
end Go.Proofs.YtdefefeifcdogaaGreat
namespace Go.Proofs.YtdefefeifcdogaaGreat
open Go.RowKit
set_option linter.unusedSimpArgs false
set_option linter.unusedVariables false

section
variable {P : Program} {G : Ground}
end
def asX : Code := (.seq (.region 6 #[ (.mk (some 6) (.assign (.tmp 16)) 3 "piece.go:176" #[] none) ] false) (.region 7 #[ (.mk (some 7) (.assign (.tmp 17)) 3 "piece.go:176" #[] none) ] false))
def bdX : Code := (.block 1 (.region 8 #[ (.mk (some 18) (.load 23 (.tmp 5)) 23 "piece.go:177" #[] none) , (.mk (some 19) (.load 23 (.tmp 5)) 23 "piece.go:177" #[] none) , (.mk (some 20) (.move (.tmp 6)) 3 "piece.go:177" #[] none) , (.mk (some 21) (.indexAddr 23 (.tmp 19) (.tmp 20)) 0 "piece.go:177" #[ (.mk 1 .data) , (.mk 2 .data) ] none) , (.mk (some 22) (.load 3 (.tmp 21)) 3 "piece.go:177" #[ (.mk 3 .data) ] none) , (.mk (some 23) (.move (.tmp 7)) 3 "piece.go:177" #[] none) , (.mk (some 24) (.binOp .add 3 (.tmp 22) (.tmp 23) 3) 3 "piece.go:177" #[ (.mk 4 .data) , (.mk 5 .data) ] none) , (.mk (some 25) (.buildSlice 23 1 #[ (0, (.tmp 24)) ]) 23 "piece.go:177" #[ (.mk 6 .data) ] none) , (.mk (some 26) (.call (.mk (.builtin .append) #[ (.tmp 18) , (.tmp 25) ] #[23, 23])) 23 "piece.go:177" #[ (.mk 0 .data) , (.mk 7 .data) ] none) , (.mk none (.store 23 (.tmp 5) (.tmp 26)) 0 "piece.go:177" #[ (.mk 8 .data) , (.mk 8 .chain) , (.mk 0 .phase) , (.mk 1 .phase) , (.mk 2 .phase) , (.mk 3 .phase) , (.mk 4 .phase) , (.mk 5 .phase) , (.mk 6 .phase) , (.mk 7 .phase) , (.mk 8 .phase) ] none) ] true))
/-- One round of Onsets. -/
def RdPost (m : Mm) (i b : Nat) (tmps : List V) (k : Nat) (l : List Int) (d : Int) (r : V) (m' : Mm) : Prop := r = vbool true ∧ (∃ tok, m'.obj b = some (.box [.sl (k + 2) ((l ++ [l.getD k 0 + d]).map vint) tok] 23) ∧ Apb m' tok (k + 2) 3 1) ∧ m'.obj i = some (.oth (.loop tmps #[16, 17] asX bdX .ready)) ∧ m.next ≤ m'.next
theorem RdPost.ne {m : Mm} {i b : Nat} {tmps : List V} {k : Nat} {l : List Int} {d : Int} (hbi : b ≠ i) : ∃ r m', RdPost m i b tmps k l d r m' :=
  ⟨_, (m.put b (.box [.sl (k + 2) ((l ++ [l.getD k 0 + d]).map vint) .exact] 23)).put i (.oth (.loop tmps #[16, 17] asX bdX .ready)), rfl,
    ⟨.exact, by show (if b = i then _ else if b = b then _ else _) = _; rw [if_neg hbi, if_pos rfl], .inl rfl⟩, by show (if i = i then _ else _) = _; rw [if_pos rfl], Nat.le_refl _⟩
theorem tk0_bd : ∀ n : Nat, 0 ≤ tk0 n ∧ tk0 n ≤ 1000000
  | 0 | 1 | 2 | 3 | 4 | 5 | 6 | 7 => by decide
  | n + 8 => by show (0 : Int) ≤ 0 ∧ (0 : Int) ≤ 1000000; omega
theorem tkS_bd (s : Sg) : 0 ≤ tkS s ∧ tkS s ≤ 2000000 := by
  have h := tk0_bd s.v.toNat
  unfold tkS
  split
  · split
    · omega
    · split
      · omega
      · omega
  · omega
section
variable {P : Program} {G : Ground}
end
end Go.Proofs.YtdefefeifcdogaaGreat
