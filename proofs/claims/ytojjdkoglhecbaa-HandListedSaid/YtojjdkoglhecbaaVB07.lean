/- Functions of the program, as code on values by numbers: printed by a program from the program that was given, and held against it here. The net of a search, in plain terms: all grips of all chords, their own costs, and the least costs from each of them to the end. Nothing is run here. The net of a search, run: a step in it, the ways from a grip to the next chord, and what settle does at each of them. The net of a search, run: settle fills the table of least costs, from the end on. The net of a search, run: settle, and weave, which makes the net. The net of a search, run: weave makes it. The net of a search, run: Prove, and the reference's table of grips and its Prove. The queue of the lister, run: before and push. The queue of the lister, run: pop. The lister, run: the ways of a net that stands; the ways of a grip, in plain terms. The lister, run: a node, as it is made. The lister, run: a node is made. The lister, run: the node of a grip. The lister, run: the first of what a node lists. The lister, run: get, for the first rank. A list in a box that grows. Nothing is proved of the program here. The lister, run: it is made. -/
import Derived.Test.YtojjdkoglhecbaaG0
import Derived.Test.YtojjdkoglhecbaaWk
import Derived.Test.YtojjdkoglhecbaaVB03
import Derived.Test.YtojjdkoglhecbaaVB04
import Derived.Test.YtojjdkoglhecbaaXw
import Derived.Test.YtojjdkoglhecbaaVB06
set_option linter.unusedSimpArgs false
set_option linter.unusedVariables false
namespace Go.Proofs.Ytojjdkoglhecbaa
open Go.RowKit
set_option maxRecDepth 100000

abbrev c_hand_weave_b_p1 : VC := (.seq (.ops 0 [oo 19 .mv [.t 6], oo 4 .mv [(.c (.lit (.pointer none)))], oo 5 .mv [.t 19]]) .ret)
abbrev c_hand_weave_b_p2 : VC := (.seq (.ops 0 [oo 17 .mv [.t 6], oo 18 (.bin .neq) [.t 17, kk 0]]) (.cond (.t 18) c_hand_weave_b_p1 .skip))
abbrev c_hand_weave_b_p3 : VC := (.seq (.ops 0 [oo 4 .mv [(.c (.lit (.pointer none)))], oo 5 .mv [kk 2]]) .ret)
abbrev c_hand_weave_b_p4 : VC := (.ops 8 [oo 42 .mv [.t 11], oo 43 (.ldA 10) [.t 2], oo 44 (.ldA 3) [.t 9], oo 45 (.ldA 2) [.t 13], oo 46 (.call 81) [.t 43, .t 44, .t 45], oo 47 (.mksl 1 1 [li 0] [(0, 1)]) [.t 46], oo 48 (.app 3 1 8) [.t 42, .t 47], oo 11 .mv [.t 48]])
abbrev c_hand_weave_b_p5 : VC := (.ops 0 [oo 49 (.bin .add) [.t 38, kk 1], oo 38 .mv [.t 49]])
abbrev c_hand_weave_b_p6 : VC := (.seq (.block 3 (.seq (.ops 4 [oo 40 (.ixA 2) [.t 36, .t 38], oo 41 (.ldA 2) [.t 40], ⟨(some 13), none, (.alloc 53 [li 0, (.sl 0 [] .exact)]), [], none⟩, ⟨none, none, (.st 2), [.t 13, .t 41], none⟩]) c_hand_weave_b_p4)) c_hand_weave_b_p5)
abbrev c_hand_weave_b_p7 : VC := (.seq (.ops 0 [oo 39 (.bin .lss) [.t 38, .t 37]]) (.seq (.cond (.t 39) .skip (.exit 2)) c_hand_weave_b_p6))
@[go_sem] abbrev w_hand_weave_b_p7 : Nat := 1125625028945920
abbrev c_hand_weave_b_p9 : VC := (.ops 11 [oo 60 .mv [.t 7], oo 61 .mv [.t 7], oo 62 .nilck [.t 61], oo 63 (.fldA 12) [.t 62], oo 64 .ld1 [.t 63], oo 65 .mv [.t 11], ⟨(some 66), none, (.mksl 1 1 [(.sl 0 [] .exact)] [(0, 1)]), [.t 65], none⟩, oo 67 (.appM 22 1 24) [.t 64, .t 66], oo 68 .nilck [.t 60], oo 69 (.fldA 12) [.t 68], ⟨none, none, (.st 1), [.t 69, .t 67], none⟩])
abbrev c_hand_weave_b_p10 : VC := (.seq (.ops 11 [oo 50 .mv [.t 7], oo 51 .mv [.t 7], oo 52 .nilck [.t 51], oo 53 (.fldA 11) [.t 52], oo 54 .ld1 [.t 53], oo 55 .mv [.t 10], ⟨(some 56), none, (.mksl 1 1 [(.sl 0 [] .exact)] [(0, 1)]), [.t 55], none⟩, oo 57 (.appM 38 1 24) [.t 54, .t 56], oo 58 .nilck [.t 50], oo 59 (.fldA 11) [.t 58], ⟨none, none, (.st 1), [.t 59, .t 57], none⟩]) c_hand_weave_b_p9)
abbrev c_hand_weave_b_p11 : VC := (.seq (.seq (.ops 0 [oo 36 .mv [.t 10], oo 37 .len [.t 36], oo 38 .mv [kk 0]]) (.block 2 (.loop c_hand_weave_b_p7))) c_hand_weave_b_p10)
abbrev c_hand_weave_b_p12 : VC := (.seq (.ops 0 [oo 11 .mv [(.c (.sl 0 [] .exact))]]) c_hand_weave_b_p11)
abbrev c_hand_weave_b_p13 : VC := (.seq (.seq (.ops 0 [oo 33 .mv [.t 10], oo 34 .len [.t 33], oo 35 (.bin .gtr) [.t 34, kk 200]]) (.cond (.t 35) c_hand_weave_b_p3 .skip)) c_hand_weave_b_p12)
abbrev c_hand_weave_b_p14 : VC := (.seq (.ops 0 [oo 30 (.ldA 10) [.t 2], oo 31 (.ldA 3) [.t 9], oo 32 (.call 71) [.t 30, .t 31], oo 10 .mv [.t 32]]) c_hand_weave_b_p13)
abbrev c_hand_weave_b_p15 : VC := (.ops 0 [oo 70 (.bin .add) [.t 26, kk 1], oo 26 .mv [.t 70]])
abbrev c_hand_weave_b_p16 : VC := (.seq (.block 1 (.seq (.ops 4 [oo 28 (.ixA 3) [.t 24, .t 26], oo 29 (.ldA 3) [.t 28], ⟨(some 9), none, (.alloc 47 [(.sl 0 [] .exact), (.sl 0 [] .exact), (.sl 0 [] .exact)]), [], none⟩, ⟨none, none, (.st 3), [.t 9, .t 29], none⟩]) c_hand_weave_b_p14)) c_hand_weave_b_p15)
abbrev c_hand_weave_b_p17 : VC := (.seq (.ops 0 [oo 27 (.bin .lss) [.t 26, .t 25]]) (.seq (.cond (.t 27) .skip (.exit 0)) c_hand_weave_b_p16))
@[go_sem] abbrev w_hand_weave_b_p17 : Nat := 2361183241434755509808
abbrev c_hand_weave_b_p19 : VC := (.seq (.ops 0 [oo 73 .mv [.t 7], oo 4 .mv [.t 73], oo 5 .mv [kk 0]]) .ret)
abbrev c_hand_weave_b_p20 : VC := (.seq (.ops 0 [oo 71 .mv [.t 7], oo 72 (.call 103) [.t 71]]) c_hand_weave_b_p19)
abbrev c_hand_weave_b_p21 : VC := (.seq (.seq (.ops 0 [oo 24 .mv [.t 1], oo 25 .len [.t 24], oo 26 .mv [kk 0]]) (.block 0 (.loop c_hand_weave_b_p17))) c_hand_weave_b_p20)
abbrev c_hand_weave_b_p22 : VC := (.seq (.ops 5 [oo 20 (.ldA 10) [.t 2], oo 21 .mv [.t 1], ⟨(some 22), none, (.build [(.sl 0 [] .exact), (.sl 0 [] .exact), (.sl 0 [] .exact), li 0, li 0, li 0, li 0, li 0, li 0, li 0, (.sl 0 [] .exact), (.sl 0 [] .exact), (.sl 0 [] .exact), (.sl 0 [] .exact)] [(0, 10), (10, 1)]), [.t 20, .t 21], none⟩, oo 23 (.box 123) [.t 22], oo 7 .mv [.t 23]]) c_hand_weave_b_p21)
abbrev c_hand_weave_b_p23 : VC := (.seq (.seq (.ops 0 [oo 14 (.ldA 10) [.t 2], oo 15 .mv [.t 1], oo 16 (.call 102) [.t 14, .t 15], oo 6 .mv [.t 16]]) c_hand_weave_b_p2) c_hand_weave_b_p22)
def c_hand_weave_b : VC := (.seq (.ops 3 [oo 2 (.box 25) [.t 0], oo 4 .mv [(.c (.lit (.pointer none)))], oo 5 .mv [kk 0]]) c_hand_weave_b_p23)
theorem k_hand_weave_b : Comp Try.prog (fun n => [57,1000057,67,1000067].contains n) gtab 69 74 c_hand_weave_b [.t 4, .t 5] := ⟨⟨Try.f69, _, Try.func69, rfl, rfl, kr, kr⟩⟩
abbrev c_hand_net_settle_p1 : VC := (.ops 0 [oo 46 .ld1 [.t 4], ⟨none, none, (.st 1), [.t 5, .t 46], none⟩])
abbrev c_hand_net_settle_p2 : VC := (.ops 17 [od 52 .ld1 [.t 1] [], oo 53 .nilck [.t 52], oo 54 (.fldA 13) [.t 53], od 55 .ld1 [.t 54] [0, 1, 2], od 56 .ld1 [.t 2] [], od 57 .ld1 [.t 1] [], oo 58 .nilck [.t 57], oo 59 (.fldA 13) [.t 58], od 60 .ld1 [.t 59] [5, 6, 7], od 61 .ld1 [.t 2] [], oo 62 (.ixA 1) [.t 60, .t 61], od 63 .ld1 [.t 62] [5, 6, 7, 8, 9, 10], od 64 .ld1 [.t 5] [], oo 65 (.mksl 1 1 [li 0] [(0, 1)]) [.t 64], od 66 (.app 3 1 8) [.t 63, .t 65] [5, 6, 7, 8, 9, 10, 11, 12, 13], oo 67 (.ixA 1) [.t 55, .t 56], ⟨none, none, (.st 1), [.t 67, .t 66], none⟩])
def c_hand_net_settle_p3 : VC := (.seq (.ops 0 [oo 47 .ld1 [.t 1], oo 48 .ld1 [.t 2], oo 49 .mv [.t 3], oo 50 (.mkfn 131) [.t 4, .t 1, .t 2, .t 5], oo 51 (.call 88) [.t 47, .t 48, .t 49, .t 50]]) c_hand_net_settle_p2)
abbrev c_hand_net_settle_p4 : VC := (.seq (.seq (.ops 0 [od 38 .ld1 [.t 2] [], od 39 .ld1 [.t 1] [], oo 40 .nilck [.t 39], oo 41 (.fldA 10) [.t 40], od 42 .ld1 [.t 41] [1, 2, 3], oo 43 .len [.t 42], oo 44 (.bin .sub) [.t 43, kk 1], oo 45 (.bin .eql) [.t 38, .t 44]]) (.cond (.t 45) c_hand_net_settle_p1 .skip)) c_hand_net_settle_p3)
abbrev c_hand_net_settle_p5 : VC := (.seq (.ops 2 [oo 5 (.alloc 3 [li 0]) [], ⟨none, none, (.st 1), [.t 5, kk (-1)], none⟩]) c_hand_net_settle_p4)
abbrev c_hand_net_settle_p6 : VC := (.ops 0 [oo 68 (.bin .add) [.t 33, kk 1], oo 33 .mv [.t 68]])
abbrev c_hand_net_settle_p7 : VC := (.seq (.block 3 (.seq (.ops 6 [oo 35 .mv [.t 33], oo 36 (.ixA 1) [.t 31, .t 33], oo 37 .ld1 [.t 36], oo 4 (.alloc 3 [li 0]) [], oo 3 .mv [.t 35], ⟨none, none, (.st 1), [.t 4, .t 37], none⟩]) c_hand_net_settle_p5)) c_hand_net_settle_p6)
abbrev c_hand_net_settle_p8 : VC := (.seq (.ops 0 [oo 34 (.bin .lss) [.t 33, .t 32]]) (.seq (.cond (.t 34) .skip (.exit 2)) c_hand_net_settle_p7))
@[go_sem] abbrev w_hand_net_settle_p8 : Nat := 590295810350115717176
abbrev c_hand_net_settle_p10 : VC := (.ops 2 [oo 2 (.alloc 3 [li 0]) [], ⟨none, none, (.st 1), [.t 2, .t 69], none⟩])
abbrev c_hand_net_settle_p11 : VC := (.ops 0 [oo 23 .ld1 [.t 2], oo 24 (.bin .sub) [.t 23, kk 1], ⟨none, none, (.st 1), [.t 2, .t 24], none⟩])
abbrev c_hand_net_settle_p12 : VC := (.seq (.seq (.ops 0 [oo 69 .ld1 [.t 2]]) c_hand_net_settle_p10) c_hand_net_settle_p11)
abbrev c_hand_net_settle_p13 : VC := (.seq (.block 1 (.seq (.ops 0 [od 25 .ld1 [.t 1] [], oo 26 .nilck [.t 25], oo 27 (.fldA 12) [.t 26], od 28 .ld1 [.t 27] [0, 1, 2], od 29 .ld1 [.t 2] [], oo 30 (.ixA 1) [.t 28, .t 29], oo 31 .ld1 [.t 30], oo 32 .len [.t 31], oo 33 .mv [kk 0]]) (.block 2 (.loop c_hand_net_settle_p8)))) c_hand_net_settle_p12)
abbrev c_hand_net_settle_p14 : VC := (.seq (.seq (.ops 0 [oo 21 .ld1 [.t 2], oo 22 (.bin .geq) [.t 21, kk 0]]) (.cond (.t 22) .skip (.exit 0))) c_hand_net_settle_p13)
@[go_sem] abbrev w_hand_net_settle_p14 : Nat := 1180591620717409206332
abbrev c_hand_net_settle_p16 : VC := (.seq (.ops 8 [oo 15 .ld1 [.t 1], oo 16 .nilck [.t 15], oo 17 (.fldA 10) [.t 16], oo 18 .ld1 [.t 17], oo 19 .len [.t 18], oo 20 (.bin .sub) [.t 19, kk 1], oo 2 (.alloc 3 [li 0]) [], ⟨none, none, (.st 1), [.t 2, .t 20], none⟩]) (.block 0 (.loop c_hand_net_settle_p14)))
abbrev c_hand_net_settle_p17 : VC := (.seq (.ops 10 [od 6 .ld1 [.t 1] [], od 7 .ld1 [.t 1] [], oo 8 .nilck [.t 7], oo 9 (.fldA 10) [.t 8], od 10 .ld1 [.t 9] [1, 2, 3], oo 11 .len [.t 10], ⟨(some 12), none, (.mk 22 1 24 [(.sl 0 [] .exact)]), [.t 11, .t 11], (some [1, 2, 3, 4, 5])⟩, oo 13 .nilck [.t 6], oo 14 (.fldA 13) [.t 13], ⟨none, none, (.st 1), [.t 14, .t 12], none⟩]) c_hand_net_settle_p16)
def c_hand_net_settle : VC := (.seq (.ops 1 [oo 1 (.box 104) [.t 0]]) c_hand_net_settle_p17)
theorem k_hand_net_settle : Comp Try.prog nobx gtab 103 70 c_hand_net_settle [] := ⟨⟨Try.f103, _, Try.func103, rfl, rfl, kr, kr⟩⟩
abbrev c_hand_net_settle_1_p1 : VC := (.ops 0 [oo 31 .mv [.t 8], ⟨none, none, (.st 1), [.t 5, .t 31], none⟩])
abbrev c_hand_net_settle_1_p2 : VC := (.seq (.ops 0 [oo 24 .ld1 [.t 5], oo 25 (.bin .eql) [.t 24, kk (-1)], oo 26 .mv [.t 25], og 27 26 false .mv [.t 8], og 28 26 false .ld1 [.t 5], og 29 26 false (.bin .lss) [.t 27, .t 28], oo 30 .pick [.t 26, (.c (.lit (.bool true))), .t 29]]) (.cond (.t 30) c_hand_net_settle_1_p1 .skip))
def c_hand_net_settle_1 : VC := (.seq (.ops 0 [od 9 .ld1 [.t 2] [], oo 10 .mv [.t 1], oo 11 (.bin .add) [.t 9, .t 10], od 12 .ld1 [.t 3] [], oo 13 .nilck [.t 12], oo 14 (.fldA 13) [.t 13], od 15 .ld1 [.t 14] [3, 4, 5], od 16 .ld1 [.t 4] [], oo 17 (.bin .add) [.t 16, kk 1], oo 18 (.ixA 1) [.t 15, .t 17], od 19 .ld1 [.t 18] [3, 4, 5, 6, 7, 8, 9], oo 20 .mv [.t 0], oo 21 (.ixA 1) [.t 19, .t 20], od 22 .ld1 [.t 21] [3, 4, 5, 6, 7, 8, 9, 10, 11, 12], oo 23 (.bin .add) [.t 11, .t 22], oo 8 .mv [.t 23]]) c_hand_net_settle_1_p2)
theorem k_hand_net_settle_1 : Comp Try.prog nobx gtab 131 32 c_hand_net_settle_1 [] := ⟨⟨Try.f131, _, Try.func131, rfl, rfl, kr, kr⟩⟩
abbrev c_hand_net_ways_p1 : VC := (.ops 0 [oo 45 .mv [.t 3], oo 46 .mv [.t 8], oo 47 .mv [.t 10], oo 48 .callv [.t 45, .t 46, .t 47]])
abbrev c_hand_net_ways_p2 : VC := (.seq (.ops 0 [oo 44 .mv [.t 11]]) (.cond (.t 44) c_hand_net_ways_p1 .skip))
abbrev c_hand_net_ways_p3 : VC := (.seq (.ops 0 [oo 37 .mv [.t 0], oo 38 .mv [.t 1], oo 39 .mv [.t 2], oo 40 .mv [.t 8], oo 41 (.call 94) [.t 37, .t 38, .t 39, .t 40], oo 36 .mv [.t 41], oo 42 (.ext 0) [.t 36], oo 43 (.ext 1) [.t 36], oo 10 .mv [.t 42], oo 11 .mv [.t 43]]) c_hand_net_ways_p2)
abbrev c_hand_net_ways_p4 : VC := (.seq (.seq (.ops 0 [oo 34 .mv [.t 9], oo 35 (.bin .eql) [.t 34, kk (-1)]]) (.cond (.t 35) (.exit 1) .skip)) c_hand_net_ways_p3)
abbrev c_hand_net_ways_p5 : VC := (.ops 0 [oo 49 (.bin .add) [.t 29, kk 1], oo 29 .mv [.t 49]])
abbrev c_hand_net_ways_p6 : VC := (.seq (.block 1 (.seq (.ops 0 [oo 31 .mv [.t 29], oo 32 (.ixA 1) [.t 27, .t 29], oo 33 .ld1 [.t 32], oo 8 .mv [.t 31], oo 9 .mv [.t 33]]) c_hand_net_ways_p4)) c_hand_net_ways_p5)
abbrev c_hand_net_ways_p7 : VC := (.seq (.ops 0 [oo 30 (.bin .lss) [.t 29, .t 28]]) (.seq (.cond (.t 30) .skip (.exit 0)) c_hand_net_ways_p6))
@[go_sem] abbrev w_hand_net_ways_p7 : Nat := 1125899369975552
abbrev c_hand_net_ways_p9 : VC := (.seq (.ops 0 [oo 20 .mv [.t 0], oo 21 .nilck [.t 20], oo 22 (.fldA 13) [.t 21], oo 23 .ld1 [.t 22], oo 24 .mv [.t 1], oo 25 (.bin .add) [.t 24, kk 1], oo 26 (.ixA 1) [.t 23, .t 25], oo 27 .ld1 [.t 26], oo 28 .len [.t 27], oo 29 .mv [kk 0]]) (.block 0 (.loop c_hand_net_ways_p7)))
def c_hand_net_ways : VC := (.seq (.seq (.ops 0 [oo 12 .mv [.t 1], oo 13 .mv [.t 0], oo 14 .nilck [.t 13], oo 15 (.fldA 10) [.t 14], oo 16 .ld1 [.t 15], oo 17 .len [.t 16], oo 18 (.bin .sub) [.t 17, kk 1], oo 19 (.bin .eql) [.t 12, .t 18]]) (.cond (.t 19) .ret .skip)) c_hand_net_ways_p9)
theorem k_hand_net_ways : Comp Try.prog nobx gtab 88 50 c_hand_net_ways [] := ⟨⟨Try.f88, _, Try.func88, rfl, rfl, kr, kr⟩⟩
abbrev c_hand_net_step_p1 : VC := (.seq (.ops 0 [oo 10 .mv [.t 0], oo 11 .nilck [.t 10], oo 12 (.fldA 0) [.t 11], od 13 (.ldA 10) [.t 12] [0, 1, 2], oo 14 .mv [.t 0], oo 15 .nilck [.t 14], oo 16 (.fldA 10) [.t 15], od 17 .ld1 [.t 16] [4, 5, 6], oo 18 .mv [.t 1], oo 19 (.ixA 3) [.t 17, .t 18], od 20 (.ldA 3) [.t 19] [4, 5, 6, 7, 8, 9], oo 21 .mv [.t 0], oo 22 .nilck [.t 21], oo 23 (.fldA 11) [.t 22], od 24 .ld1 [.t 23] [11, 12, 13], oo 25 .mv [.t 1], oo 26 (.ixA 1) [.t 24, .t 25], od 27 .ld1 [.t 26] [11, 12, 13, 14, 15, 16], oo 28 .mv [.t 2], oo 29 (.ixA 2) [.t 27, .t 28], od 30 (.ldA 2) [.t 29] [11, 12, 13, 14, 15, 16, 17, 18, 19], oo 31 .mv [.t 0], oo 32 .nilck [.t 31], oo 33 (.fldA 10) [.t 32], od 34 .ld1 [.t 33] [21, 22, 23], oo 35 .mv [.t 1], oo 36 (.bin .add) [.t 35, kk 1], oo 37 (.ixA 3) [.t 34, .t 36], od 38 (.ldA 3) [.t 37] [21, 22, 23, 24, 25, 26, 27], oo 39 .mv [.t 0], oo 40 .nilck [.t 39], oo 41 (.fldA 11) [.t 40], od 42 .ld1 [.t 41] [29, 30, 31], oo 43 .mv [.t 1], oo 44 (.bin .add) [.t 43, kk 1], oo 45 (.ixA 1) [.t 42, .t 44], od 46 .ld1 [.t 45] [29, 30, 31, 32, 33, 34, 35], oo 47 .mv [.t 3], oo 48 (.ixA 2) [.t 46, .t 47], od 49 (.ldA 2) [.t 48] [29, 30, 31, 32, 33, 34, 35, 36, 37, 38], oo 50 (.call 83) [.t 13, .t 20, .t 30, .t 38, .t 49], oo 51 (.ext 0) [.t 50], oo 52 (.ext 1) [.t 50], oo 8 .mv [.t 51], oo 9 .mv [.t 52]]) .ret)
def c_hand_net_step : VC := (.seq (.ops 0 [oo 8 .mv [kk 0], oo 9 .mv [(.c (.lit (.bool false)))]]) c_hand_net_step_p1)
theorem k_hand_net_step : Comp Try.prog nobx gtab 94 53 c_hand_net_step [.t 8, .t 9] := ⟨⟨Try.f94, _, Try.func94, rfl, rfl, kr, kr⟩⟩
end Go.Proofs.Ytojjdkoglhecbaa
namespace Go.Proofs.Ytojjdkoglhecbaa
open Go.RowKit
set_option maxRecDepth 100000

abbrev c_theorbolaw06_Heavy_p1 : VC := (.seq (.ops 0 [oo 4 .mv [(.c (.lit (.bool false)))]]) .ret)
abbrev c_theorbolaw06_Heavy_p2 : VC := (.seq (.ops 0 [oo 4 .mv [(.c (.lit (.bool true)))]]) .ret)
abbrev c_theorbolaw06_Heavy_p3 : VC := (.seq (.ops 0 [oo 4 .mv [(.c (.lit (.bool false)))]]) .ret)
abbrev c_theorbolaw06_Heavy_p4 : VC := (.ops 0 [oo 44 .mv [.t 8], oo 45 .len [.t 44], oo 6 .mv [.t 45]])
abbrev c_theorbolaw06_Heavy_p5 : VC := (.seq (.ops 0 [oo 38 .mv [.t 5], oo 39 .mv [.t 6], oo 40 .mv [.t 8], oo 41 .len [.t 40], oo 42 (.bin .mul) [.t 39, .t 41], oo 43 (.bin .add) [.t 38, .t 42], oo 5 .mv [.t 43]]) c_theorbolaw06_Heavy_p4)
abbrev c_theorbolaw06_Heavy_p6 : VC := (.seq (.seq (.ops 0 [oo 36 .mv [.t 9], oo 37 (.bin .neq) [.t 36, kk 0]]) (.cond (.t 37) c_theorbolaw06_Heavy_p3 .skip)) c_theorbolaw06_Heavy_p5)
abbrev c_theorbolaw06_Heavy_p7 : VC := (.ops 0 [oo 25 .mv [.t 7], oo 26 (.bin .add) [.t 25, kk 1], oo 7 .mv [.t 26]])
abbrev c_theorbolaw06_Heavy_p8 : VC := (.seq (.block 1 (.seq (.ops 0 [od 28 (.ldA 10) [.t 2] [], oo 29 .mv [.t 1], oo 30 .mv [.t 7], oo 31 (.ixA 3) [.t 29, .t 30], od 32 (.ldA 3) [.t 31] [1, 2, 3], oo 33 (.call 33) [.t 28, .t 32], oo 27 .mv [.t 33], oo 34 (.ext 0) [.t 27], oo 35 (.ext 1) [.t 27], oo 8 .mv [.t 34], oo 9 .mv [.t 35]]) c_theorbolaw06_Heavy_p6)) c_theorbolaw06_Heavy_p7)
abbrev c_theorbolaw06_Heavy_p9 : VC := (.seq (.seq (.ops 0 [oo 21 .mv [.t 7], oo 22 .mv [.t 1], oo 23 .len [.t 22], oo 24 (.bin .lss) [.t 21, .t 23]]) (.cond (.t 24) .skip (.exit 0))) c_theorbolaw06_Heavy_p8)
@[go_sem] abbrev w_theorbolaw06_Heavy_p9 : Nat := 70368742081520
abbrev c_theorbolaw06_Heavy_p11 : VC := (.seq (.ops 0 [oo 46 .mv [.t 5], oo 47 (.bin .gtr) [.t 46, kk 6000], oo 4 .mv [.t 47]]) .ret)
abbrev c_theorbolaw06_Heavy_p12 : VC := (.seq (.seq (.ops 0 [oo 7 .mv [kk 0]]) (.block 0 (.loop c_theorbolaw06_Heavy_p9))) c_theorbolaw06_Heavy_p11)
abbrev c_theorbolaw06_Heavy_p13 : VC := (.seq (.ops 0 [oo 5 .mv [kk 0], oo 6 .mv [kk 0]]) c_theorbolaw06_Heavy_p12)
abbrev c_theorbolaw06_Heavy_p14 : VC := (.seq (.seq (.ops 0 [oo 18 .mv [.t 1], oo 19 .len [.t 18], oo 20 (.bin .gtr) [.t 19, kk 24]]) (.cond (.t 20) c_theorbolaw06_Heavy_p2 .skip)) c_theorbolaw06_Heavy_p13)
abbrev c_theorbolaw06_Heavy_p15 : VC := (.seq (.seq (.ops 0 [oo 10 (.ldA 10) [.t 2], oo 11 (.call 25) [.t 10], oo 12 (.bin .neq) [.t 11, kk 0], oo 13 .mv [.t 12], og 14 13 false .mv [.t 1], og 15 13 false (.call 27) [.t 14], og 16 13 false (.bin .neq) [.t 15, kk 0], oo 17 .pick [.t 13, (.c (.lit (.bool true))), .t 16]]) (.cond (.t 17) c_theorbolaw06_Heavy_p1 .skip)) c_theorbolaw06_Heavy_p14)
def c_theorbolaw06_Heavy : VC := (.seq (.ops 2 [oo 2 (.box 25) [.t 0], oo 4 .mv [(.c (.lit (.bool false)))]]) c_theorbolaw06_Heavy_p15)
theorem k_theorbolaw06_Heavy : Comp Try.prog nobx gtab 29 48 c_theorbolaw06_Heavy [.t 4] := ⟨⟨Try.f29, _, Try.func29, rfl, rfl, kr, kr⟩⟩
end Go.Proofs.Ytojjdkoglhecbaa
namespace Go.Proofs.Ytojjdkoglhecbaa
open Go.RowKit
set_option linter.unusedSimpArgs false
set_option linter.unusedVariables false

theorem mem_getD {α : Type} {l : List α} {k : Nat} (d : α) (hk : k < l.length) : l.getD k d ∈ l := by
  rw [List.getD_eq_getElem?_getD, List.getElem?_eq_getElem hk]; exact List.getElem_mem hk
/-- A net: a sequence that is valid, with grips of each chord that fit it. -/
structure NetOk (h : Hand) (l : List Chord) (Gs : List (List Grip)) : Prop where
  hk : HandOk h
  fits : Fits l
  seq : SeqOk l
  len : l.length ≤ 400
  gl : Gs.length = l.length
  fit : ∀ i, i < l.length → ∀ g ∈ Gs.getD i [], FitG h (l.getD i noC) g
  cnt : ∀ i, (Gs.getD i []).length ≤ 200

theorem NetOk.at {h : Hand} {l : List Chord} {Gs : List (List Grip)} (hn : NetOk h l Gs) {i k : Nat} (hi : i < l.length) (hk : k < (Gs.getD i []).length) : FitG h (l.getD i noC) ((Gs.getD i []).getD k noG) :=
  hn.fit i hi _ (mem_getD _ hk)
/-- What is known of a grip that fits. -/
theorem NetOk.grip {h : Hand} {l : List Chord} {Gs : List (List Grip)} (hn : NetOk h l Gs) {i k : Nat} (hi : i < l.length) (hk : k < (Gs.getD i []).length) :
    (1 ≤ ((Gs.getD i []).getD k noG).pos ∧ ((Gs.getD i []).getD k noG).pos ≤ 18) ∧ ((Gs.getD i []).getD k noG).fingers.length = (l.getD i noC).down.length := by
  have h1 := hn.at hi hk
  have h2 := hn.hk.top
  have h3 := h1.pos
  exact ⟨⟨h3.1, by omega⟩, h1.len⟩

/-- The least cost from a grip to the end, by the steps to the first m grips of the next chord (-1: there is none). -/
noncomputable def bsU (h : Hand) (a : Chord) (g : Grip) (b : Chord) (K : List Grip) (N : List Int) : Nat → Int
  | 0 => -1
  | m + 1 => if N.getD m 0 = -1 then bsU h a g b K N m else if (stepR h a g b (K.getD m noG)).2 = true then
      (if bsU h a g b K N m = -1 ∨ ownC h a g + stepC h a g b (K.getD m noG) + N.getD m 0 < bsU h a g b K N m then ownC h a g + stepC h a g b (K.getD m noG) + N.getD m 0 else bsU h a g b K N m)
    else bsU h a g b K N m
/-- The element of a grip. -/
noncomputable def rsE (h : Hand) (l : List Chord) (Gs : List (List Grip)) (i : Nat) (N : List Int) (g : Grip) : Int :=
  if i + 1 = l.length then ownC h (l.getD i noC) g else bsU h (l.getD i noC) g (l.getD (i + 1) noC) (Gs.getD (i + 1) []) N (Gs.getD (i + 1) []).length
/-- The last j rows. -/
noncomputable def rsU (h : Hand) (l : List Chord) (Gs : List (List Grip)) : Nat → List Int
  | 0 => []
  | j + 1 => (Gs.getD (l.length - 1 - j) []).map (rsE h l Gs (l.length - 1 - j) (rsU h l Gs j))
/-- The row of a chord. -/
noncomputable def rsT (h : Hand) (l : List Chord) (Gs : List (List Grip)) (i : Nat) : List Int := rsU h l Gs (l.length - i)
/-- The whole table. -/
noncomputable def rsA (h : Hand) (l : List Chord) (Gs : List (List Grip)) : List (List Int) := (List.range l.length).map (rsT h l Gs)

section
variable {h : Hand} {l : List Chord} {Gs : List (List Grip)}
theorem rsT_eq {i : Nat} (hi : i < l.length) : rsT h l Gs i = (Gs.getD i []).map (rsE h l Gs i (rsT h l Gs (i + 1))) := by
  rw [rsT, show l.length - i = (l.length - (i + 1)) + 1 by omega, rsU, show l.length - 1 - (l.length - (i + 1)) = i by omega]
  rfl
theorem rsT_len {i : Nat} (hi : i < l.length) : (rsT h l Gs i).length = (Gs.getD i []).length := by rw [rsT_eq hi, List.length_map]
theorem getD_map {α β : Type} (f : α → β) (l : List α) (d : α) (e : β) {k : Nat} (hk : k < l.length) : (l.map f).getD k e = f (l.getD k d) := by
  simp [List.getD_eq_getElem?_getD, List.getElem?_map, List.getElem?_eq_getElem hk]
theorem rsT_at {i k : Nat} (hi : i < l.length) (hk : k < (Gs.getD i []).length) : (rsT h l Gs i).getD k 0 = rsE h l Gs i (rsT h l Gs (i + 1)) ((Gs.getD i []).getD k noG) := by
  rw [rsT_eq hi, getD_map _ _ noG _ hk]
theorem rsA_len : (rsA h l Gs).length = l.length := by simp [rsA]
theorem rsA_at {i : Nat} (hi : i < l.length) : (rsA h l Gs).getD i [] = rsT h l Gs i := by
  rw [rsA, List.getD_eq_getElem?_getD, List.getElem?_map, List.getElem?_range hi]; rfl

/-- A number of a table, with n chords to go. -/
def InT (n : Nat) (x : Int) : Prop := x = -1 ∨ (0 ≤ x ∧ x ≤ 509000 * n)
theorem bsU_bound {n : Nat} {a : Chord} {g : Grip} {b : Chord} {K : List Grip} {N : List Int} (ho : 0 ≤ ownC h a g ∧ ownC h a g ≤ 404000) (hN : ∀ m, m < K.length → InT n (N.getD m 0))
    (hs : ∀ m, m < K.length → 0 ≤ stepC h a g b (K.getD m noG) ∧ stepC h a g b (K.getD m noG) ≤ 105000) : ∀ {m : Nat}, m ≤ K.length → InT (n + 1) (bsU h a g b K N m)
  | 0, _ => .inl rfl
  | m + 1, hm => by
    have ih := bsU_bound ho hN hs (m := m) (by omega)
    have h1 := hN m (by omega)
    have h2 := hs m (by omega)
    rw [bsU]
    split
    · exact ih
    · rename_i hne
      split
      · split
        · rcases h1 with h1 | h1
          · exact absurd h1 hne
          · exact .inr ⟨by omega, by omega⟩
        · exact ih
      · exact ih
theorem own_bound (hk : HandOk h) {c : Chord} (hc : ChordOk c) {g : Grip} (hp : 1 ≤ g.pos ∧ g.pos ≤ 18) : 0 ≤ ownC h c g ∧ ownC h c g ≤ 404000 := by
  have n4 := hk.n4
  have ho := ownU_bound hk hc hp (k := h.low.length) (Nat.le_refl _)
  rw [ownC]; omega
theorem rsT_bound (hn : NetOk h l Gs) : ∀ (j i : Nat), l.length - i = j → i < l.length → ∀ k, k < (Gs.getD i []).length → InT j ((rsT h l Gs i).getD k 0)
  | 0, i, hj, hi => by omega
  | j + 1, i, hj, hi => by
    intro k hk
    rw [rsT_at hi hk, rsE]
    have hg := hn.grip hi hk
    have ho := own_bound hn.hk (hn.seq i hi).1 hg.1
    split
    · exact .inr ⟨ho.1, by omega⟩
    · have hi1 : i + 1 < l.length := by omega
      exact bsU_bound ho (fun m hm => rsT_bound hn j (i + 1) (by omega) hi1 m hm) (fun m hm => stepC_bound hn.hk hg.1 (hn.grip hi1 hm).1) (Nat.le_refl _)
end

/-- What the search says of its arguments. -/
noncomputable def wvE (h : Hand) (l : List Chord) : Int := if bothE h l = 0 then (if ∀ k, k < l.length → (grpA h (l.getD k noC)).length ≤ 200 then 0 else 2) else bothE h l
/-- All grips of all chords. -/
noncomputable def tabG (h : Hand) (l : List Chord) : List (List Grip) := l.map (grpA h)
theorem tabG_at {h : Hand} {l : List Chord} {k : Nat} (hk : k < l.length) : (tabG h l).getD k [] = grpA h (l.getD k noC) := getD_map _ _ _ _ hk
theorem wv_ok {h : Hand} {l : List Chord} (hw : wvE h l = 0) : bothE h l = 0 ∧ ∀ k, k < l.length → (grpA h (l.getD k noC)).length ≤ 200 := by
  rw [wvE] at hw
  split at hw
  · rename_i hb
    split at hw
    · rename_i h1; exact ⟨hb, h1⟩
    · cases hw
  · rename_i hb; exact absurd hw hb
theorem wv_net {h : Hand} {l : List Chord} (hl : Fits l) (hw : wvE h l = 0) : NetOk h l (tabG h l) := by
  obtain ⟨hb, h1⟩ := wv_ok hw
  obtain ⟨hk, h4, hs⟩ := both_ok hb
  refine ⟨hk, hl, hs, h4, List.length_map _, fun i hi g hg => ?_, fun i => ?_⟩
  · rw [tabG_at hi] at hg; exact grpA_mem.1 hg
  · by_cases hi : i < l.length
    · rw [tabG_at hi]; exact h1 i hi
    · rw [List.getD_eq_getElem?_getD, List.getElem?_eq_none (by rw [tabG, List.length_map]; omega)]; simp
/-- The own costs. -/
noncomputable def owR (h : Hand) (l : List Chord) (Gs : List (List Grip)) (i : Nat) : List Int := (Gs.getD i []).map (ownC h (l.getD i noC))
noncomputable def owA (h : Hand) (l : List Chord) (Gs : List (List Grip)) : List (List Int) := (List.range l.length).map (owR h l Gs)
theorem owR_len (h : Hand) (l : List Chord) (Gs : List (List Grip)) (i : Nat) : (owR h l Gs i).length = (Gs.getD i []).length := List.length_map _
theorem owA_len (h : Hand) (l : List Chord) (Gs : List (List Grip)) : (owA h l Gs).length = l.length := by simp [owA]
theorem owA_at {h : Hand} {l : List Chord} {Gs : List (List Grip)} {i : Nat} (hi : i < l.length) : (owA h l Gs).getD i [] = owR h l Gs i := by
  rw [owA, List.getD_eq_getElem?_getD, List.getElem?_map, List.getElem?_range hi]; rfl
theorem owR_at {h : Hand} {l : List Chord} {Gs : List (List Grip)} {i k : Nat} (hk : k < (Gs.getD i []).length) : (owR h l Gs i).getD k 0 = ownC h (l.getD i noC) ((Gs.getD i []).getD k noG) := by
  rw [owR, getD_map _ _ noG _ hk]

/-! ### As values -/
def tGss (l : List (List Grip)) : V := .sl l.length (l.map tGs) .no
def tIss (l : List (List Int)) : V := .sl l.length (l.map tIs) .no
theorem pure_tIss (l : List (List Int)) : (tIss l).pure = true := by rw [tIss, V.pure]; intro t h; cases h
/-- A net's cells. -/
def netC (h : Hand) (l : List Chord) (gv ov rv : V) : List V := [tIs h.low, tIs h.high, tBs h.barre, vint h.top, vint h.jump, vint h.shift, vint h.lift, vint h.bar, vint h.stretch, vint h.slide, tCs l, gv, ov, rv]
/-- A net that stands. -/
noncomputable def netE (h : Hand) (l : List Chord) (Gs : List (List Grip)) : V := .ept (netC h l (tGss Gs) (tIss (owA h l Gs)) (tIss (rsA h l Gs))) 0
theorem gss_at {l : List (List Grip)} {k : Nat} (hk : k < l.length) : (l.map tGs)[k]? = some (tGs (l.getD k [])) := by
  rw [List.getElem?_map, List.getD_eq_getElem?_getD, List.getElem?_eq_getElem hk]; rfl
theorem iss_at {l : List (List Int)} {k : Nat} (hk : k < l.length) : (l.map tIs)[k]? = some (tIs (l.getD k [])) := by
  rw [List.getElem?_map, List.getD_eq_getElem?_getD, List.getElem?_eq_getElem hk]; rfl
theorem gss_at' {l : List (List Grip)} {k : Nat} (hk : k < l.length) : (l.map tGs)[k]? = some (.sl (l.getD k []).length ((l.getD k []).flatMap Grip.cells) .no) := gss_at hk
theorem iss_at' {l : List (List Int)} {k : Nat} (hk : k < l.length) : (l.map tIs)[k]? = some (.sl (l.getD k []).length ((l.getD k []).map vint) .no) := iss_at hk
theorem put_same (m : Mm) (i : Nat) (a : AObj) : (m.put i a).obj i = some a := if_pos rfl
theorem put_other (m : Mm) {i q : Nat} (a : AObj) (h : q ≠ i) : (m.put i a).obj q = m.obj q := if_neg h
end Go.Proofs.Ytojjdkoglhecbaa
namespace Go.Proofs.Ytojjdkoglhecbaa
open Go.RowKit

theorem NetOk.follows {h : Hand} {l : List Chord} {Gs : List (List Grip)} (hn : NetOk h l Gs) {i : Nat} (hi : i + 1 < l.length) : Fol (l.getD i noC) (l.getD (i + 1) noC) := by
  have := (hn.seq (i + 1) hi).2 (by omega)
  rwa [Nat.add_sub_cancel] at this

set_option maxHeartbeats 1000000 in
theorem netstep_fn {h : Hand} {l : List Chord} {Gs : List (List Grip)} (hn : NetOk h l Gs) {ov rv : V} (ho : V.pures [ov, rv] = true) {i k m : Nat} (hi : i + 1 < l.length) (hk : k < (Gs.getD i []).length) (hm : m < (Gs.getD (i + 1) []).length) :
    Fn Try.prog Gd 94 [.ept (netC h l (tGss Gs) ov rv) 0, vint i, vint k, vint m]
      (.tup [vint (stepR h (l.getD i noC) ((Gs.getD i []).getD k noG) (l.getD (i + 1) noC) ((Gs.getD (i + 1) []).getD m noG)).1, vbool (stepR h (l.getD i noC) ((Gs.getD i []).getD k noG) (l.getD (i + 1) noC) ((Gs.getD (i + 1) []).getD m noG)).2]) := by
  refine Fn.of_vx0 k_hand_net_step (by simp) (by simp [V.pures, V.pure, vint]) ?_
  have hi0 : i < l.length := by omega
  have a1 := hn.grip hi0 hk
  have a2 := hn.grip hi hm
  have C1 := step_fn h hn.hk (l.getD i noC) (l.getD (i + 1) noC) (hn.seq i hi0).1 (hn.seq (i + 1) hi).1 (hn.follows hi) (hn.fits.at i) (hn.fits.at (i + 1)) _ _ a1.2 a2.2 a1.1 a2.1
  have h4 := hn.len
  have g1 := chs_take hi0
  have g2 := chs_take hi
  have g3 := chs_len l
  have c1 : i * 3 + 3 ≤ l.length * 3 := by omega
  have c2 : (i + 1) * 3 + 3 ≤ l.length * 3 := by omega
  have c3 : (i : Int) < (l.length : Int) := by omega
  have c4 : ((i + 1 : Nat) : Int) < (l.length : Int) := by omega
  have gl := hn.gl
  have g4 := gss_at (l := Gs) (k := i) (by omega)
  have g5 := gss_at (l := Gs) (k := i + 1) (by omega)
  have g6 := gs_take hk
  have g7 := gs_take hm
  have g8 := gs_len (Gs.getD i [])
  have g9 := gs_len (Gs.getD (i + 1) [])
  have c5 : k * 2 + 2 ≤ (Gs.getD i []).length * 2 := by omega
  have c6 : m * 2 + 2 ≤ (Gs.getD (i + 1) []).length * 2 := by omega
  have c7 : (k : Int) < ((Gs.getD i []).length : Int) := by omega
  have c8 : (m : Int) < ((Gs.getD (i + 1) []).length : Int) := by omega
  have w1 := w_add1 (k := i) (by omega)
  clear hi0 a1 a2 h4 hi hk hm hn
  unfold c_hand_net_step netC tGss tCs tGs
  unfold Hand.val Chord.val Chord.cells Grip.val Grip.cells at C1
  unfold tGs at g4 g5
  repeat' (with_reducible first | refine x_ops ?_ | refine wk ?_ | (with_reducible refine xc (C1) ?_) | ((first | refine gd1 ?_ ?_ | refine gd2 ?_ ?_ | refine gd3 ?_ ?_) <;> (first | exact @False.elim _ | intro hc)))
  exact finV_dry rfl vv

/-- A slice, what is known of its room forgotten. -/
def fgt : V → V
  | .sl n xs _ => .sl n xs .no
  | v => v
/-- Rows of a table that is being filled. -/
def Rows (L : List V) : Prop := ∀ v ∈ L, ∃ n xs tok, v = .sl n xs tok
theorem vws_rows {m : Mm} {S : Nat → Bool} : ∀ {L : List V}, Rows L → Vws m S L (L.map fgt)
  | [], _ => .nil
  | v :: L, h => by
    obtain ⟨n, xs, tok, rfl⟩ := h v (List.mem_cons_self ..)
    exact .cons (.sl _ _ _) (vws_rows fun u hu => h u (List.mem_cons_of_mem _ hu))
theorem fgt_one {L : List V} (h : Rows L) : (L.map fgt).all V.one = true := by
  rw [List.all_eq_true]
  intro v hv
  obtain ⟨u, hu, rfl⟩ := List.mem_map.1 hv
  obtain ⟨n, xs, tok, rfl⟩ := h u hu
  rfl
theorem rows_tGs (L : List (List Grip)) : Rows (L.map tGs) := fun v hv => by
  obtain ⟨g, _, rfl⟩ := List.mem_map.1 hv; exact ⟨_, _, _, rfl⟩
theorem rows_tIs (L : List (List Int)) : Rows (L.map tIs) := fun v hv => by
  obtain ⟨g, _, rfl⟩ := List.mem_map.1 hv; exact ⟨_, _, _, rfl⟩
theorem fgt_tGs (L : List (List Grip)) : (L.map tGs).map fgt = L.map tGs := by
  rw [List.map_map]; exact List.map_congr_left fun g _ => rfl
theorem fgt_tIs (L : List (List Int)) : (L.map tIs).map fgt = L.map tIs := by
  rw [List.map_map]; exact List.map_congr_left fun g _ => rfl

/-- A net in memory. -/
structure NetM (h : Hand) (l : List Chord) (Gs : List (List Grip)) (b gq oq rq : Nat) (rows : List V) (M : Mm) : Prop where
  b : M.obj b = some (.box (netC h l (.gsl gq l.length 1) (.gsl oq l.length 1) (.bsl rq 0 l.length l.length)) 123)
  g : M.obj gq = some (.box (Gs.map tGs) 38)
  o : M.obj oq = some (.box ((owA h l Gs).map tIs) 22)
  r : M.obj rq = some (.box rows 22)
  rows : Rows rows
theorem vw_net {h : Hand} {l : List Chord} {Gs : List (List Grip)} (gl : Gs.length = l.length) {b gq oq rq : Nat} {rows : List V} {M : Mm} (hm : NetM h l Gs b gq oq rq rows M) :
    Vw M allS (.ptr b 0) (.ept (netC h l (tGss Gs) (tIss (owA h l Gs)) (.sl l.length (rows.map fgt) .no)) 0) := by
  refine .ptr rfl hm.b ?_ ?_
  · have hg : Vw M allS (.gsl gq l.length 1) (tGss Gs) := by
      rw [tGss, gl]
      exact .gsl rfl hm.g (by have := vws_rows (m := M) (S := allS) (rows_tGs Gs); rwa [fgt_tGs] at this) (by have := fgt_one (rows_tGs Gs); rwa [fgt_tGs] at this)
    have ho : Vw M allS (.gsl oq l.length 1) (tIss (owA h l Gs)) := by
      rw [tIss, owA_len]
      exact .gsl rfl hm.o (by have := vws_rows (m := M) (S := allS) (rows_tIs (owA h l Gs)); rwa [fgt_tIs] at this) (by have := fgt_one (rows_tIs (owA h l Gs)); rwa [fgt_tIs] at this)
    have hr : Vw M allS (.bsl rq 0 l.length l.length) (.sl l.length (rows.map fgt) .no) := .bsl rfl hm.r (vws_rows hm.rows) (fgt_one hm.rows)
    exact .cons (.sl _ _ _) (.cons (.sl _ _ _) (.cons (.sl _ _ _) (.cons (.lit _) (.cons (.lit _) (.cons (.lit _) (.cons (.lit _) (.cons (.lit _) (.cons (.lit _) (.cons (.lit _) (.cons (.sl _ _ _) (.cons hg (.cons ho (.cons hr .nil)))))))))))))
  · rfl
theorem pure_fgt {n : Nat} {L : List V} (v : List (List Int)) : V.pures [tIss v, .sl n L .no] = true := by
  rw [V.pures, pure_tIss, V.pures, V.pures, V.pure]
  · rfl
  · intro t h; cases h

set_option maxHeartbeats 2000000 in
/-- THE WAYS from a grip, in memory: what is called for each of them is a function value that takes J from one to the next. -/
theorem ways_sfn {h : Hand} {l : List Chord} {Gs : List (List Grip)} (hn : NetOk h l Gs) {i k : Nat} (hi : i < l.length) (hk : k < (Gs.getD i []).length) (b gq oq rq : Nat) (rows : List V) (N : List Int) (f : FuncId) (cs : List V) (hc : callable Try.prog f = true)
    (J : Nat → Mm → Prop) (m : Mm) (hN : i + 1 < l.length → N.length = (Gs.getD (i + 1) []).length ∧ ∃ tok, rows[i + 1]? = some (.sl N.length (N.map vint) tok))
    (hM : ∀ j M, J j M → NetM h l Gs b gq oq rq rows M) (h0 : J 0 m) (hJ : ∀ j, j ≤ N.length → ∃ M, J j M)
    (hF : ∀ j M, J j M → i + 1 < l.length → j < N.length → ¬ N.getD j 0 = -1 → (stepR h (l.getD i noC) ((Gs.getD i []).getD k noG) (l.getD (i + 1) noC) ((Gs.getD (i + 1) []).getD j noG)).2 = true →
      SFn Try.prog Gd f (vint j :: vint (stepR h (l.getD i noC) ((Gs.getD i []).getD k noG) (l.getD (i + 1) noC) ((Gs.getD (i + 1) []).getD j noG)).1 :: cs) M fun r M' => r = .tup [] ∧ J (j + 1) M')
    (hS : ∀ j M, J j M → i + 1 < l.length → j < N.length → (N.getD j 0 = -1 ∨ (stepR h (l.getD i noC) ((Gs.getD i []).getD k noG) (l.getD (i + 1) noC) ((Gs.getD (i + 1) []).getD j noG)).2 = false) → J (j + 1) M) :
    SFn Try.prog Gd 88 [.ptr b 0, vint i, vint k, .fn f cs] m fun r M => r = .tup [] ∧ J (if i + 1 = l.length then 0 else N.length) M := by
  refine SFn.of_vxS k_hand_net_ways (by simp) ?_
  have h4 := hn.len
  have hm0 := hM 0 m h0
  have o1 := hm0.b
  have w1 : IntKind.i64.wrap ((l.length : Int) - 1) = (l.length : Int) - 1 := w_in (by omega)
  unfold c_hand_net_ways
  unfold netC tCs at o1
  by_cases hlast : i + 1 = l.length
  · rw [if_pos hlast]
    have e1 : ((i : Int) == (l.length : Int) - 1) = true := by rw [beq_iff_eq]; omega
    replace h0 := Hid.mk h0
    clear hF hS hM hJ hm0 hN
    repeat' (with_reducible first | refine x_ops ?_ | refine wk ?_ | ((first | refine gd1 ?_ ?_ | refine gd2 ?_ ?_ | refine gd3 ?_ ?_) <;> (first | exact @False.elim _ | intro hc)))
    exact finS_ret vv ⟨rfl, h0.out⟩
  rw [if_neg hlast]
  have hi1 : i + 1 < l.length := by omega
  obtain ⟨hNl, tok, hrow⟩ := hN hi1
  have e1 : ((i : Int) == (l.length : Int) - 1) = false := by rw [beq_eq_false_iff_ne]; omega
  have w2 := w_add1 (k := i) (by omega)
  have c1 : ((i + 1 : Nat) : Int) < (l.length : Int) := by omega
  have o2 := hm0.r
  have hcnt := hn.cnt (i + 1)
  replace hNl := Hid.mk hNl
  have NS := fun j (hj : j < N.length) => netstep_fn hn (pure_fgt (n := l.length) (L := rows.map fgt) (owA h l Gs)) (i := i) (k := k) (m := j) hi1 hk (by have := hNl.out; omega)
  replace hlast := Hid.mk hlast
  replace hm0 := Hid.mk hm0
  have h00 := Hid.mk h0
  have gl := Hid.mk hn.gl
  clear hN h0
  repeat' (with_reducible first | refine x_ops ?_ | refine wk ?_ | ((first | refine gd1 ?_ ?_ | refine gd2 ?_ ?_ | refine gd3 ?_ ?_) <;> (first | exact @False.elim _ | intro hc)))
  refine x_loopW w_hand_net_ways_p7 (by kernel_rfl) N.length (fun j t M => t 29 = vint (j : Int) ∧ J j M) ?_ ?_
  · exact ⟨vv, h00.out⟩
  clear o1 o2 hm0 h00
  rintro j t M hj ⟨h29, hJM⟩
  by_cases hjl : j < N.length
  case neg =>
    have hje : j = N.length := by omega
    subst hje
    have c2 : ¬ (N.length : Int) < (N.length : Int) := by omega
    replace hJM := Hid.mk hJM
    clear hF hS hM hJ NS hjl
    repeat' (with_reducible first | refine x_ops ?_ | refine wk ?_ | ((first | refine gd1 ?_ ?_ | refine gd2 ?_ ?_ | refine gd3 ?_ ?_) <;> (first | exact @False.elim _ | intro hc)))
    exact ⟨.inl rfl, .tup [], vv, rfl, hJM.out⟩
  have c2 : (j : Int) < (N.length : Int) := by omega
  have g1 := ints_at hjl
  have w3 := w_add1 (k := j) (by have := hNl.out; omega)
  have NSj := NS j hjl
  have hmj := Hid.mk (hM j M hJM)
  have hSj := Hid.mk (hS j M hJM hi1 hjl)
  have hFj := Hid.mk (hF j M hJM hi1 hjl)
  obtain ⟨M9, hM9⟩ := hJ (j + 1) (by omega)
  replace hM9 := Hid.mk hM9
  replace hjl := Hid.mk hjl
  clear hF hS hM hJ NS hJM hj
  by_cases hno : N.getD j 0 = -1
  · have e2 : (N.getD j 0 == -1) = true := by rw [hno]; rfl
    have hnx := Hid.mk (hSj.out (.inl hno))
    clear hno NSj
    repeat' (with_reducible first | refine x_ops ?_ | refine wk ?_ | ((first | refine gd1 ?_ ?_ | refine gd2 ?_ ?_ | refine gd3 ?_ ?_) <;> (first | exact @False.elim _ | intro hc)))
    exact nx hjl.out ⟨vv, hnx.out⟩
  have e2 : (N.getD j 0 == -1) = false := by rw [beq_eq_false_iff_ne]; exact hno
  replace hno := Hid.mk hno
  repeat' (with_reducible first | refine x_ops ?_ | refine wk ?_ | ((first | refine gd1 ?_ ?_ | refine gd2 ?_ ?_ | refine gd3 ?_ ?_) <;> (first | exact @False.elim _ | intro hc)))
  refine x_lend allS NSj rfl ?_ ?_
  · (simp only [go_sem, Nat.reduceAdd, Nat.reduceEqDiff, Nat.reduceLT, Nat.reduceLeDiff, Nat.reduceMul, Nat.reduceSub, Nat.reducePow, Nat.reduceDiv, Nat.reduceMod, Nat.reduceBEq, Int.reduceBEq, Int.reduceLT, reduceIte, V.norms, V.norm, tIs, tBs, tPs, *])
    exact .cons (vw_net gl.out hmj.out) (.cons (.lit _) (.cons (.lit _) (.cons (.lit _) .nil)))
  clear NSj
  generalize hst : stepR h (l.getD i noC) ((Gs.getD i []).getD k noG) (l.getD (i + 1) noC) ((Gs.getD (i + 1) []).getD j noG) = st at *
  obtain ⟨sn, sb⟩ := st
  dsimp only at *
  cases sb
  · have hnx := Hid.mk (hSj.out (.inr rfl))
    clear hst
    repeat' (with_reducible first | refine x_ops ?_ | refine wk ?_ | ((first | refine gd1 ?_ ?_ | refine gd2 ?_ ?_ | refine gd3 ?_ ?_) <;> (first | exact @False.elim _ | intro hc)))
    exact nx hjl.out ⟨vv, hnx.out⟩
  have hFj' := hFj.out hno.out rfl
  replace hst := Hid.mk hst
  repeat' (with_reducible first | refine x_ops ?_ | refine wk ?_ | ((first | refine gd1 ?_ ?_ | refine gd2 ?_ ?_ | refine gd3 ?_ ?_) <;> (first | exact @False.elim _ | intro hc)))
  refine x_callv (f := f) (cs := cs) (Post := fun r M' => r = .tup [] ∧ J (j + 1) M') vw hc ?_ ⟨_, M9, rfl, hM9.out⟩ ?_
  · (simp only [go_sem, Nat.reduceAdd, Nat.reduceEqDiff, Nat.reduceLT, Nat.reduceLeDiff, Nat.reduceMul, Nat.reduceSub, Nat.reducePow, Nat.reduceDiv, Nat.reduceMod, Nat.reduceBEq, Int.reduceBEq, Int.reduceLT, reduceIte, V.norms, V.norm, tIs, tBs, tPs, *]); exact hFj'
  rintro r M' ⟨rfl, hJ'⟩
  replace hJ' := Hid.mk hJ'
  repeat' (with_reducible first | refine x_ops ?_ | refine wk ?_ | ((first | refine gd1 ?_ ?_ | refine gd2 ?_ ?_ | refine gd3 ?_ ?_) <;> (first | exact @False.elim _ | intro hc)))
  exact nx hjl.out ⟨vv, hJ'.out⟩

set_option maxHeartbeats 1000000 in
/-- What settle does at a way. -/
theorem settle1_sfn {h : Hand} {l : List Chord} {gv ov : V} {b rq cb nb ib bb : Nat} {rows : List V} {N : List Int} {i j : Nat} {c s p : Int} {tok : Tok} {M : Mm}
    (h1 : M.obj cb = some (.box [vint c] 3)) (h2 : M.obj nb = some (.box [.ptr b 0] 104)) (h3 : M.obj ib = some (.box [vint i] 3)) (h4 : M.obj bb = some (.box [vint p] 3))
    (h5 : M.obj b = some (.box (netC h l gv ov (.bsl rq 0 l.length l.length)) 123)) (h6 : M.obj rq = some (.box rows 22))
    (n1 : cb < M.next) (n2 : nb < M.next) (n3 : ib < M.next) (n4 : bb < M.next) (n5 : b < M.next) (n6 : rq < M.next)
    (hi : i + 1 < l.length) (hl : l.length ≤ 400) (hrow : rows[i + 1]? = some (.sl N.length (N.map vint) tok)) (hj : j < N.length)
    (hb : (0 ≤ c ∧ c ≤ 404000) ∧ (0 ≤ s ∧ s ≤ 105000) ∧ 0 ≤ N.getD j 0 ∧ N.getD j 0 ≤ 509000 * 400) :
    SFn Try.prog Gd 131 [vint j, vint s, .ptr cb 0, .ptr nb 0, .ptr ib 0, .ptr bb 0] M fun r M' => r = .tup [] ∧
      M' = if p = -1 ∨ c + s + N.getD j 0 < p then M.put bb (.box [vint (c + s + N.getD j 0)] 3) else M := by
  refine SFn.of_vxS k_hand_net_settle_1 (by simp) ?_
  unfold c_hand_net_settle_1
  unfold netC at h5
  have c1 : ((i + 1 : Nat) : Int) < (l.length : Int) := by omega
  have c2 : (j : Int) < (N.length : Int) := by omega
  have w1 := w_add1 (k := i) (by omega)
  have w2 : IntKind.i64.wrap (c + s) = c + s := w_in (by omega)
  have w3 : IntKind.i64.wrap (c + s + N.getD j 0) = c + s + N.getD j 0 := w_in (by omega)
  have g1 := ints_at hj
  clear hi hl hj hb
  generalize N.getD j 0 = nj at *
  by_cases hp : p = -1
  · have e1 : (p == -1) = true := by rw [hp]; rfl
    rw [if_pos (.inl hp)]
    clear hp
    repeat' (with_reducible first | refine x_ops ?_ | refine wk ?_ | ((first | refine gd1 ?_ ?_ | refine gd2 ?_ ?_ | refine gd3 ?_ ?_) <;> (first | exact @False.elim _ | intro hc)))
    exact ⟨.inl rfl, .tup [], vv, rfl, vv⟩
  have e1 : (p == -1) = false := by rw [beq_eq_false_iff_ne]; exact hp
  by_cases hlt : c + s + nj < p
  · rw [if_pos (.inr hlt)]
    clear hp
    repeat' (with_reducible first | refine x_ops ?_ | refine wk ?_ | ((first | refine gd1 ?_ ?_ | refine gd2 ?_ ?_ | refine gd3 ?_ ?_) <;> (first | exact @False.elim _ | intro hc)))
    all_goals first | exact ⟨.inl rfl, .tup [], vv, rfl, vv⟩ | skip
  · rw [if_neg (by rintro (h | h); exact hp h; exact hlt h)]
    clear hp
    repeat' (with_reducible first | refine x_ops ?_ | refine wk ?_ | ((first | refine gd1 ?_ ?_ | refine gd2 ?_ ?_ | refine gd3 ?_ ?_) <;> (first | exact @False.elim _ | intro hc)))
    all_goals first | exact ⟨.inl rfl, .tup [], vv, rfl, rfl⟩ | skip
end Go.Proofs.Ytojjdkoglhecbaa
namespace Go.Proofs.Ytojjdkoglhecbaa
open Go.RowKit

section
variable {P : Program} {G : Ground}
/-- What is not needed of slots and memory is forgotten. -/
theorem x_genM {a : VC} {Q : VX → St → Prop} {s : St} (F : (Nat → V) → Mm → Prop) (h0 : F s.t s.m) (h : ∀ t m, F t m → a.vx P G Q ⟨t, m⟩) : a.vx P G Q s := h s.t s.m h0
end
theorem set_eq {α : Type} {L : List α} {i : Nat} (hi : i < L.length) (v : α) : L.set i v = L.take i ++ v :: L.drop (i + 1) := by
  rw [List.set_eq_take_append_cons_drop, if_pos hi]
theorem rows_set {L : List V} (h : Rows L) (i : Nat) (n : Nat) (xs : List V) (tok : Tok) : Rows (L.set i (.sl n xs tok)) := fun v hv => by
  rcases List.mem_or_eq_of_mem_set hv with h1 | h1
  · exact h v h1
  · exact ⟨_, _, _, h1⟩

set_option maxHeartbeats 4000000 in
/-- One element of the table. -/
theorem settle_elem {h : Hand} {l : List Chord} {Gs : List (List Grip)} (hn : NetOk h l Gs) {i k : Nat} (hi : i < l.length) (hk : k < (Gs.getD i []).length) {b gq oq rq nb ib cb bb n1 : Nat} {rows : List V} {L : List Int} {tok : Tok} {t : Nat → V} {M : Mm}
    (s1 : t 1 = .ptr nb 0) (s2 : t 2 = .ptr ib 0) (s3 : t 3 = vint k) (s4 : t 4 = .ptr cb 0) (s5 : t 5 = .ptr bb 0)
    (hm : NetM h l Gs b gq oq rq rows M) (o1 : M.obj nb = some (.box [.ptr b 0] 104)) (o2 : M.obj ib = some (.box [vint i] 3)) (o4 : M.obj cb = some (.box [vint (ownC h (l.getD i noC) ((Gs.getD i []).getD k noG))] 3))
    (o5 : M.obj bb = some (.box [vint (if i + 1 = l.length then ownC h (l.getD i noC) ((Gs.getD i []).getD k noG) else -1)] 3))
    (hlo : nb < n1 ∧ ib < n1 ∧ b < n1 ∧ gq < n1 ∧ oq < n1 ∧ rq < n1) (hhi : n1 ≤ cb ∧ cb < bb ∧ bb < M.next) (hlen : rows.length = l.length)
    (hrow : rows[i]? = some (.sl L.length (L.map vint) tok)) (hL : L.length ≤ 200) (hap : Apb M tok L.length 3 1)
    (hnext : i + 1 < l.length → ∃ tok, rows[i + 1]? = some (.sl (rsT h l Gs (i + 1)).length ((rsT h l Gs (i + 1)).map vint) tok)) :
    (c_hand_net_settle_p3).vx Try.prog Gd (fun e s' => e = .nrm ∧ ∃ tok', Apb s'.m tok' (L.length + 1) 3 1 ∧
      s'.m.obj rq = some (.box (rows.set i (.sl (L.length + 1) ((L ++ [rsE h l Gs i (rsT h l Gs (i + 1)) ((Gs.getD i []).getD k noG)]).map vint) tok')) 22) ∧
      M.next ≤ s'.m.next ∧ (∀ q, q < M.next → q ≠ rq → q ≠ bb → tok ≠ .own q → s'.m.obj q = M.obj q) ∧ ∀ q, tok' = .own q → M.next ≤ q ∨ tok = .own q) ⟨t, M⟩ := by
  have hr := rsE h l Gs i (rsT h l Gs (i + 1)) ((Gs.getD i []).getD k noG)
  have hg := hn.grip hi hk
  have hown := own_bound hn.hk (hn.seq i hi).1 hg.1
  let val : Nat → Int := fun j => if i + 1 = l.length then ownC h (l.getD i noC) ((Gs.getD i []).getD k noG) else bsU h (l.getD i noC) ((Gs.getD i []).getD k noG) (l.getD (i + 1) noC) (Gs.getD (i + 1) []) (rsT h l Gs (i + 1)) j
  let J : Nat → Mm → Prop := fun j M' => M.next ≤ M'.next ∧ (∀ q, q < M.next → q ≠ bb → M'.obj q = M.obj q) ∧ M'.obj bb = some (.box [vint (val j)] 3)
  have hJ0 : J 0 M := ⟨Nat.le_refl _, fun _ _ _ => rfl, by rw [o5]; show _ = some (AObj.box [vint (if i + 1 = l.length then _ else _)] _); split <;> rfl⟩
  have hnet : ∀ j M', J j M' → NetM h l Gs b gq oq rq rows M' := by
    rintro j M' ⟨_, hf, _⟩
    exact ⟨by rw [hf b (by omega) (by omega)]; exact hm.b, by rw [hf gq (by omega) (by omega)]; exact hm.g, by rw [hf oq (by omega) (by omega)]; exact hm.o, by rw [hf rq (by omega) (by omega)]; exact hm.r, hm.rows⟩
  have W := ways_sfn hn hi hk b gq oq rq rows (rsT h l Gs (i + 1)) 131 [.ptr cb 0, .ptr nb 0, .ptr ib 0, .ptr bb 0] kr J M
    (fun hi1 => ⟨rsT_len hi1, hnext hi1⟩) hnet hJ0 (fun j _ => ⟨M.put bb (.box [vint (val j)] 3), Nat.le_refl _, fun q _ hq => if_neg hq, if_pos rfl⟩) ?_ ?_
  rotate_left
  · rintro j M' ⟨hn', hf, hb⟩ hi1 hj hne hst
    obtain ⟨tk, hrw⟩ := hnext hi1
    have hlen1 := rsT_len (h := h) (Gs := Gs) hi1
    have hsok : StepOk h (l.getD i noC) ((Gs.getD i []).getD k noG) (l.getD (i + 1) noC) ((Gs.getD (i + 1) []).getD j noG) := by
      by_cases hx : StepOk h (l.getD i noC) ((Gs.getD i []).getD k noG) (l.getD (i + 1) noC) ((Gs.getD (i + 1) []).getD j noG)
      · exact hx
      · rw [stepR_no hx] at hst; cases hst
    have hsb := stepC_bound hn.hk (a := l.getD i noC) (b := l.getD (i + 1) noC) hg.1 (hn.grip hi1 (k := j) (by omega)).1
    have hNb := rsT_bound hn _ (i + 1) rfl hi1 j (by omega)
    rw [stepR_ok hsok]
    have h4 := hn.len
    have hNb' : 0 ≤ (rsT h l Gs (i + 1)).getD j 0 ∧ (rsT h l Gs (i + 1)).getD j 0 ≤ 509000 * 400 := by
      rcases hNb with h1 | h1
      · exact absurd h1 hne
      · exact ⟨h1.1, by omega⟩
    have S1 := settle1_sfn (h := h) (l := l) (gv := .gsl gq l.length 1) (ov := .gsl oq l.length 1) (b := b) (rq := rq) (cb := cb) (nb := nb) (ib := ib) (bb := bb) (rows := rows) (N := rsT h l Gs (i + 1)) (i := i) (j := j)
      (c := ownC h (l.getD i noC) ((Gs.getD i []).getD k noG)) (s := stepC h (l.getD i noC) ((Gs.getD i []).getD k noG) (l.getD (i + 1) noC) ((Gs.getD (i + 1) []).getD j noG)) (p := val j) (tok := tk) (M := M')
      (by rw [hf cb (by omega) (by omega)]; exact o4) (by rw [hf nb (by omega) (by omega)]; exact o1) (by rw [hf ib (by omega) (by omega)]; exact o2) hb (hnet j M' ⟨hn', hf, hb⟩).b (hnet j M' ⟨hn', hf, hb⟩).r
      (by omega) (by omega) (by omega) (by omega) (by omega) (by omega) hi1 h4 hrw hj ⟨hown, hsb, hNb'⟩
    refine S1.mono ?_
    rintro r M2 ⟨rfl, rfl⟩
    refine ⟨rfl, ?_⟩
    have hv : val (j + 1) = if val j = -1 ∨ ownC h (l.getD i noC) ((Gs.getD i []).getD k noG) + stepC h (l.getD i noC) ((Gs.getD i []).getD k noG) (l.getD (i + 1) noC) ((Gs.getD (i + 1) []).getD j noG) + (rsT h l Gs (i + 1)).getD j 0 < val j then
        ownC h (l.getD i noC) ((Gs.getD i []).getD k noG) + stepC h (l.getD i noC) ((Gs.getD i []).getD k noG) (l.getD (i + 1) noC) ((Gs.getD (i + 1) []).getD j noG) + (rsT h l Gs (i + 1)).getD j 0 else val j := by
      have e : ¬ i + 1 = l.length := by omega
      have v1 : val j = bsU h (l.getD i noC) ((Gs.getD i []).getD k noG) (l.getD (i + 1) noC) (Gs.getD (i + 1) []) (rsT h l Gs (i + 1)) j := if_neg e
      have v2 : val (j + 1) = bsU h (l.getD i noC) ((Gs.getD i []).getD k noG) (l.getD (i + 1) noC) (Gs.getD (i + 1) []) (rsT h l Gs (i + 1)) (j + 1) := if_neg e
      rw [v2, bsU, if_neg hne, if_pos (by rw [stepR_ok hsok])]
      simp only [v1]
    split
    · rename_i hc
      rw [if_pos hc] at hv
      exact ⟨hn', fun q hq hqb => by rw [put_obj, if_neg hqb]; exact hf q hq hqb, by rw [put_obj, if_pos rfl, hv]⟩
    · rename_i hc
      rw [if_neg hc] at hv
      exact ⟨hn', hf, by rw [hb, hv]⟩
  · rintro j M' ⟨hn', hf, hb⟩ hi1 hj hsk
    refine ⟨hn', hf, ?_⟩
    rw [hb]
    have e : ¬ i + 1 = l.length := by omega
    have hv : val (j + 1) = val j := by
      show (if i + 1 = l.length then _ else _) = (if i + 1 = l.length then _ else _)
      rw [if_neg e, if_neg e, bsU]
      rcases hsk with h1 | h1
      · rw [if_pos h1]
      · split
        · rfl
        · rw [if_neg (by rw [h1]; simp)]
    rw [hv]
  have hfin : val (if i + 1 = l.length then 0 else (rsT h l Gs (i + 1)).length) = rsE h l Gs i (rsT h l Gs (i + 1)) ((Gs.getD i []).getD k noG) := by
    by_cases e : i + 1 = l.length
    · rw [if_pos e]; show (if i + 1 = l.length then _ else _) = _; rw [if_pos e, rsE, if_pos e]
    · rw [if_neg e]; show (if i + 1 = l.length then _ else _) = _; rw [if_neg e, rsE, if_neg e, rsT_len (by omega)]
  have hJe : ∃ M', J (if i + 1 = l.length then 0 else (rsT h l Gs (i + 1)).length) M' := ⟨M.put bb (.box [vint _] 3), Nat.le_refl _, fun q _ hq => if_neg hq, if_pos rfl⟩
  have hgl := hn.gl
  have hiR : i + 1 ≤ rows.length := by omega
  have hcR : (i : Int) < (l.length : Int) := by omega
  have hset := fun v => set_eq (L := rows) (i := i) (by omega) v
  have b1 : (L.length + 1) * 8 ≤ 140737488355328 := by omega
  have b2 : L.length + 1 ≤ maxLen := by unfold maxLen; omega
  have hmm := Hid.mk hm
  have hbb5 := Hid.mk o5
  have hnz := hn
  clear hJ0 hnet hg hown hr o4 o5 hm hn hk hlen
  replace hJe := Hid.mk hJe
  replace hset := Hid.mk hset
  unfold c_hand_net_settle_p3
  repeat' (with_reducible first | refine x_ops ?_ | refine wk ?_ | ((first | refine gd1 ?_ ?_ | refine gd2 ?_ ?_ | refine gd3 ?_ ?_) <;> (first | exact @False.elim _ | intro hc)))
  refine x_scallR [.ptr b 0, vint i, vint k, .fn 131 [.ptr cb 0, .ptr nb 0, .ptr ib 0, .ptr bb 0]] vw W (by obtain ⟨M', h1⟩ := hJe.out; exact ⟨_, M', rfl, h1⟩) ?_
  rintro r M2 ⟨rfl, hn2, hf2, hb2⟩
  rw [hfin] at hb2
  clear W hfin hJe hnext
  have q1 : M2.obj nb = some (.box [.ptr b 0] 104) := by rw [hf2 nb (by omega) (by omega)]; exact o1
  have q2 : M2.obj ib = some (.box [vint i] 3) := by rw [hf2 ib (by omega) (by omega)]; exact o2
  have q3 := (hf2 b (by omega) (by omega)).trans hmm.out.b
  have q4 := (hf2 rq (by omega) (by omega)).trans hmm.out.r
  have l1 : nb < M2.next := by omega
  have l2 : ib < M2.next := by omega
  have l3 : b < M2.next := by omega
  have l4 : rq < M2.next := by omega
  have l5 : bb < M2.next := by omega
  unfold netC at q3
  generalize rsE h l Gs i (rsT h l Gs (i + 1)) ((Gs.getD i []).getD k noG) = re at *
  have x1 : ¬ rq = M2.next + 14 := by omega
  replace hn2 := Hid.mk hn2
  replace hf2 := Hid.mk hf2
  replace hi := Hid.mk hi
  replace hhi := Hid.mk hhi
  replace hlo := Hid.mk hlo
  replace hL := Hid.mk hL
  clear o1 o2 hgl
  rcases hap with rfl | ⟨t0, rfl, ht0, ho0⟩
  · repeat' (with_reducible first | refine x_ops ?_ | refine wk ?_ | ((first | refine gd1 ?_ ?_ | refine gd2 ?_ ?_ | refine gd3 ?_ ?_) <;> (first | exact @False.elim _ | intro hc)))
    refine x_appE (n := L.length) (xs := L.map vint) (j := 1) (ys := [vint re]) (k2 := .exact) vw vw (by rw [List.length_map]; omega) rfl b1 b2 ?_
    repeat' (with_reducible first | refine x_ops ?_ | refine wk ?_ | ((first | refine gd1 ?_ ?_ | refine gd2 ?_ ?_ | refine gd3 ?_ ?_) <;> (first | exact @False.elim _ | intro hc)))
    refine ⟨.own (M2.next + 14), .inr ⟨_, rfl, ?_, ?_⟩, ?_, ?_, ?_, ?_⟩
    · show M2.next + 14 < M2.next + 17; omega
    · rw [put_obj, if_neg (fun e => x1 e.symm), put_obj, if_pos rfl]
    · rw [hset.out]; simp [vint]
    · show M.next ≤ M2.next + 17; have := hn2.out; omega
    · intro q hq h1 h2 h3
      have := hn2.out
      rw [if_neg h1, if_neg (by omega)]
      exact hf2.out q hq h2
    · intro q hq; injection hq with hq; have := hn2.out; omega
  · have ht2 : t0 < M2.next := by have := hn2.out; omega
    have hb0 := hbb5.out
    have hne0 : t0 ≠ bb := by rintro rfl; rw [hb0] at ho0; cases ho0
    have hner : ¬ t0 = rq := by rintro rfl; rw [hmm.out.r] at ho0; cases ho0
    have ho2 : M2.obj t0 = some (.row L.length 3 1) := by rw [hf2.out t0 ht0 hne0]; exact ho0
    replace ht0 := Hid.mk ht0
    replace hne0 := Hid.mk hne0
    have hok : ownOk (some [5, 6, 7, 8, 9, 10, 11, 12, 13]) M2.next t0 = true := by simp [ownOk, ht2]
    clear ho0 hb0
    repeat' (with_reducible first | refine x_ops ?_ | refine wk ?_ | ((first | refine gd1 ?_ ?_ | refine gd2 ?_ ?_ | refine gd3 ?_ ?_) <;> (first | exact @False.elim _ | intro hc)))
    refine x_appO (n := L.length) (t := t0) (xs := L.map vint) (j := 1) (ys := [vint re]) (k2 := .exact) vw vw hok vw (by rw [List.length_map]; omega) rfl b1 b2 ?_
    clear ho2
    have hner' : ¬ rq = t0 := fun e => hner e.symm
    repeat' (with_reducible first | refine x_ops ?_ | refine wk ?_ | ((first | refine gd1 ?_ ?_ | refine gd2 ?_ ?_ | refine gd3 ?_ ?_) <;> (first | exact @False.elim _ | intro hc)))
    refine ⟨.own t0, .inr ⟨_, rfl, ?_, ?_⟩, ?_, ?_, ?_, ?_⟩
    · show t0 < M2.next + 17; omega
    · rw [put_obj, if_neg hner, put_obj, if_pos rfl]
    · rw [hset.out]; simp [vint]
    · show M.next ≤ M2.next + 17; have := hn2.out; omega
    · intro q hq h1 h2 h3
      rw [if_neg h1, if_neg (fun e => h3 (by rw [e]))]
      exact hf2.out q hq h2
    · intro q hq; exact .inr hq
end Go.Proofs.Ytojjdkoglhecbaa
namespace Go.Proofs.Ytojjdkoglhecbaa
open Go.RowKit

/-- Where settle stands, x chords from the end. -/
structure SetSt (h : Hand) (l : List Chord) (Gs : List (List Grip)) (m : Mm) (b rq nb : Nat) (gv ov : V) (x : Nat) (rows : List V) (M : Mm) : Prop where
  nx : m.next + 19 ≤ M.next
  nbo : M.obj nb = some (.box [.ptr b 0] 104)
  bo : M.obj b = some (.box (netC h l gv ov (.bsl rq 0 l.length l.length)) 123)
  ro : M.obj rq = some (.box rows 22)
  len : rows.length = l.length
  isr : Rows rows
  done : ∀ y, l.length ≤ y + x → y < l.length → ∃ tok, rows[y]? = some (.sl (rsT h l Gs y).length ((rsT h l Gs y).map vint) tok)
  rest : ∀ y, y + x < l.length → rows[y]? = some (.sl 0 [] .exact)
  fr : ∀ q, q < m.next → q ≠ b → M.obj q = m.obj q
/-- What settle leaves. -/
def SetPost (h : Hand) (l : List Chord) (Gs : List (List Grip)) (m : Mm) (b : Nat) (gv ov : V) (r : V) (m' : Mm) : Prop :=
  r = .tup [] ∧ m.next ≤ m'.next ∧ (∀ q, q < m.next → q ≠ b → m'.obj q = m.obj q) ∧ ∃ rq rows, m.next ≤ rq ∧ rq < m'.next ∧ m'.obj b = some (.box (netC h l gv ov (.bsl rq 0 l.length l.length)) 123) ∧
    m'.obj rq = some (.box rows 22) ∧ rows.length = l.length ∧ ∀ y, y < l.length → ∃ tok, rows[y]? = some (.sl (rsT h l Gs y).length ((rsT h l Gs y).map vint) tok)
/-- Where settle stands within a chord. -/
structure InSt (h : Hand) (l : List Chord) (Gs : List (List Grip)) (rq i : Nat) (rows : List V) (M0 : Mm) (k : Nat) (tok : Tok) (M : Mm) : Prop where
  nx : M0.next ≤ M.next
  ro : M.obj rq = some (.box (rows.set i (.sl k (((rsT h l Gs i).take k).map vint) tok)) 22)
  ap : Apb M tok k 3 1
  hi : ∀ q, tok = .own q → M0.next ≤ q
  fr : ∀ q, q < M0.next → q ≠ rq → M.obj q = M0.obj q
theorem set_same {α : Type} {L : List α} {i : Nat} {v : α} (h : L[i]? = some v) : L.set i v = L := by
  apply List.ext_getElem?
  intro j
  rw [List.getElem?_set]
  split
  · rename_i e; subst e
    split
    · exact h.symm
    · rename_i h2; rw [List.getElem?_eq_none (by omega)] at h; cases h
  · rfl
theorem take_get {l : List Int} {k : Nat} (hk : k < l.length) : l.take (k + 1) = l.take k ++ [l.getD k 0] := by
  rw [List.take_succ_eq_append_getElem hk, List.getD_eq_getElem?_getD, List.getElem?_eq_getElem hk]; rfl

set_option maxHeartbeats 4000000 in
theorem settle_sfn {h : Hand} {l : List Chord} {Gs : List (List Grip)} (hn : NetOk h l Gs) (m : Mm) {b gq oq : Nat} {gv ov rv : V} (hb : m.obj b = some (.box (netC h l gv ov rv) 123)) (hbn : b < m.next)
    (hg : 0 < l.length → (gv = .gsl gq l.length 1 ∧ ov = .gsl oq l.length 1) ∧ (m.obj gq = some (.box (Gs.map tGs) 38) ∧ m.obj oq = some (.box ((owA h l Gs).map tIs) 22)) ∧ (gq ≠ b ∧ oq ≠ b) ∧ gq < m.next ∧ oq < m.next) :
    SFn Try.prog Gd 103 [.ptr b 0] m (SetPost h l Gs m b gv ov) := by
  refine SFn.of_vxS k_hand_net_settle (by simp) ?_
  have h4 := hn.len
  have x0 : ¬ b = m.next := by omega
  have x1 : ∀ k, ¬ b = m.next + k := by omega
  have y0 : ¬ m.next = b := by omega
  have y1 : ∀ k, ¬ m.next + k = b := by omega
  have x2 : m.next < m.next + 1 := by omega
  have x3 : b < m.next + 1 := by omega
  have w1 : IntKind.i64.wrap ((l.length : Int) - 1) = (l.length : Int) - 1 := w_in (by omega)
  have k1 : (l.length : Int) * 24 ≤ 140737488355328 := by omega
  have k2 : (l.length : Int) ≤ 140737488355328 := by omega
  have hb0 := Hid.mk hb
  unfold c_hand_net_settle
  unfold netC tCs at hb
  replace h4 := Hid.mk h4
  replace hbn := Hid.mk hbn
  have hgg := Hid.mk hg
  clear hg
  repeat' (with_reducible first | refine x_ops ?_ | refine wk ?_ | ((first | refine gd1 ?_ ?_ | refine gd2 ?_ ?_ | refine gd3 ?_ ?_) <;> (first | exact @False.elim _ | intro hc)))
  refine x_gen (fun t => t 1 = .ptr m.next 0 ∧ t 2 = .ptr (m.next + 17) 0) ⟨vv, vv⟩ ?_
  rintro t0 ⟨ht1, ht2⟩
  refine x_loopW w_hand_net_settle_p14 (by kernel_rfl) l.length (fun x t M => ∃ ib rows, t 2 = .ptr ib 0 ∧ (m.next + 17 ≤ ib ∧ ib < M.next) ∧ M.obj ib = some (.box [vint ((l.length : Int) - 1 - x)] 3) ∧ SetSt h l Gs m b (m.next + 7) m.next gv ov x rows M) ?_ ?_
  · refine ⟨m.next + 17, List.replicate l.length (.sl 0 [] .exact), ht2, ⟨Nat.le_refl _, ?_⟩, ?_, ⟨?_, ?_, ?_, ?_, List.length_replicate, ?_, ?_, ?_, ?_⟩⟩
    · show m.next + 17 < m.next + 19; omega
    · ((refine ve ?_; try exact True.intro)); simp
    · show m.next + 19 ≤ m.next + 19; omega
    · simp only [go_sem, y0, y1]; simp
    · unfold netC tCs; simp only [go_sem, x0, x1]; simp [tIs, tBs]
    · simp only [go_sem, y0, y1]; simp
    · intro v hv; rw [List.mem_replicate] at hv; exact ⟨_, _, _, hv.2⟩
    · intro y h1 h2; omega
    · intro y hy; rw [List.getElem?_replicate, if_pos (by omega)]
    · intro q hq hqb; simp only [put_obj]; repeat rw [if_neg (by omega)]
  clear hb x1 y1 x2 x3
  rintro x t M hx ⟨ib, rows, h2, ⟨hi1, hi2⟩, hio, hs⟩
  have hnx := hs.nx
  have hnbo := hs.nbo
  have hbo := hs.bo
  have hne : ∀ q k, q < M.next → (q = M.next + k) = False := fun q k hq => by simp; omega
  have hne0 : ∀ q, q < M.next → (q = M.next) = False := fun q hq => by simp; omega
  have n1 : m.next < M.next := by omega
  have n2 : b < M.next := by have := hbn.out; omega
  have n3 : m.next + 7 < M.next := by omega
  unfold netC tCs at hbo
  by_cases hxl : x < l.length
  case neg =>
    have hxe : x = l.length := by omega
    subst hxe
    have c1 : ¬ (0 : Int) ≤ (l.length : Int) - 1 - (l.length : Int) := by omega
    replace hs := Hid.mk hs
    clear hne hne0
    repeat' (with_reducible first | refine x_ops ?_ | refine wk ?_ | ((first | refine gd1 ?_ ?_ | refine gd2 ?_ ?_ | refine gd3 ?_ ?_) <;> (first | exact @False.elim _ | intro hc)))
    exact ⟨.inl rfl, .tup [], vv, rfl, (by show m.next ≤ M.next; omega), hs.out.fr, m.next + 7, rows, by omega, n3, hs.out.bo, hs.out.ro, hs.out.len, fun y hy => hs.out.done y (by omega) hy⟩
  obtain ⟨i, hi⟩ : ∃ i : Nat, i + 1 + x = l.length := ⟨l.length - 1 - x, by omega⟩
  have ei : (l.length : Int) - 1 - (x : Int) = (i : Int) := by omega
  rw [ei] at hio
  have hil : i < l.length := by omega
  obtain ⟨⟨rfl, rfl⟩, ⟨og, oo_⟩, ⟨hgb, hob⟩, hgn, hon⟩ := hgg.out (by omega)
  have oG : M.obj gq = _ := (hs.fr gq hgn hgb).trans og
  have oO : M.obj oq = _ := (hs.fr oq hon hob).trans oo_
  have oR := hs.ro
  have c0 : (i : Int) < (l.length : Int) := by omega
  have g0 := iss_at (l := owA h l Gs) (k := i) (by rw [owA_len]; omega)
  rw [owA_at hil] at g0
  have hcnt := hn.cnt i
  have hol := owR_len h l Gs i
  replace hs := Hid.mk hs
  replace hi := Hid.mk hi
  clear og oo_ ei hgg
  repeat' (with_reducible first | refine x_ops ?_ | refine wk ?_ | ((first | refine gd1 ?_ ?_ | refine gd2 ?_ ?_ | refine gd3 ?_ ?_) <;> (first | exact @False.elim _ | intro hc)))
  refine x_gen (fun t => t 1 = .ptr m.next 0 ∧ t 2 = .ptr ib 0 ∧ t 31 = .sl (Gs.getD i []).length ((owR h l Gs i).map vint) .no ∧ t 32 = vint (Gs.getD i []).length ∧ t 33 = vint 0) ⟨vw, vw, vv, vv, vv⟩ ?_
  rintro t3 ⟨a1, a2, a31, a32, a33⟩
  clear ht1 ht2 h2
  have hri := hs.out.rest i (by have := hi.out; omega)
  refine x_loopW w_hand_net_settle_p8 (by kernel_rfl) (Gs.getD i []).length (fun k t M' => t 33 = vint (k : Int) ∧ ∃ tok, InSt h l Gs (m.next + 7) i rows M k tok M') ?_ ?_
  · exact ⟨a33, .exact, Nat.le_refl _, by rw [List.take_zero, List.map_nil, set_same hri]; exact oR, .inl rfl, fun q hq => by (cases hq), fun _ _ _ => rfl⟩
  rintro k t4 M' hk ⟨h33, tok, hin⟩
  by_cases hkl : k < (Gs.getD i []).length
  case neg =>
    have hke : k = (Gs.getD i []).length := by omega
    subst hke
    have c1 : ¬ ((Gs.getD i []).length : Int) < ((Gs.getD i []).length : Int) := by omega
    have b1 := (hin.fr ib hi2 (by omega)).trans hio
    have n4 : ib < M'.next := by have := hin.nx; omega
    have w2 : IntKind.i64.wrap ((i : Int) - 1) = (i : Int) - 1 := w_in (by omega)
    have m0 : ¬ ib = M'.next := by omega
    replace hin := Hid.mk hin
    have ex : (i : Int) - 1 = (l.length : Int) - 1 - ((x + 1 : Nat) : Int) := by have := hi.out; omega
    have hfull : ((rsT h l Gs i).take (Gs.getD i []).length) = rsT h l Gs i := List.take_of_length_le (by rw [rsT_len hil]; exact Nat.le_refl _)
    clear hne hne0 hkl hk
    have hnx' : M.next ≤ M'.next := hin.out.nx
    have old : ∀ (a c d : AObj) (k : Nat) (q : Nat), q < M'.next → (((Mm.put ⟨M'.obj, k⟩ M'.next a).put M'.next c).put M'.next d).obj q = M'.obj q := fun a c d k q hq => by
      simp only [put_obj]; repeat rw [if_neg (by omega)]
    replace ex := Hid.mk ex
    replace hfull := Hid.mk hfull
    repeat' (with_reducible first | refine x_ops ?_ | refine wk ?_ | ((first | refine gd1 ?_ ?_ | refine gd2 ?_ ?_ | refine gd3 ?_ ?_) <;> (first | exact @False.elim _ | intro hc)))
    refine nx hxl ⟨M'.next, rows.set i (.sl (Gs.getD i []).length (((rsT h l Gs i).take (Gs.getD i []).length).map vint) tok), vv, ⟨by omega, ?_⟩, ?_, ⟨?_, ?_, ?_, ?_, ?_, ?_, ?_, ?_, ?_⟩⟩
    · show M'.next < M'.next + 2; omega
    · rw [put_obj, if_pos rfl, ex.out]
    · show m.next + 19 ≤ M'.next + 2; omega
    · rw [show ∀ X : Mm, X.obj m.next = X.obj m.next from fun _ => rfl]
      exact (old _ _ _ _ m.next (by omega)).trans ((hin.out.fr m.next n1 (by omega)).trans hnbo)
    · exact (old _ _ _ _ b (by omega)).trans ((hin.out.fr b n2 (by have := hbn.out; omega)).trans hs.out.bo)
    · exact (old _ _ _ _ (m.next + 7) (by omega)).trans hin.out.ro
    · rw [List.length_set]; exact hs.out.len
    · exact rows_set hs.out.isr _ _ _ _
    · intro y h1 h2
      by_cases hyi : y = i
      · subst hyi
        refine ⟨tok, ?_⟩
        rw [List.getElem?_set_self (by rw [hs.out.len]; exact hil), hfull.out, rsT_len hil]
      · rw [List.getElem?_set_ne (fun e => hyi e.symm)]
        exact hs.out.done y (by have := hi.out; omega) h2
    · intro y hy
      rw [List.getElem?_set_ne (by have := hi.out; omega)]
      exact hs.out.rest y (by omega)
    · intro q hq hqb
      exact (old _ _ _ _ q (by omega)).trans ((hin.out.fr q (by omega) (by omega)).trans (hs.out.fr q hq hqb))
  have c1 : (k : Int) < ((Gs.getD i []).length : Int) := by omega
  have g1 := ints_at (l := owR h l Gs i) (k := k) (by rw [hol]; exact hkl)
  rw [owR_at hkl] at g1
  have w2 := w_add1 (k := k) (by omega)
  have hnx' : M.next ≤ M'.next := hin.nx
  have mb := fun q hq hqr => hin.fr q hq hqr
  have b1 := (mb ib hi2 (by omega)).trans hio
  have b2 := (mb m.next n1 (by omega)).trans hnbo
  have b3 := (mb b n2 (by have := hbn.out; omega)).trans hbo
  have key : ∀ (t5 : Nat → V) (M5 : Mm) (Q' : VX → St → Prop), (t5 1 = .ptr m.next 0 ∧ t5 2 = .ptr ib 0 ∧ t5 3 = vint k ∧ t5 4 = .ptr (M'.next + 3) 0 ∧ t5 5 = .ptr (M'.next + 6) 0) → M5.next = M'.next + 8 →
      M5.obj (M'.next + 3) = some (.box [vint (ownC h (l.getD i noC) ((Gs.getD i []).getD k noG))] 3) →
      M5.obj (M'.next + 6) = some (.box [vint (if i + 1 = l.length then ownC h (l.getD i noC) ((Gs.getD i []).getD k noG) else -1)] 3) → (∀ q, q < M'.next → M5.obj q = M'.obj q) →
      (∀ t6 M6, (∃ tok, InSt h l Gs (m.next + 7) i rows M (k + 1) tok M6) → Q' .nrm ⟨mix 295147764441864470528 t6 t5, M6⟩) → (c_hand_net_settle_p3).vx Try.prog Gd Q' ⟨t5, M5⟩ := by
    intro t5 M5 Q' ⟨f1, f2, f3, f4, f5⟩ fn fc fb fo hQ
    have hLk : ((rsT h l Gs i).take k).length = k := by rw [List.length_take, rsT_len hil]; omega
    have hlen := hs.out.len
    have hii := hi.out
    have hbn' := hbn.out
    have hrow0 : (rows.set i (.sl k (((rsT h l Gs i).take k).map vint) tok))[i]? = some (.sl k (((rsT h l Gs i).take k).map vint) tok) := List.getElem?_set_self (by omega)
    have lo : ∀ q, q < M.next → q ≠ m.next + 7 → M5.obj q = M.obj q := fun q hq hqr => (fo q (by omega)).trans (hin.fr q hq hqr)
    have E := settle_elem hn hil hkl (b := b) (gq := gq) (oq := oq) (rq := m.next + 7) (nb := m.next) (ib := ib) (cb := M'.next + 3) (bb := M'.next + 6) (n1 := M'.next)
      (rows := rows.set i (.sl k (((rsT h l Gs i).take k).map vint) tok)) (L := (rsT h l Gs i).take k) (tok := tok) (t := t5) (M := M5) f1 f2 f3 f4 f5
      ⟨(lo b n2 (by omega)).trans hs.out.bo, (lo gq (by omega) (by omega)).trans oG, (lo oq (by omega) (by omega)).trans oO, (fo _ (by omega)).trans hin.ro, rows_set hs.out.isr _ _ _ _⟩
      ((lo m.next n1 (by omega)).trans hnbo) ((lo ib hi2 (by omega)).trans hio) fc fb (by omega) (by omega) (by rw [List.length_set]; exact hlen)
      (by rw [hLk]; exact hrow0) (by omega) (by rw [hLk]; exact hin.ap.mono (fun t ht _ => fo t ht) (by omega))
      (fun hi1 => by rw [List.getElem?_set_ne (by omega)]; exact hs.out.done (i + 1) (by omega) hi1)
    rw [hLk] at E
    generalize hre : rsE h l Gs i (rsT h l Gs (i + 1)) ((Gs.getD i []).getD k noG) = re at E
    refine x_sum 295147764441864470528 kr (R := fun e t m' => e = .nrm ∧ ∃ tok', Apb m' tok' (k + 1) 3 1 ∧
      m'.obj (m.next + 7) = some (.box ((rows.set i (.sl k (((rsT h l Gs i).take k).map vint) tok)).set i (.sl (k + 1) (((rsT h l Gs i).take k ++ [re]).map vint) tok')) 22) ∧
      M5.next ≤ m'.next ∧ (∀ q, q < M5.next → q ≠ m.next + 7 → q ≠ M'.next + 6 → tok ≠ .own q → m'.obj q = M5.obj q) ∧ ∀ q, tok' = .own q → M5.next ≤ q ∨ tok = .own q) E ?_
    rintro e t' M6 ⟨rfl, tok', e1, e2, e3, e4, e5⟩
    refine hQ _ _ ⟨tok', by omega, ?_, e1, ?_, ?_⟩
    · rw [e2, List.set_set, take_get (by rw [rsT_len hil]; exact hkl), rsT_at hil hkl, hre]
    · intro q hq
      rcases e5 q hq with h1 | h1
      · omega
      · exact hin.hi q h1
    · intro q hq hqr
      exact (e4 q (by omega) hqr (by omega) (fun e => by have := hin.hi q e; omega)).trans ((fo q (by omega)).trans (hin.fr q hq hqr))
  have hn' : ∀ q k, q < M.next → (q = M'.next + k) = False := fun q k hq => by simp; omega
  have hl' : ∀ q k, q < M.next → (q < M'.next + k) = True := fun q k hq => by simp; omega
  replace hin := Hid.mk hin
  replace mb := Hid.mk mb
  replace hnx' := Hid.mk hnx'
  clear hne hne0 hio hnbo hbo oG oO oR hri
  by_cases hlast : i + 1 = l.length
  · have e1 : ((i : Int) == (l.length : Int) - 1) = true := by rw [beq_iff_eq]; omega
    rw [if_pos hlast] at key
    replace hlast := Hid.mk hlast
    replace key := Hid.mk key
    repeat' (with_reducible first | refine x_ops ?_ | refine wk ?_ | ((first | refine gd1 ?_ ?_ | refine gd2 ?_ ?_ | refine gd3 ?_ ?_) <;> (first | exact @False.elim _ | intro hc)))
    refine key.out _ _ _ ⟨vw, vw, vv, vv, vv⟩ rfl vv vv ?_ ?_
    · intro q hq; ((simp only [put_obj]; repeat rw [if_neg (by omega)]))
    rintro t6 M6 hM6
    replace hM6 := Hid.mk hM6
    repeat' (with_reducible first | refine x_ops ?_ | refine wk ?_ | ((first | refine gd1 ?_ ?_ | refine gd2 ?_ ?_ | refine gd3 ?_ ?_) <;> (first | exact @False.elim _ | intro hc)))
    exact nx hkl ⟨vv, hM6.out⟩
  · have e1 : ((i : Int) == (l.length : Int) - 1) = false := by rw [beq_eq_false_iff_ne]; omega
    rw [if_neg hlast] at key
    replace hlast := Hid.mk hlast
    replace key := Hid.mk key
    repeat' (with_reducible first | refine x_ops ?_ | refine wk ?_ | ((first | refine gd1 ?_ ?_ | refine gd2 ?_ ?_ | refine gd3 ?_ ?_) <;> (first | exact @False.elim _ | intro hc)))
    refine key.out _ _ _ ⟨vw, vw, vv, vv, vv⟩ rfl vv vv ?_ ?_
    · intro q hq; ((simp only [put_obj]; repeat rw [if_neg (by omega)]))
    rintro t6 M6 hM6
    replace hM6 := Hid.mk hM6
    repeat' (with_reducible first | refine x_ops ?_ | refine wk ?_ | ((first | refine gd1 ?_ ?_ | refine gd2 ?_ ?_ | refine gd3 ?_ ?_) <;> (first | exact @False.elim _ | intro hc)))
    exact nx hkl ⟨vv, hM6.out⟩
end Go.Proofs.Ytojjdkoglhecbaa
namespace Go.Proofs.Ytojjdkoglhecbaa
open Go.RowKit

/-- A net that weave has made. -/
def WvNet (h : Hand) (l : List Chord) (n0 b : Nat) (m' : Mm) : Prop :=
  ∃ gq oq rq rows gv ov, (n0 ≤ b ∧ b < m'.next) ∧ m'.obj b = some (.box (netC h l gv ov (.bsl rq 0 l.length l.length)) 123) ∧ (n0 ≤ rq ∧ rq < m'.next) ∧
    m'.obj rq = some (.box rows 22) ∧ rows.length = l.length ∧ (∀ y, y < l.length → ∃ tok, rows[y]? = some (.sl (rsT h l (tabG h l) y).length ((rsT h l (tabG h l) y).map vint) tok)) ∧
    (l.length = 0 → gv = .sl 0 [] .exact ∧ ov = .sl 0 [] .exact) ∧
    (0 < l.length → (gv = .gsl gq l.length 1 ∧ ov = .gsl oq l.length 1) ∧ (m'.obj gq = some (.box ((tabG h l).map tGs) 38) ∧ m'.obj oq = some (.box ((owA h l (tabG h l)).map tIs) 22)) ∧ (gq ≠ b ∧ oq ≠ b) ∧ (n0 ≤ gq ∧ n0 ≤ oq) ∧ gq < m'.next ∧ oq < m'.next)
/-- What weave leaves. -/
def WvPost (h : Hand) (l : List Chord) (m : Mm) (r : V) (m' : Mm) : Prop :=
  m.next ≤ m'.next ∧ (∀ q, q < m.next → m'.obj q = m.obj q) ∧ ((wvE h l = 0 ∧ ∃ b, r = .tup [.ptr b 0, vint 0] ∧ WvNet h l m.next b m') ∨ (wvE h l ≠ 0 ∧ r = .tup [.lit (.pointer none), vint (wvE h l)]))

/-- Where weave stands, with k chords done. -/
structure WvSt (h : Hand) (l : List Chord) (m : Mm) (b k : Nat) (gq oq : Nat) (gv ov : V) (M : Mm) : Prop where
  nx : b < M.next
  ho : M.obj m.next = some (.box [tIs h.low, tIs h.high, tBs h.barre, vint h.top, vint h.jump, vint h.shift, vint h.lift, vint h.bar, vint h.stretch, vint h.slide] 25)
  bo : M.obj b = some (.box (netC h l gv ov (.sl 0 [] .exact)) 123)
  z : k = 0 → gv = .sl 0 [] .exact ∧ ov = .sl 0 [] .exact
  s : 0 < k → (gv = .gsl gq k 1 ∧ ov = .gsl oq k 1) ∧ (M.obj gq = some (.box (((tabG h l).take k).map tGs) 38) ∧ M.obj oq = some (.box (((owA h l (tabG h l)).take k).map tIs) 22)) ∧ (b < gq ∧ b < oq ∧ gq ≠ oq) ∧ gq < M.next ∧ oq < M.next
  cnt : ∀ i, i < k → (grpA h (l.getD i noC)).length ≤ 200
  fr : ∀ q, q < m.next → M.obj q = m.obj q
theorem take_map_get {α : Type} (f : α → V) (L : List α) (d : α) {k : Nat} (hk : k < L.length) : (L.take (k + 1)).map f = (L.take k).map f ++ [f (L.getD k d)] := by
  rw [List.take_succ_eq_append_getElem hk, List.map_append, List.getD_eq_getElem?_getD, List.getElem?_eq_getElem hk]; rfl
theorem SetPost.some (h : Hand) (l : List Chord) (Gs : List (List Grip)) (m : Mm) {b : Nat} (hb : b < m.next) (gv ov : V) : ∃ r m', SetPost h l Gs m b gv ov r m' :=
  ⟨.tup [], ((⟨m.obj, m.next + 1⟩ : Mm).put m.next (.box ((rsA h l Gs).map tIs) 22)).put b (.box (netC h l gv ov (.bsl m.next 0 l.length l.length)) 123), rfl, Nat.le_succ _,
    fun q hq hqb => by simp only [put_obj]; rw [if_neg hqb, if_neg (by omega)], m.next, (rsA h l Gs).map tIs, Nat.le_refl _, Nat.lt_succ_self _, if_pos rfl, by rw [put_obj, if_neg (by omega), put_obj, if_pos rfl], by simp [rsA],
    fun y hy => ⟨.no, by rw [iss_at (by rw [rsA_len]; exact hy), rsA_at hy]; rfl⟩⟩

set_option maxHeartbeats 4000000 in
theorem weave_sfn (h : Hand) (l : List Chord) (hl : Fits l) (m : Mm) : SFn Try.prog Gd 69 [h.val, tCs l] m (WvPost h l m) := by
  refine SFn.of_vxS k_hand_weave_b (by simp) ?_
  have C1 := bothck_fn h l hl
  have x0 : ∀ q, q < m.next → (q = m.next) = False := fun q hq => by simp; omega
  unfold c_hand_weave_b Hand.val tCs
  unfold Hand.val tCs at C1
  by_cases he : bothE h l = 0
  case neg =>
    have e1 : (bothE h l == 0) = false := by rw [beq_eq_false_iff_ne]; exact he
    have hw : wvE h l = bothE h l := by rw [wvE, if_neg he]
    have hw0 := Hid.mk he
    replace hw := Hid.mk hw
    clear he
    repeat' (with_reducible first | refine x_ops ?_ | refine wk ?_ | (with_reducible refine xc (C1) ?_) | ((first | refine gd1 ?_ ?_ | refine gd2 ?_ ?_ | refine gd3 ?_ ?_) <;> (first | exact @False.elim _ | intro hc)))
    refine ⟨.inr rfl, .tup [.lit (.pointer none), vint (bothE h l)], vv, ?_, fun q hq => ?_, .inr ⟨by rw [hw.out]; exact hw0.out, by rw [hw.out]⟩⟩
    · show m.next ≤ m.next + 3; omega
    · simp only [put_obj]; rw [if_neg (by omega)]
  obtain ⟨hk, h4, hseq⟩ := both_ok he
  rw [he] at C1
  repeat' (with_reducible first | refine x_ops ?_ | refine wk ?_ | (with_reducible refine xc (C1) ?_) | ((first | refine gd1 ?_ ?_ | refine gd2 ?_ ?_ | refine gd3 ?_ ?_) <;> (first | exact @False.elim _ | intro hc)))
  refine x_gen (fun t => t 2 = .ptr m.next 0 ∧ t 7 = .ptr (m.next + 6) 0 ∧ t 24 = .sl l.length (l.flatMap Chord.cells) .no ∧ t 25 = vint l.length ∧ t 26 = vint 0) ⟨vv, vv, vv, vv, vv⟩ ?_
  rintro t0 ⟨a2, a7, a24, a25, a26⟩
  refine x_loopW w_hand_weave_b_p17 kr l.length (fun k t M => t 26 = vint (k : Int) ∧ ∃ gq oq gv ov, WvSt h l m (m.next + 6) k gq oq gv ov M) ?_ ?_
  · refine ⟨a26, 0, 0, .sl 0 [] .exact, .sl 0 [] .exact, ⟨?_, ?_, ?_, fun _ => ⟨rfl, rfl⟩, fun hz => by omega, fun i hi => by omega, fun q hq => ?_⟩⟩
    · show m.next + 6 < m.next + 8; omega
    · ((refine ve ?_; try exact True.intro)); simp [tIs, tBs]
    · unfold netC tCs; ((refine ve ?_; try exact True.intro)); simp [tIs, tBs]
    · simp only [put_obj]; repeat rw [if_neg (by omega)]
  rintro k t M hkl ⟨h26, gq, oq, gv, ov, hs⟩
  have hnx := hs.nx
  have hho := hs.ho
  have hbo := hs.bo
  have n0 : m.next < M.next := by omega
  by_cases hlt : k < l.length
  case neg =>
    have hke : k = l.length := by omega
    subst hke
    have c1 : ¬ (l.length : Int) < (l.length : Int) := by omega
    have hw : wvE h l = 0 := by rw [wvE, if_pos he, if_pos hs.cnt]
    have hn := wv_net hl hw
    have SS := settle_sfn hn M (b := m.next + 6) (gq := gq) (oq := oq) (gv := gv) (ov := ov) (rv := .sl 0 [] .exact) hbo hnx
      (fun hpos => by
        obtain ⟨s1, ⟨s2, s3⟩, s4, s5⟩ := hs.s hpos
        rw [List.take_of_length_le (by rw [tabG, List.length_map]; exact Nat.le_refl _)] at s2
        rw [List.take_of_length_le (by rw [owA_len]; exact Nat.le_refl _)] at s3
        exact ⟨s1, ⟨s2, s3⟩, ⟨by omega, by omega⟩, s5⟩)
    replace hs := Hid.mk hs
    replace hn := Hid.mk hn
    replace hw := Hid.mk hw
    have hx0 := Hid.mk x0
    clear hkl hlt hbo hho C1 x0
    repeat' (with_reducible first | refine x_ops ?_ | refine wk ?_ | ((first | refine gd1 ?_ ?_ | refine gd2 ?_ ?_ | refine gd3 ?_ ?_) <;> (first | exact @False.elim _ | intro hc)))
    refine x_scallR [.ptr (m.next + 6) 0] vw SS (SetPost.some h l _ M hnx gv ov) ?_
    rintro r M2 ⟨rfl, p1, p2, rq, rows, p3, p4, p5, p6, p7, p8⟩
    clear SS
    repeat' (with_reducible first | refine x_ops ?_ | refine wk ?_ | ((first | refine gd1 ?_ ?_ | refine gd2 ?_ ?_ | refine gd3 ?_ ?_) <;> (first | exact @False.elim _ | intro hc)))
    refine ⟨.inr rfl, .tup [.ptr (m.next + 6) 0, vint 0], vv, (by show m.next ≤ M2.next; omega), fun q hq => (p2 q (by omega) (by omega)).trans (hs.out.fr q hq), .inl ⟨hw.out, m.next + 6, rfl, gq, oq, rq, rows, gv, ov, ⟨by omega, (by show m.next + 6 < M2.next; omega)⟩, p5, ⟨by omega, p4⟩, p6, p7, p8, hs.out.z, fun hpos => ?_⟩⟩
    obtain ⟨s1, ⟨s2, s3⟩, s4, s5⟩ := hs.out.s hpos
    rw [List.take_of_length_le (by rw [tabG, List.length_map]; exact Nat.le_refl _)] at s2
    rw [List.take_of_length_le (by rw [owA_len]; exact Nat.le_refl _)] at s3
    exact ⟨s1, ⟨(p2 gq (by omega) (by omega)).trans s2, (p2 oq (by omega) (by omega)).trans s3⟩, ⟨by omega, by omega⟩, ⟨by omega, by omega⟩, (by show gq < M2.next; omega), (by show oq < M2.next; omega)⟩
  have hf := hl.at k
  have hc := (hseq k hlt).1
  have C2 := grips_fn h hk (l.getD k noC) hf hc
  have C3 := fun g hg hp => own_fn h hk (l.getD k noC) hc hf g hg hp
  have g1 := chs_take hlt
  have g2 := chs_len l
  have c1 : k * 3 + 3 ≤ l.length * 3 := by omega
  have c2 : (k : Int) < (l.length : Int) := by omega
  have w1 := w_add1 (k := k) (by omega)
  have e0 : ∀ q j, q < M.next → (q = M.next + j) = False := fun q j hq => by simp; omega
  unfold Hand.val Chord.val Chord.cells at C2
  unfold tGs at C2
  have hs0 := Hid.mk hs
  have hx0 := Hid.mk x0
  have hlt0 := Hid.mk hlt
  replace h4 := Hid.mk h4
  clear hs C1 hbo x0 hlt
  by_cases hcnt : (grpA h (l.getD k noC)).length ≤ 200
  case neg =>
    have hL : ((grpA h (l.getD k noC)).take 201).length = 201 := by rw [List.length_take]; omega
    have c3 : (200 : Int) < (((grpA h (l.getD k noC)).take 201).length : Int) := by rw [hL]; decide
    have hw : wvE h l = 2 := by rw [wvE, if_pos he, if_neg (fun hh => hcnt (hh k hlt0.out))]
    replace hw := Hid.mk hw
    clear hL hcnt C3
    repeat' (with_reducible first | refine x_ops ?_ | refine wk ?_ | (with_reducible refine xc (C2) ?_) | ((first | refine gd1 ?_ ?_ | refine gd2 ?_ ?_ | refine gd3 ?_ ?_) <;> (first | exact @False.elim _ | intro hc)))
    refine ⟨.inr rfl, .tup [.lit (.pointer none), vint 2], vv, ?_, fun q hq => ?_, .inr ⟨by rw [hw.out]; decide, by rw [hw.out]⟩⟩
    · show m.next ≤ M.next + 4; omega
    · simp only [put_obj]; repeat rw [if_neg (by omega)]
      exact hs0.out.fr q hq
  rw [List.take_of_length_le (by omega)] at C2
  generalize hG : grpA h (l.getD k noC) = G at *
  have c3 : ¬ (200 : Int) < (G.length : Int) := by omega
  replace hG := Hid.mk hG
  have hcnt0 := Hid.mk hcnt
  clear hcnt
  repeat' (with_reducible first | refine x_ops ?_ | refine wk ?_ | (with_reducible refine xc (C2) ?_) | ((first | refine gd1 ?_ ?_ | refine gd2 ?_ ?_ | refine gd3 ?_ ?_) <;> (first | exact @False.elim _ | intro hc)))
  refine x_genM (fun t M1 => (t 2 = .ptr m.next 0 ∧ t 7 = .ptr (m.next + 6) 0 ∧ t 9 = .ptr (M.next + 2) 0 ∧ t 10 = .sl G.length (G.flatMap Grip.cells) .no ∧ t 11 = .sl 0 [] .exact ∧ t 24 = .sl l.length (l.flatMap Chord.cells) .no ∧ t 25 = vint l.length ∧ t 26 = vint k ∧
      t 36 = .sl G.length (G.flatMap Grip.cells) .no ∧ t 37 = vint G.length ∧ t 38 = vint 0) ∧ M.next + 4 ≤ M1.next ∧ M1.obj (M.next + 2) = some (.box [tPs (l.getD k noC).down, tIs (l.getD k noC).held, tIs (l.getD k noC).opn] 47) ∧ ∀ q, q < M.next → M1.obj q = M.obj q) ⟨⟨vw, vw, vv, vv, vv, vw, vw, vw, vv, vv, vv⟩, Nat.le_refl _, vv, fun q hq => by ((simp only [put_obj]; repeat rw [if_neg (by omega)]))⟩ ?_
  clear a2 a7 a24 a25 a26 h26 C2
  rintro t1 M1 ⟨⟨a2, a7, a9, a10, a11, a24, a25, a26, a36, a37, a38⟩, m1, m2, m3⟩
  have q1 := (m3 m.next n0).trans hho
  have n1 : m.next < M1.next := by omega
  have n2 : M.next + 2 < M1.next := by omega
  have hG2 := hcnt0.out
  have hPl : ∀ g ∈ G, (1 ≤ g.pos ∧ g.pos ≤ 18) ∧ g.fingers.length = (l.getD k noC).down.length := fun g hg => by
    rw [← hG.out] at hg
    have h1 := grpA_mem.1 hg
    have h2 := h1.pos
    have h3 := hk.top
    exact ⟨⟨h2.1, by omega⟩, h1.len⟩
  have hOlen : (G.map (ownC h (l.getD k noC))).length = G.length := List.length_map _
  generalize hO : G.map (ownC h (l.getD k noC)) = O at *
  replace hOlen := Hid.mk hOlen
  replace hO := Hid.mk hO
  replace m3 := Hid.mk m3
  replace hPl := Hid.mk hPl
  clear hho
  refine x_loopW w_hand_weave_b_p7 kr G.length (fun j t M' => t 38 = vint (j : Int) ∧ (M1.next ≤ M'.next ∧ ∀ q, q < M1.next → M'.obj q = M1.obj q) ∧ ∃ tok, t 11 = .sl j ((O.take j).map vint) tok ∧ Apb M' tok j 3 1 ∧ ∀ q, tok = .own q → M1.next ≤ q) ?_ ?_
  · exact ⟨a38, ⟨Nat.le_refl _, fun _ _ => rfl⟩, .exact, a11, .inl rfl, fun q hq => by cases hq⟩
  rintro j t2 M' hjG ⟨h38, ⟨k1, k2⟩, tok, h11, hap, htk⟩
  by_cases hjl : j < G.length
  · have p1 := (k2 m.next n1).trans q1
    have p2 := (k2 (M.next + 2) n2).trans m2
    have p3 : m.next < M'.next := by omega
    have p4 : M.next + 2 < M'.next := by omega
    have e1 : ∀ q j, q < M'.next → (q = M'.next + j) = False := fun q j hq => by simp; omega
    have c4 : (j : Int) < (G.length : Int) := by omega
    have g3 := gs_take hjl
    have g4 := gs_len G
    have c5 : j * 2 + 2 ≤ G.length * 2 := by omega
    have w2 := w_add1 (k := j) (by omega)
    have hgp := hPl.out _ (mem_getD noG hjl)
    have C4 := C3 (G.getD j noG) hgp.2 hgp.1
    have hOj : (O.take (j + 1)) = O.take j ++ [ownC h (l.getD k noC) (G.getD j noG)] := by
      have := hOlen.out
      rw [take_get (by omega), ← hO.out, getD_map _ _ noG _ hjl]
    unfold Hand.val Chord.val Chord.cells Grip.val Grip.cells at C4
    replace k2 := Hid.mk k2
    have hTl : (O.take j).length = j := by have := hOlen.out; rw [List.length_take]; omega
    replace hTl := Hid.mk hTl
    replace hjl := Hid.mk hjl
    replace hOj := Hid.mk hOj
    clear C3
    repeat' (with_reducible first | refine x_ops ?_ | refine wk ?_ | (with_reducible refine xc (C4) ?_) | ((first | refine gd1 ?_ ?_ | refine gd2 ?_ ?_ | refine gd3 ?_ ?_) <;> (first | exact @False.elim _ | intro hc)))
    refine x_appc (xs := (O.take j).map vint) (ys := [vint (ownC h (l.getD k noC) (G.getD j noG))]) vw vw (hap.mono (fun q hq _ => by ((simp only [put_obj]; repeat rw [if_neg (by omega)]))) (by show M'.next ≤ M'.next + 12; omega)) (by rw [List.length_map]; have := hTl.out; omega) rfl (by have := hjl.out; omega) (by unfold Go.maxLen; have := hjl.out; omega) (by show M'.next + 10 < M'.next + 12; omega) ?_
    intro tok' m' hap' hn' hfr hto
    replace hn' : m'.next = M'.next + 12 := hn'
    have f1 : ∀ q, q < M1.next → m'.obj q = M1.obj q := fun q hq => by
      rw [hfr q (by show ¬ q = M'.next + 10; omega) (fun e => by have := htk q e; omega)]
      refine Eq.trans ?_ (k2.out q hq)
      ((simp only [put_obj]; repeat rw [if_neg (by omega)]))
    have f2 : ∀ q, tok' = .own q → M1.next ≤ q := fun q hq => by
      rcases hto q hq with h1 | h1
      · rw [h1]; show M1.next ≤ M'.next + 10; omega
      · exact htk q h1
    have f3 : M1.next ≤ m'.next := by omega
    replace hn' := Hid.mk hn'
    replace f1 := Hid.mk f1
    replace f2 := Hid.mk f2
    replace hap' := Hid.mk hap'
    clear hfr hto hap htk e1 p1 p2
    repeat' (with_reducible first | refine x_ops ?_ | refine wk ?_ | ((first | refine gd1 ?_ ?_ | refine gd2 ?_ ?_ | refine gd3 ?_ ?_) <;> (first | exact @False.elim _ | intro hc)))
    exact nx hjl.out ⟨vv, ⟨f3, f1.out⟩, tok', by rw [hOj.out, List.map_append]; ((refine ve ?_; try exact True.intro)), hap'.out, f2.out⟩
  have hje : j = G.length := by omega
  subst hje
  have c4 : ¬ (G.length : Int) < (G.length : Int) := by omega
  have hOt : O.take G.length = O := List.take_of_length_le (by have := hOlen.out; omega)
  rw [hOt] at h11
  have e1 : ∀ q j, q < M'.next → (q = M'.next + j) = False := fun q j hq => by simp; omega
  have e2 : ∀ q j, q < M'.next → (M'.next + j = q) = False := fun q j hq => by simp; omega
  have kb := hs0.out.bo
  have p1 := (k2 (m.next + 6) (by omega)).trans ((m3.out (m.next + 6) hnx).trans kb)
  have p2 : m.next + 6 < M'.next := by omega
  have low : ∀ q, q < M.next → M'.obj q = M.obj q := fun q hq => (k2 q (by omega)).trans (m3.out q hq)
  have hOe : O = owR h l (tabG h l) k := by rw [← hO.out, owR, tabG_at hlt0.out, hG.out]
  have hGk : (tabG h l).getD k [] = G := by rw [tabG_at hlt0.out, hG.out]
  have hcn : ∀ i, i < k + 1 → (grpA h (l.getD i noC)).length ≤ 200 := fun i hi => by
    by_cases hik : i = k
    · subst hik; rw [hG.out]; exact hcnt0.out
    · exact hs0.out.cnt i (by omega)
  have htg : ((tabG h l).take (k + 1)).map tGs = ((tabG h l).take k).map tGs ++ [tGs G] := by
    rw [take_map_get tGs _ [] (by rw [tabG, List.length_map]; exact hlt0.out), hGk]
  have hto : ((owA h l (tabG h l)).take (k + 1)).map tIs = ((owA h l (tabG h l)).take k).map tIs ++ [tIs O] := by
    rw [take_map_get tIs _ [] (by rw [owA_len]; exact hlt0.out), owA_at hlt0.out, hOe]
  unfold netC at p1
  replace k2 := Hid.mk k2
  replace low := Hid.mk low
  replace hOe := Hid.mk hOe
  replace hGk := Hid.mk hGk
  replace hcn := Hid.mk hcn
  replace htg := Hid.mk htg
  replace hto := Hid.mk hto
  have hhO : Hid (O.length = G.length) := hOlen
  clear hap C3 hOt hjG hjl q1
  by_cases hk0 : k = 0
  · subst hk0
    obtain ⟨rfl, rfl⟩ := hs0.out.z rfl
    repeat' (with_reducible first | refine x_ops ?_ | refine wk ?_ | ((first | refine gd1 ?_ ?_ | refine gd2 ?_ ?_ | refine gd3 ?_ ?_) <;> (first | exact @False.elim _ | intro hc)))
    refine x_appM0 (n := 0) (j := 1) (xs := []) (ys := [.sl G.length (G.flatMap Grip.cells) .no]) vw (by (simp only [go_sem, Nat.reduceAdd, Nat.reduceEqDiff, Nat.reduceLT, Nat.reduceLeDiff, Nat.reduceMul, Nat.reduceSub, Nat.reducePow, Nat.reduceDiv, Nat.reduceMod, Nat.reduceBEq, Int.reduceBEq, Int.reduceLT, reduceIte, V.norms, V.norm, tIs, tBs, tPs, *]); rfl) rfl (by decide) (by decide) ?_
    rw [if_neg (by decide)]
    repeat' (with_reducible first | refine x_ops ?_ | refine wk ?_ | ((first | refine gd1 ?_ ?_ | refine gd2 ?_ ?_ | refine gd3 ?_ ?_) <;> (first | exact @False.elim _ | intro hc)))
    refine x_appM0 (n := 0) (j := 1) (xs := []) (ys := [.sl G.length (O.map vint) .no]) vw (by (simp only [go_sem, Nat.reduceAdd, Nat.reduceEqDiff, Nat.reduceLT, Nat.reduceLeDiff, Nat.reduceMul, Nat.reduceSub, Nat.reducePow, Nat.reduceDiv, Nat.reduceMod, Nat.reduceBEq, Int.reduceBEq, Int.reduceLT, reduceIte, V.norms, V.norm, tIs, tBs, tPs, *]); rfl) rfl (by decide) (by decide) ?_
    rw [if_neg (by decide)]
    repeat' (with_reducible first | refine x_ops ?_ | refine wk ?_ | ((first | refine gd1 ?_ ?_ | refine gd2 ?_ ?_ | refine gd3 ?_ ?_) <;> (first | exact @False.elim _ | intro hc)))
    rw [List.take_zero, List.map_nil, List.nil_append] at htg hto
    refine nx hlt0.out ⟨vv, M'.next + 7, M'.next + 18, .gsl (M'.next + 7) 1 1, .gsl (M'.next + 18) 1 1, ⟨?_, ?_, ?_, fun hz => by omega, fun _ => ⟨⟨rfl, rfl⟩, ⟨?_, ?_⟩, ⟨by omega, by omega, by omega⟩, ?_, ?_⟩, hcn.out, fun q hq => ?_⟩⟩
    · show m.next + 6 < M'.next + 22; omega
    · simp only [put_obj]; repeat rw [if_neg (by omega)]
      exact (low.out m.next n0).trans hs0.out.ho
    · unfold netC tCs; ((refine ve ?_; try exact True.intro)); simp [tIs, tBs]
    · simp only [put_obj]; repeat rw [if_neg (by omega)]
      rw [htg.out, if_pos True.intro]; rfl
    · simp only [put_obj]; repeat rw [if_neg (by omega)]
      rw [hto.out, if_pos True.intro, tIs, hhO.out]
    · show M'.next + 7 < M'.next + 22; omega
    · show M'.next + 18 < M'.next + 22; omega
    · simp only [put_obj]; repeat rw [if_neg (by omega)]
      exact (low.out q (by omega)).trans (hs0.out.fr q hq)
  obtain ⟨⟨rfl, rfl⟩, ⟨s1, s2⟩, ⟨s3, s4, s5⟩, s6, s7⟩ := hs0.out.s (by omega)
  have s1' := (low.out gq s6).trans s1
  have s2' := (low.out oq s7).trans s2
  have l1 : (((tabG h l).take k).map tGs).length = k := by rw [List.length_map, List.length_take, tabG, List.length_map]; have := hlt0.out; omega
  have l2 : (((owA h l (tabG h l)).take k).map tIs).length = k := by rw [List.length_map, List.length_take, owA_len]; have := hlt0.out; omega
  have t1' : (((tabG h l).take k).map tGs).take (k * 1) = ((tabG h l).take k).map tGs := List.take_of_length_le (by omega)
  have t2' : (((owA h l (tabG h l)).take k).map tIs).take (k * 1) = ((owA h l (tabG h l)).take k).map tIs := List.take_of_length_le (by omega)
  have r1 : (((tabG h l).take k).map tGs).all V.one = true := by have := fgt_one (rows_tGs ((tabG h l).take k)); rwa [fgt_tGs] at this
  have r2 : (((owA h l (tabG h l)).take k).map tIs).all V.one = true := by have := fgt_one (rows_tIs ((owA h l (tabG h l)).take k)); rwa [fgt_tIs] at this
  have d1 : ∀ (m : Mm) (i j : Nat), (m.del i).obj j = if j = i then none else m.obj j := fun _ _ _ => rfl
  have d2 : ∀ (m : Mm) (i : Nat), (m.del i).next = m.next := fun _ _ => rfl
  have x1 : ¬ m.next + 6 = gq := by omega
  have x2 : ¬ m.next + 6 = oq := by omega
  have x3 : ¬ oq = m.next + 6 := by omega
  have x4 : ¬ oq = gq := by omega
  have x5 : oq < M'.next := by omega
  have hl4 := h4.out
  generalize ((tabG h l).take k).map tGs = TG at *
  generalize ((owA h l (tabG h l)).take k).map tIs = TO at *
  replace l1 := Hid.mk l1
  replace l2 := Hid.mk l2
  repeat' (with_reducible first | refine x_ops ?_ | refine wk ?_ | ((first | refine gd1 ?_ ?_ | refine gd2 ?_ ?_ | refine gd3 ?_ ?_) <;> (first | exact @False.elim _ | intro hc)))
  refine x_appM (q := gq) (n := k) (j := 1) (cs := TG) (ys := [.sl G.length (G.flatMap Grip.cells) .no]) vw (by (simp only [go_sem, Nat.reduceAdd, Nat.reduceEqDiff, Nat.reduceLT, Nat.reduceLeDiff, Nat.reduceMul, Nat.reduceSub, Nat.reducePow, Nat.reduceDiv, Nat.reduceMod, Nat.reduceBEq, Int.reduceBEq, Int.reduceLT, reduceIte, V.norms, V.norm, tIs, tBs, tPs, *]); rfl) vw (by have := l1.out; omega) (by rw [t1']; exact r1) (by have := hlt0.out; omega) (by unfold Go.maxLen; have := hlt0.out; omega) ?_
  rw [t1']
  clear s1'
  repeat' (with_reducible first | refine x_ops ?_ | refine wk ?_ | ((first | refine gd1 ?_ ?_ | refine gd2 ?_ ?_ | refine gd3 ?_ ?_) <;> (first | exact @False.elim _ | intro hc)))
  refine x_appM (q := oq) (n := k) (j := 1) (cs := TO) (ys := [.sl G.length (O.map vint) .no]) vw (by (simp only [go_sem, Nat.reduceAdd, Nat.reduceEqDiff, Nat.reduceLT, Nat.reduceLeDiff, Nat.reduceMul, Nat.reduceSub, Nat.reducePow, Nat.reduceDiv, Nat.reduceMod, Nat.reduceBEq, Int.reduceBEq, Int.reduceLT, reduceIte, V.norms, V.norm, tIs, tBs, tPs, *]); rfl) vw (by have := l2.out; omega) (by rw [t2']; exact r2) (by have := hlt0.out; omega) (by unfold Go.maxLen; have := hlt0.out; omega) ?_
  rw [t2']
  clear s2'
  repeat' (with_reducible first | refine x_ops ?_ | refine wk ?_ | ((first | refine gd1 ?_ ?_ | refine gd2 ?_ ?_ | refine gd3 ?_ ?_) <;> (first | exact @False.elim _ | intro hc)))
  have lw : ∀ q, q < M.next → q ≠ m.next + 6 → q ≠ gq → q ≠ oq → ∀ (a b c : AObj) (n1 n2 : Nat), (((((Mm.put (Mm.del ⟨M'.obj, n1⟩ gq) (M'.next + 7) a).put (m.next + 6) b).del oq).put (M'.next + 18) c).put (m.next + 6) b).obj q = M.obj q := fun q h1 h2 h3 h4 a b c n1 n2 => by
    simp only [put_obj, d1]; repeat rw [if_neg (by omega)]
    exact low.out q h1
  refine nx hlt0.out ⟨vv, M'.next + 7, M'.next + 18, .gsl (M'.next + 7) (k + 1) 1, .gsl (M'.next + 18) (k + 1) 1, ⟨?_, ?_, ?_, fun hz => by omega, fun _ => ⟨⟨rfl, rfl⟩, ⟨?_, ?_⟩, ⟨by omega, by omega, by omega⟩, ?_, ?_⟩, hcn.out, fun q hq => ?_⟩⟩
  · show m.next + 6 < M'.next + 22; omega
  · simp only [put_obj, d1]; repeat rw [if_neg (by omega)]
    exact (low.out m.next n0).trans hs0.out.ho
  · unfold netC tCs; ((refine ve ?_; try exact True.intro)); simp [tIs, tBs]
  · simp only [put_obj, d1]; repeat rw [if_neg (by omega)]
    rw [htg.out, if_pos True.intro]; rfl
  · simp only [put_obj, d1]; repeat rw [if_neg (by omega)]
    rw [hto.out, if_pos True.intro, tIs, hhO.out]
  · show M'.next + 7 < M'.next + 22; omega
  · show M'.next + 18 < M'.next + 22; omega
  · simp only [put_obj, d1]; repeat rw [if_neg (by omega)]
    exact (low.out q (by omega)).trans (hs0.out.fr q hq)
/-- What weave gives. -/
noncomputable def wvR (h : Hand) (l : List Chord) : V := if wvE h l = 0 then .tup [netE h l (tabG h l), vint 0] else .tup [.lit (.pointer none), vint (wvE h l)]
theorem weave_fn (h : Hand) (l : List Chord) (hl : Fits l) : Fn Try.prog Gd 69 [h.val, tCs l] (wvR h l) := by
  refine Fn.of_empty (by rw [V.pures, pure_hand, V.pures, pure_tCs]; rfl) ((weave_sfn h l hl M0).mono ?_)
  rintro r m' ⟨_, _, ⟨hw, b, rfl, gq, oq, rq, rows, gv, ov, h1, h2, h3, h4, h5, h6, h7, h8⟩ | ⟨hw, rfl⟩⟩
  · rw [wvR, if_pos hw, netE]
    have hn := wv_net hl hw
    have hr : Vws m' allS rows ((rsA h l (tabG h l)).map tIs) := by
      have hrows : Rows rows := fun v hv => by
        obtain ⟨y, hy, e⟩ := List.mem_iff_getElem.1 hv
        obtain ⟨tok, h9⟩ := h6 y (by omega)
        rw [List.getElem?_eq_getElem hy] at h9
        exact ⟨_, _, _, by rw [← e]; injection h9⟩
      have he : rows.map fgt = (rsA h l (tabG h l)).map tIs := by
        apply List.ext_getElem?
        intro y
        rw [List.getElem?_map]
        by_cases hy : y < l.length
        · obtain ⟨tok, h9⟩ := h6 y hy
          rw [h9, iss_at (by rw [rsA_len]; exact hy), rsA_at hy]; rfl
        · rw [List.getElem?_eq_none (by omega), List.getElem?_eq_none (by rw [List.length_map, rsA_len]; omega)]; rfl
      rw [← he]; exact vws_rows hrows
    have hr1 : ((rsA h l (tabG h l)).map tIs).all V.one = true := by have := fgt_one (rows_tIs (rsA h l (tabG h l))); rwa [fgt_tIs] at this
    have vr : Vw m' allS (.bsl rq 0 l.length l.length) (tIss (rsA h l (tabG h l))) := by rw [tIss, rsA_len]; exact .bsl rfl h4 hr hr1
    obtain ⟨vg, vo⟩ : Vw m' allS gv (tGss (tabG h l)) ∧ Vw m' allS ov (tIss (owA h l (tabG h l))) := by
      rcases Nat.eq_zero_or_pos l.length with h0 | h0
      · obtain ⟨rfl, rfl⟩ := h7 h0
        have e1 : tabG h l = [] := List.eq_nil_of_length_eq_zero (by rw [tabG, List.length_map]; exact h0)
        have e2 : owA h l (tabG h l) = [] := List.eq_nil_of_length_eq_zero (by rw [owA_len]; exact h0)
        rw [e2, e1]; exact ⟨.sl _ _ _, .sl _ _ _⟩
      · obtain ⟨⟨rfl, rfl⟩, ⟨s1, s2⟩, _⟩ := h8 h0
        have gl := hn.gl
        refine ⟨?_, ?_⟩
        · rw [tGss, gl]
          exact .gsl rfl s1 (by have := vws_rows (m := m') (S := allS) (rows_tGs (tabG h l)); rwa [fgt_tGs] at this) (by have := fgt_one (rows_tGs (tabG h l)); rwa [fgt_tGs] at this)
        · rw [tIss, owA_len]
          exact .gsl rfl s2 (by have := vws_rows (m := m') (S := allS) (rows_tIs (owA h l (tabG h l))); rwa [fgt_tIs] at this) (by have := fgt_one (rows_tIs (owA h l (tabG h l))); rwa [fgt_tIs] at this)
    exact .tup (.cons (.ptr rfl h2 (.cons (.sl _ _ _) (.cons (.sl _ _ _) (.cons (.sl _ _ _) (.cons (.lit _) (.cons (.lit _) (.cons (.lit _) (.cons (.lit _) (.cons (.lit _) (.cons (.lit _) (.cons (.lit _) (.cons (.sl _ _ _) (.cons vg (.cons vo (.cons vr .nil)))))))))))))) rfl) (.cons (.lit _) .nil))
  · rw [wvR, if_neg hw]
    exact .tup (.cons (.lit _) (.cons (.lit _) .nil))
end Go.Proofs.Ytojjdkoglhecbaa
namespace Go.Proofs.Ytojjdkoglhecbaa
open Go.RowKit

theorem grR_net {h : Hand} {c : Chord} (hk : HandOk h) (hc : ChordOk c) : grR h c = if (grpA h c).length ≤ 200 then (grpA h c, 0) else ([], 2) := by
  have h1 : chkE h = 0 := by unfold chkE; simp [hk]
  rw [grR, if_pos h1, if_pos (rgt_true.2 hc)]

end Go.Proofs.Ytojjdkoglhecbaa
namespace Go.Proofs.Ytojjdkoglhecbaa
open Go.RowKit

theorem wbefore_fn (a b : Way) : Fn Try.prog Gd 110 [.agg (wyE a), .agg (wyE b)] (vbool (befW a b)) := by
  refine Fn.of_vx0 k_hand_way_before (by simp) (by simp [V.pures, V.pure, wyE, vint]) ?_
  unfold c_hand_way_before wyE befW
  by_cases h : a.1 = b.1
  · have e1 : (a.1 == b.1) = true := by rw [beq_iff_eq]; exact h
    rw [if_pos h]
    clear h
    repeat' (with_reducible first | refine x_ops ?_ | refine wk ?_ | ((first | refine gd1 ?_ ?_ | refine gd2 ?_ ?_ | refine gd3 ?_ ?_) <;> (first | exact @False.elim _ | intro hc)))
    exact finV_lit vv rfl
  · have e1 : (a.1 == b.1) = false := by rw [beq_eq_false_iff_ne]; exact h
    rw [if_neg h]
    clear h
    repeat' (with_reducible first | refine x_ops ?_ | refine wk ?_ | ((first | refine gd1 ?_ ?_ | refine gd2 ?_ ?_ | refine gd3 ?_ ?_) <;> (first | exact @False.elim _ | intro hc)))
    exact finV_lit vv rfl
theorem call_before : callable Try.prog 110 = true := by kernel_rfl

/-- The cells of ways. -/
def wyC (L : List Way) : List V := L.flatMap wyE
theorem wyC_len (L : List Way) : (wyC L).length = L.length * 3 := flat_len wy_l L
theorem wyC_at {L : List Way} {i : Nat} (hi : i < L.length) : ((wyC L).drop (i * 3)).take 3 = [vint (L.getD i noW).1, vint (L.getD i noW).2.1, vint (L.getD i noW).2.2] := flat_take wy_l noW hi
theorem wyC_one (L : List Way) : (wyC L).all V.one = true := by
  rw [List.all_eq_true]
  intro v hv
  rw [wyC, List.mem_flatMap] at hv
  obtain ⟨w, _, hw⟩ := hv
  unfold wyE at hw
  simp only [List.mem_cons, List.not_mem_nil, or_false] at hw
  rcases hw with rfl | rfl | rfl <;> rfl
theorem wyC_app (L R : List Way) : wyC (L ++ R) = wyC L ++ wyC R := List.flatMap_append
theorem wyC_take (L : List Way) (k : Nat) : (wyC L).take (k * 3) = wyC (L.take k) := flat_take_n wy_l L k
theorem wyC_set {L : List Way} {i : Nat} (hi : i < L.length) (w : Way) : wyC (L.set i w) = (wyC L).take (i * 3) ++ wyE w ++ (wyC L).drop (i * 3 + 3) := by
  rw [set_eq hi, wyC, List.flatMap_append, List.flatMap_cons, ← List.append_assoc]
  congr 1
  · congr 1; exact (flat_take_n wy_l L i).symm
  · have := flat_drop_n wy_l L (i + 1)
    rw [Nat.add_mul, Nat.one_mul] at this
    exact this.symm
/-- The list of a queue in memory: its ways, and what lies behind them. -/
def QV (M : Mm) (v : V) (H : List Way) : Prop := (v = .sl 0 [] .exact ∧ H = []) ∨ ∃ id R, v = .gsl id H.length 3 ∧ id < M.next ∧ M.obj id = some (.box (wyC (H ++ R)) 154)
theorem QV.mono {M M' : Mm} {v : V} {H : List Way} (h : QV M v H) (hn : M.next ≤ M'.next) (ho : ∀ q n, v = .gsl q n 3 → M'.obj q = M.obj q) : QV M' v H := by
  rcases h with h | ⟨id, R, h1, h2, h3⟩
  · exact .inl h
  · exact .inr ⟨id, R, h1, Nat.lt_of_lt_of_le h2 hn, by rw [ho id _ h1]; exact h3⟩
section
variable {P : Program} {G : Ground}
/-- One more at the end of a queue's list. -/
theorem x_appQ {base i : Nat} {d : Option Nat} {x y : Opd} {l : List VI} {s : St} {K : St → Prop} {v : V} {H : List Way} {w : Way} {k2 : Tok} (hx : s.ev x = v) (hq : QV s.m v H) (hy : s.ev y = .sl 1 [vint w.1, vint w.2.1, vint w.2.2] k2) (hl : H.length ≤ 1000000)
    (h : ∀ m', m'.next = s.m.next → (∀ q, q ≠ base + i → (∀ n, v ≠ .gsl q n 3) → m'.obj q = s.m.obj q) → m'.obj (base + i) = some (.box (wyC (H ++ [w])) 154) → goR P G base (some ⟨putT s.t d (.gsl (base + i) (H.length + 1) 3), m'⟩) l (i + 1) K) :
    vrun P G base i (⟨d, none, .appM 154 3 24, [x, y], none⟩ :: l) s K := by
  have hr : rdS s.m 3 (s.ev y) = some (1, [vint w.1, vint w.2.1, vint w.2.2]) := by rw [hy]; rfl
  rcases hq with ⟨rfl, rfl⟩ | ⟨id, R, rfl, hid, ho⟩
  · refine x_appM0 (n := 0) (j := 1) (xs := []) hx hr rfl (by decide) (by decide) ?_
    rw [if_neg (by decide)]
    exact h _ rfl (fun q hq _ => put_other _ _ hq) (put_same _ _ _)
  · have e1 : (wyC (H ++ R)).take (H.length * 3) = wyC H := by rw [wyC_take, List.take_left' rfl]
    refine x_appM (j := 1) hx hr ho (by rw [wyC_len, List.length_append]; exact Nat.mul_le_mul_right 3 (Nat.le_add_right _ _)) (by rw [e1]; exact wyC_one H) (by omega) (by unfold Go.maxLen; omega) ?_
    rw [e1]
    refine h _ rfl (fun q hq hq2 => (put_other _ _ hq).trans (if_neg fun e => hq2 H.length (by rw [e]))) ?_
    rw [wyC_app]; exact put_same _ _ _
end

/-- Where push stands. -/
structure PsSt (M : Mm) (nb : Nat) (fv v dv : V) (H : List Way) (w : Way) (i : Nat) (L : List Way) (M' : Mm) : Prop where
  nx : M'.next = M.next + 12
  len : L.length = H.length + 1
  up : UpOk L i
  perm : L.Perm (H ++ [w])
  qo : M'.obj (M.next + 8) = some (.box (wyC L) 154)
  nbo : M'.obj nb = some (.box [fv, .gsl (M.next + 8) (H.length + 1) 3, .fn 110 [], dv] 159)
  fr : ∀ q, q < M.next → q ≠ nb → (∀ n, v ≠ .gsl q n 3) → M'.obj q = M.obj q
theorem up_new {H : List Way} (hh : HpOk H) (w : Way) : UpOk (H ++ [w]) H.length := by
  have lo : ∀ y, y < H.length → (H ++ [w]).getD y noW = H.getD y noW := fun y hy => by
    rw [List.getD_eq_getElem?_getD, List.getElem?_append_left hy, List.getD_eq_getElem?_getD]
  refine ⟨by simp, fun j j0 hj hjn => ?_, fun h0 j j0 hj hjp => ?_⟩
  · rw [List.length_append] at hj
    have : j < H.length := by simp at hj; omega
    rw [lo j this, lo _ (by omega)]
    exact hh j j0 this
  · simp at hj; omega

set_option maxHeartbeats 4000000 in
theorem push_sfn {M : Mm} {nb : Nat} {fv v dv : V} {H : List Way} {w : Way} (hb : M.obj nb = some (.box [fv, v, .fn 110 [], dv] 159)) (hn : nb < M.next) (hq : QV M v H) (hh : HpOk H) (hl : H.length ≤ 100000) :
    SFn Try.prog Gd 111 [.ptr nb 1, .agg (wyE w)] M fun r M' => r = .tup [] ∧ M.next ≤ M'.next ∧ ∃ id H', M.next ≤ id ∧ M'.obj nb = some (.box [fv, .gsl id (H.length + 1) 3, .fn 110 [], dv] 159) ∧
      id < M'.next ∧ M'.obj id = some (.box (wyC H') 154) ∧ H'.length = H.length + 1 ∧ HpOk H' ∧ H'.Perm (H ++ [w]) ∧ ∀ q, q < M.next → q ≠ nb → (∀ n, v ≠ .gsl q n 3) → M'.obj q = M.obj q := by
  refine SFn.of_vxS k_hand_queue_hand_way_push_b (by simp) ?_
  have x0 : ¬ nb = M.next := by omega
  have x1 : nb < M.next + 1 := by omega
  have x2 : M.next < M.next + 1 := by omega
  have hvn : ∀ q n, v = .gsl q n 3 → q < M.next ∧ q ≠ nb := fun q n e => by
    rcases hq with ⟨h1, _⟩ | ⟨id, R, h1, h2, h3⟩
    · rw [h1] at e; cases e
    · rw [h1] at e; injection e with e1 e2; subst e1
      exact ⟨h2, fun e => by subst e; rw [h3] at hb; injection hb with hb; injection hb with _ hb; cases hb⟩
  unfold c_hand_queue_hand_way_push_b wyE
  have hq0 := Hid.mk hq
  clear hq
  repeat' (with_reducible first | refine x_ops ?_ | refine wk ?_ | ((first | refine gd1 ?_ ?_ | refine gd2 ?_ ?_ | refine gd3 ?_ ?_) <;> (first | exact @False.elim _ | intro hc)))
  refine x_appQ (v := v) (H := H) (w := w) (k2 := .exact) vw (hq0.out.mono (by show M.next ≤ M.next + 12; omega) (fun q n e => put_other _ _ (by have := (hvn q n e).1; omega))) vw (by omega) ?_
  intro m1 n1 f1 b1
  replace n1 : m1.next = M.next + 12 := n1
  have hb1 : m1.obj nb = some (.box [fv, v, .fn 110 [], dv] 159) := by
    rw [f1 nb (by show ¬ nb = M.next + 8; omega) (fun n e => (hvn nb n e).2 rfl)]
    exact (put_other _ _ x0).trans hb
  have old1 : ∀ q, q < M.next → (∀ n, v ≠ .gsl q n 3) → m1.obj q = M.obj q := fun q hq hv => (f1 q (by show ¬ q = M.next + 8; omega) hv).trans (put_other _ _ (by omega))
  have w1 : IntKind.i64.wrap (((H.length + 1 : Nat) : Int) - 1) = (H.length : Int) := by rw [w_in (by omega)]; omega
  have b1' : m1.obj (M.next + 8) = some (.box (wyC (H ++ [w])) 154) := b1
  have y0 : ¬ M.next + 8 = nb := by omega
  replace n1 := Hid.mk n1
  replace old1 := Hid.mk old1
  clear f1 b1 hb
  repeat' (with_reducible first | refine x_ops ?_ | refine wk ?_ | ((first | refine gd1 ?_ ?_ | refine gd2 ?_ ?_ | refine gd3 ?_ ?_) <;> (first | exact @False.elim _ | intro hc)))
  refine x_genM (fun t M' => (t 0 = .ptr nb 1 ∧ t 4 = vint H.length) ∧ PsSt M nb fv v dv H w H.length (H ++ [w]) M') ⟨⟨vv, vv⟩, ⟨n1.out, by simp, up_new hh w, .refl _, ?_, ?_, fun q hq hqn hv => ?_⟩⟩ ?_
  · exact (put_other _ _ y0).trans b1'
  · exact put_same _ _ _
  · exact (put_other _ _ hqn).trans (old1.out q hq hv)
  clear w1 b1' hb1 n1 old1 hh hq0
  rintro t1 M1 ⟨⟨a0, a4⟩, hs0⟩
  refine x_loopW w_hand_queue_hand_way_push_b_p3 kr H.length (fun k t M' => ∃ (i : Nat) (L : List Way), t 4 = vint (i : Int) ∧ i + k ≤ H.length ∧ PsSt M nb fv v dv H w i L M') ?_ ?_
  · exact ⟨H.length, H ++ [w], a4, by omega, hs0⟩
  clear a4 hs0
  rintro k t M' hk ⟨i, L, h4, hik, hs⟩
  have hnx := hs.nx
  have hqo := hs.qo
  have hnb := hs.nbo
  have q0 : nb < M'.next := by omega
  have q1 : M.next + 8 < M'.next := by omega
  have fin : HpOk L → ∃ id H', M.next ≤ id ∧ M'.obj nb = some (.box [fv, .gsl id (H.length + 1) 3, .fn 110 [], dv] 159) ∧
      id < M'.next ∧ M'.obj id = some (.box (wyC H') 154) ∧ H'.length = H.length + 1 ∧ HpOk H' ∧ H'.Perm (H ++ [w]) ∧ ∀ q, q < M.next → q ≠ nb → (∀ n, v ≠ .gsl q n 3) → M'.obj q = M.obj q :=
    fun hp => ⟨M.next + 8, L, by omega, hnb, q1, hqo, hs.len, hp, hs.perm, hs.fr⟩
  have hMM : M.next ≤ M'.next := by omega
  replace fin := Hid.mk fin
  by_cases hi0 : i = 0
  · subst hi0
    have c1 : ¬ (0 : Int) < ((0 : Nat) : Int) := by decide
    have hfin := Hid.mk (fin.out (up_end hs.up (.inl rfl)))
    replace hs := Hid.mk hs
    replace hnx := Hid.mk hnx
    clear hqo hnb
    repeat' (with_reducible first | refine x_ops ?_ | refine wk ?_ | ((first | refine gd1 ?_ ?_ | refine gd2 ?_ ?_ | refine gd3 ?_ ?_) <;> (first | exact @False.elim _ | intro hc)))
    exact ⟨.inl rfl, .tup [], vv, rfl, hMM, hfin.out⟩
  have hiL : i < L.length := hs.up.lt
  have hpL : (i - 1) / 2 < L.length := by omega
  have c1 : (0 : Int) < (i : Int) := by omega
  have hlen := hs.len
  have c2 : (i : Int) < ((H.length + 1 : Nat) : Int) := by omega
  have c3 : (((i - 1) / 2 : Nat) : Int) < ((H.length + 1 : Nat) : Int) := by omega
  have w1 : IntKind.i64.wrap ((i : Int) - 1) = ((i - 1 : Nat) : Int) := by rw [w_in (by omega)]; omega
  have w2 : ((i - 1 : Nat) : Int).tdiv 2 = (((i - 1) / 2 : Nat) : Int) := rfl
  have w3 : IntKind.i64.wrap (((i - 1) / 2 : Nat) : Int) = (((i - 1) / 2 : Nat) : Int) := w_in (by omega)
  have n2 : ¬ (2 : Int) = 0 := by decide
  have g1 := wyC_at hiL
  have g2 := wyC_at hpL
  have g3 := wyC_len L
  rw [hlen] at g3
  have c4 : i * 3 + 3 ≤ (H.length + 1) * 3 := by omega
  have c5 : (i - 1) / 2 * 3 + 3 ≤ (H.length + 1) * 3 := by omega
  have BF := wbefore_fn (L.getD i noW) (L.getD ((i - 1) / 2) noW)
  unfold wyE at BF
  have hbad : befW (L.getD i noW) (L.getD ((i - 1) / 2) noW) = false → HpOk L := fun h1 => up_end hs.up (.inr h1)
  have hstp : befW (L.getD i noW) (L.getD ((i - 1) / 2) noW) = true → UpOk (swW L i ((i - 1) / 2)) ((i - 1) / 2) := fun h1 => up_step hs.up (by omega) h1
  have eA := (wyC_set hiL (L.getD ((i - 1) / 2) noW)).symm
  have eB := (wyC_set (L := L.set i (L.getD ((i - 1) / 2) noW)) (i := (i - 1) / 2) (by rw [List.length_set]; exact hpL) (L.getD i noW)).symm
  have lA := wyC_len (L.set i (L.getD ((i - 1) / 2) noW))
  rw [List.length_set, hlen] at lA
  unfold wyE vint at eA eB
  have esw : (L.set i (L.getD ((i - 1) / 2) noW)).set ((i - 1) / 2) (L.getD i noW) = swW L i ((i - 1) / 2) := rfl
  rw [esw] at eB
  have hperm := (swW_perm hiL hpL).trans hs.perm
  have hlsw := (swW_len L i ((i - 1) / 2)).trans hlen
  have hpi : (i - 1) / 2 + (k + 1) ≤ H.length := by omega
  have hkN : k < H.length := by omega
  have hfr := hs.fr
  generalize hpe : (i - 1) / 2 = p at *
  replace hs := Hid.mk hs
  replace hpe := Hid.mk hpe
  replace hlen := Hid.mk hlen
  replace hperm := Hid.mk hperm
  replace hlsw := Hid.mk hlsw
  replace hfr := Hid.mk hfr
  replace hnx := Hid.mk hnx
  replace hstp := Hid.mk hstp
  replace hbad := Hid.mk hbad
  replace hpi := Hid.mk hpi
  replace hik := Hid.mk hik
  clear hi0 hk esw
  cases hbf : befW (L.getD i noW) (L.getD p noW)
  · rw [hbf] at BF
    have hfin := Hid.mk (fin.out (hbad.out hbf))
    clear hbf
    repeat' (with_reducible first | refine x_ops ?_ | refine wk ?_ | ((first | refine gd1 ?_ ?_ | refine gd2 ?_ ?_ | refine gd3 ?_ ?_) <;> (first | exact @False.elim _ | intro hc)))
    refine x_callv (f := 110) (cs := []) (Post := fun r m' => r = vbool false ∧ m' = M') vw call_before (by (simp only [go_sem, Nat.reduceAdd, Nat.reduceEqDiff, Nat.reduceLT, Nat.reduceLeDiff, Nat.reduceMul, Nat.reduceSub, Nat.reducePow, Nat.reduceDiv, Nat.reduceMod, Nat.reduceBEq, Int.reduceBEq, Int.reduceLT, reduceIte, V.norms, V.norm, tIs, tBs, tPs, *]); exact BF M') ⟨_, _, rfl, rfl⟩ ?_
    rintro r m' ⟨rfl, rfl⟩
    repeat' (with_reducible first | refine x_ops ?_ | refine wk ?_ | ((first | refine gd1 ?_ ?_ | refine gd2 ?_ ?_ | refine gd3 ?_ ?_) <;> (first | exact @False.elim _ | intro hc)))
    exact ⟨.inl rfl, .tup [], vv, rfl, hMM, hfin.out⟩
  rw [hbf] at BF
  have hnup := Hid.mk (hstp.out hbf)
  clear hbf
  repeat' (with_reducible first | refine x_ops ?_ | refine wk ?_ | ((first | refine gd1 ?_ ?_ | refine gd2 ?_ ?_ | refine gd3 ?_ ?_) <;> (first | exact @False.elim _ | intro hc)))
  refine x_callv (f := 110) (cs := []) (Post := fun r m' => r = vbool true ∧ m' = M') vw call_before (by (simp only [go_sem, Nat.reduceAdd, Nat.reduceEqDiff, Nat.reduceLT, Nat.reduceLeDiff, Nat.reduceMul, Nat.reduceSub, Nat.reducePow, Nat.reduceDiv, Nat.reduceMod, Nat.reduceBEq, Int.reduceBEq, Int.reduceLT, reduceIte, V.norms, V.norm, tIs, tBs, tPs, *]); exact BF M') ⟨_, _, rfl, rfl⟩ ?_
  rintro r m' ⟨rfl, rfl⟩
  repeat' (with_reducible first | refine x_ops ?_ | refine wk ?_ | ((first | refine gd1 ?_ ?_ | refine gd2 ?_ ?_ | refine gd3 ?_ ?_) <;> (first | exact @False.elim _ | intro hc)))
  have e5 : ∀ a b : AObj, ((m'.put (M.next + 8) a).put (M.next + 8) b).obj (M.next + 8) = some b := fun a b => put_same _ _ _
  refine nx hkN ⟨p, swW L i p, vv, hpi.out, ⟨hnx.out, hlsw.out, hnup.out, hperm.out, put_same _ _ _, ?_, fun q hq hqn hv => ?_⟩⟩
  · exact (put_other _ _ (fun e => y0 e.symm)).trans ((put_other _ _ (fun e => y0 e.symm)).trans hnb)
  · exact (put_other _ _ (by omega)).trans ((put_other _ _ (by omega)).trans (hfr.out q hq hqn hv))
/-- What push leaves. -/
def PshPost (M : Mm) (nb : Nat) (fv v dv : V) (H : List Way) (w : Way) (r : V) (M' : Mm) : Prop :=
  r = .tup [] ∧ M.next ≤ M'.next ∧ ∃ id H', M.next ≤ id ∧ M'.obj nb = some (.box [fv, .gsl id (H.length + 1) 3, .fn 110 [], dv] 159) ∧
      id < M'.next ∧ M'.obj id = some (.box (wyC H') 154) ∧ H'.length = H.length + 1 ∧ HpOk H' ∧ H'.Perm (H ++ [w]) ∧ ∀ q, q < M.next → q ≠ nb → (∀ n, v ≠ .gsl q n 3) → M'.obj q = M.obj q
theorem push_psh {M : Mm} {nb : Nat} {fv v dv : V} {H : List Way} {w : Way} (hb : M.obj nb = some (.box [fv, v, .fn 110 [], dv] 159)) (hn : nb < M.next) (hq : QV M v H) (hh : HpOk H) (hl : H.length ≤ 100000) :
    SFn Try.prog Gd 111 [.ptr nb 1, .agg [vint w.1, vint w.2.1, vint w.2.2]] M (PshPost M nb fv v dv H w) := push_sfn hb hn hq hh hl
theorem up_all : ∀ (i : Nat) (L : List Way), UpOk L i → ∃ L', HpOk L' ∧ L'.Perm L := by
  intro i
  induction i using Nat.strongRecOn with
  | ind i ih =>
    intro L h
    by_cases h0 : i = 0
    · exact ⟨L, up_end h (.inl h0), .refl _⟩
    · cases hb : befW (L.getD i noW) (L.getD ((i - 1) / 2) noW)
      · exact ⟨L, up_end h (.inr hb), .refl _⟩
      · obtain ⟨L', h1, h2⟩ := ih ((i - 1) / 2) (by omega) _ (up_step h (by omega) hb)
        have := h.lt
        exact ⟨L', h1, h2.trans (swW_perm h.lt (by omega))⟩
theorem PshPost.some {M : Mm} {nb : Nat} {fv v dv : V} {H : List Way} (w : Way) (hn : nb < M.next) (hh : HpOk H) : ∃ r M', PshPost M nb fv v dv H w r M' := by
  obtain ⟨L, h1, h2⟩ := up_all _ _ (up_new hh w)
  refine ⟨.tup [], ((⟨M.obj, M.next + 1⟩ : Mm).put M.next (.box (wyC L) 154)).put nb (.box [fv, .gsl M.next (H.length + 1) 3, .fn 110 [], dv] 159), rfl, Nat.le_succ _, M.next, L, Nat.le_refl _, put_same _ _ _, Nat.lt_succ_self _, (put_other _ _ (by omega)).trans (put_same _ _ _), by have := h2.length_eq; simpa using this, h1, h2, fun q hq hqn _ => (put_other _ _ hqn).trans (put_other _ _ (by omega))⟩
end Go.Proofs.Ytojjdkoglhecbaa
namespace Go.Proofs.Ytojjdkoglhecbaa
open Go.RowKit

/-- The first is gone, the last is in its place. -/
def hdW (H : List Way) : List Way := (H.set 0 (H.getD (H.length - 1) noW)).take (H.length - 1)
theorem hdW_len (H : List Way) : (hdW H).length = H.length - 1 := by rw [hdW, List.length_take, List.length_set]; omega
theorem hdW_at {H : List Way} {j : Nat} (hj : j < H.length - 1) : (hdW H).getD j noW = if j = 0 then H.getD (H.length - 1) noW else H.getD j noW := by
  have gen : ∀ (L : List Way) (k : Nat), j < k → (L.take k).getD j noW = L.getD j noW := fun L k h => by simp [List.getD_eq_getElem?_getD, List.getElem?_take, h]
  rw [hdW, gen _ _ hj, getD_setW]
  by_cases e : j = 0
  · subst e; rw [if_pos ⟨rfl, by omega⟩, if_pos rfl]
  · rw [if_neg (fun h => e h.1.symm), if_neg e]
theorem hdW_dn {H : List Way} (h : HpOk H) : DnOk (hdW H) 0 := by
  refine ⟨fun j j0 hj hjp => ?_, fun h0 => by omega⟩
  rw [hdW_len] at hj
  rw [hdW_at hj, hdW_at (show (j - 1) / 2 < H.length - 1 by omega), if_neg (by omega), if_neg hjp]
  exact h j j0 (by omega)
theorem hdW_perm {H : List Way} (h0 : 0 < H.length) : (H.getD 0 noW :: hdW H).Perm H := by
  obtain ⟨a, T, rfl⟩ : ∃ a T, H = a :: T := by
    cases H with
    | nil => simp at h0
    | cons a T => exact ⟨a, T, rfl⟩
  rcases List.eq_nil_or_concat T with rfl | ⟨T', b, rfl⟩
  · exact .refl _
  · have e1 : (a :: T'.concat b).getD ((a :: T'.concat b).length - 1) noW = b := by simp [List.getD_eq_getElem?_getD]
    have e2 : hdW (a :: T'.concat b) = b :: T' := by
      rw [hdW, e1]; simp
    rw [e2]
    show (a :: b :: T').Perm (a :: T'.concat b)
    rw [List.concat_eq_append]
    exact .cons a (List.perm_append_singleton b T').symm

/-- Where pop stands. -/
structure PpSt (M : Mm) (nb id : Nat) (fv dv : V) (H R : List Way) (i : Nat) (L : List Way) (M' : Mm) : Prop where
  nx : M'.next = M.next + 2
  len : L.length = H.length - 1
  dn : DnOk L i
  perm : L.Perm (hdW H)
  qo : M'.obj id = some (.box (wyC (L ++ R)) 154)
  xo : M'.obj M.next = some (.box [vint (H.getD 0 noW).1, vint (H.getD 0 noW).2.1, vint (H.getD 0 noW).2.2] 154)
  nbo : M'.obj nb = some (.box [fv, .gsl id (H.length - 1) 3, .fn 110 [], dv] 159)
  fr : ∀ q, q < M.next → q ≠ nb → q ≠ id → M'.obj q = M.obj q

set_option maxHeartbeats 4000000 in
theorem pop_none {M : Mm} {nb : Nat} {fv v dv : V} (hb : M.obj nb = some (.box [fv, v, .fn 110 [], dv] 159)) (hn : nb < M.next) (hq : QV M v []) :
    SFn Try.prog Gd 135 [.ptr nb 1] M fun r M' => r = .tup [.agg [vint 0, vint 0, vint 0], vbool false] ∧ M.next ≤ M'.next ∧ ∀ q, q < M.next → M'.obj q = M.obj q := by
  refine SFn.of_vxS k_hand_queue_hand_way_pop (by simp) ?_
  have x0 : ¬ nb = M.next := by omega
  have x1 : nb < M.next + 2 := by omega
  have hl : pureSem .len [v] = some (vint 0) := by
    rcases hq with ⟨rfl, _⟩ | ⟨id, R, rfl, _⟩ <;> rfl
  simp only [pureSem, vint] at hl
  unfold c_hand_queue_hand_way_pop
  clear hq
  repeat' (with_reducible first | refine x_ops ?_ | refine wk ?_ | ((first | refine gd1 ?_ ?_ | refine gd2 ?_ ?_ | refine gd3 ?_ ?_) <;> (first | exact @False.elim _ | intro hc)))
  exact ⟨.inr rfl, _, vv, rfl, by show M.next ≤ M.next + 2; omega, fun q hq => by ((simp only [put_obj]; repeat rw [if_neg (by omega)]))⟩

set_option maxHeartbeats 4000000 in
theorem pop_sfn {M : Mm} {nb id : Nat} {fv dv : V} {H R : List Way} (hb : M.obj nb = some (.box [fv, .gsl id H.length 3, .fn 110 [], dv] 159)) (hn : nb < M.next) (hid : id < M.next)
    (ho : M.obj id = some (.box (wyC (H ++ R)) 154)) (h0 : 0 < H.length) (hh : HpOk H) (hl : H.length ≤ 100000) :
    SFn Try.prog Gd 135 [.ptr nb 1] M fun r M' => r = .tup [.agg [vint (H.getD 0 noW).1, vint (H.getD 0 noW).2.1, vint (H.getD 0 noW).2.2], vbool true] ∧ M.next ≤ M'.next ∧ ∃ H' R', M'.obj nb = some (.box [fv, .gsl id (H.length - 1) 3, .fn 110 [], dv] 159) ∧
      M'.obj id = some (.box (wyC (H' ++ R')) 154) ∧ H'.length = H.length - 1 ∧ HpOk H' ∧ (H.getD 0 noW :: H').Perm H ∧ ∀ q, q < M.next → q ≠ nb → q ≠ id → M'.obj q = M.obj q := by
  refine SFn.of_vxS k_hand_queue_hand_way_pop (by simp) ?_
  have hne : nb ≠ id := fun e => by subst e; rw [ho] at hb; injection hb with hb; injection hb with _ hb; cases hb
  have x0 : ¬ nb = M.next := by omega
  have x1 : nb < M.next + 2 := by omega
  have x2 : ¬ id = M.next := by omega
  have x3 : id < M.next + 2 := by omega
  have x4 : ¬ id = nb := fun e => hne e.symm
  have x5 : ¬ M.next = id := by omega
  have x6 : ¬ nb = id := hne
  have x7 : ¬ M.next = nb := by omega
  have e1 : ((H.length : Int) == 0) = false := by rw [beq_eq_false_iff_ne]; omega
  have c1 : (0 : Int) < (H.length : Int) := by omega
  have c2 : ((H.length - 1 : Nat) : Int) < (H.length : Int) := by omega
  have w1 : IntKind.i64.wrap ((H.length : Int) - 1) = ((H.length - 1 : Nat) : Int) := by rw [w_in (by omega)]; omega
  have lo : ∀ j, j < H.length → (H ++ R).getD j noW = H.getD j noW := fun j hj => by
    rw [List.getD_eq_getElem?_getD, List.getElem?_append_left hj, List.getD_eq_getElem?_getD]
  have g0 := wyC_at (L := H ++ R) (i := 0) (by rw [List.length_append]; omega)
  rw [lo 0 h0, Nat.zero_mul, List.drop_zero] at g0
  have g1 := wyC_at (L := H ++ R) (i := H.length - 1) (by rw [List.length_append]; omega)
  rw [lo _ (by omega)] at g1
  have g2 := wyC_len (H ++ R)
  have c3 : 3 ≤ (H ++ R).length * 3 := by rw [List.length_append]; omega
  have c4 : (H.length - 1) * 3 + 3 ≤ (H ++ R).length * 3 := by rw [List.length_append]; omega
  have hsl : vslc 3 false true (.gsl id H.length 3) [.lit (.int .i64 ((H.length - 1 : Nat) : Int))] = some (.gsl id (H.length - 1) 3) := by
    simp only [vslc, bnds, Bool.false_eq_true, if_false, if_true]
    rw [if_pos ⟨Int.le_refl _, Int.natCast_nonneg _, by omega⟩]
    rfl
  unfold c_hand_queue_hand_way_pop
  replace hl := Hid.mk hl
  replace h0 := Hid.mk h0
  have hb0 := Hid.mk hb
  have ho0 := Hid.mk ho
  clear lo hne
  repeat' (with_reducible first | refine x_ops ?_ | refine wk ?_ | ((first | refine gd1 ?_ ?_ | refine gd2 ?_ ?_ | refine gd3 ?_ ?_) <;> (first | exact @False.elim _ | intro hc)))
  have hW : wyC (hdW H ++ ((H.set 0 (H.getD (H.length - 1) noW)).drop (H.length - 1) ++ R)) = wyE (H.getD (H.length - 1) noW) ++ (wyC (H ++ R)).drop 3 := by
    rw [← List.append_assoc, hdW, List.take_append_drop, ← List.set_append_left _ _ h0.out, wyC_set (by rw [List.length_append]; have := h0.out; omega)]
    simp
  have hhd := hdW_dn hh
  generalize (H.set 0 (H.getD (H.length - 1) noW)).drop (H.length - 1) ++ R = R1 at hW
  refine x_genM (fun t M' => (t 0 = .ptr nb 1 ∧ t 2 = .ptr M.next 0 ∧ t 4 = vint ((H.length - 1 : Nat) : Int) ∧ t 5 = vint 0) ∧ PpSt M nb id fv dv H R1 0 (hdW H) M') ⟨⟨vv, vv, vv, vv⟩, ⟨rfl, hdW_len H, hhd, .refl _, ?_, ?_, ?_, fun q hq hqn hqi => ?_⟩⟩ ?_
  · refine (put_other _ _ x4).trans ((put_same _ _ _).trans ?_)
    rw [hW]; unfold wyE; simp [vint]
  · simp only [put_obj]; repeat rw [if_neg (by omega)]
    rw [if_pos True.intro]; rfl
  · exact put_same _ _ _
  · simp only [put_obj]; repeat rw [if_neg (by omega)]
  clear g0 g1 g2 hW hhd hb ho c1 c2 c3 c4 w1 hsl e1 hh
  rintro t1 M1 ⟨⟨a0, a2, a4, a5⟩, hs0⟩
  have h0' := h0.out
  have hl' := hl.out
  refine x_loopW w_hand_queue_hand_way_pop_p12 kr (H.length - 1) (fun k t M' => ∃ (i : Nat) (L : List Way), t 5 = vint (i : Int) ∧ (k ≤ i ∧ (i < H.length - 1 ∨ i = 0)) ∧ PpSt M nb id fv dv H R1 i L M') ?_ ?_
  · exact ⟨0, hdW H, a5, ⟨Nat.le_refl _, .inr rfl⟩, hs0⟩
  clear a5 hs0
  rintro k t M' hk ⟨i, L, h5, ⟨hki, hiL⟩, hs⟩
  have hnx := hs.nx
  have hqo := hs.qo
  have hnb := hs.nbo
  have hxo := hs.xo
  have hlen := hs.len
  have q0 : nb < M'.next := by omega
  have q1 : id < M'.next := by omega
  have q2 : M.next < M'.next := by omega
  have hMM : M.next ≤ M'.next := by omega
  have w1 : IntKind.i64.wrap (2 * (i : Int)) = ((2 * i : Nat) : Int) := by rw [w_in (by omega)]; omega
  have w2 : IntKind.i64.wrap (((2 * i : Nat) : Int) + 1) = ((2 * i + 1 : Nat) : Int) := by rw [w_in (by omega)]; omega
  have w3 : IntKind.i64.wrap (((2 * i : Nat) : Int) + 2) = ((2 * i + 2 : Nat) : Int) := by rw [w_in (by omega)]; omega
  have lo : ∀ j, j < L.length → (L ++ R1).getD j noW = L.getD j noW := fun j hj => by
    rw [List.getD_eq_getElem?_getD, List.getElem?_append_left hj, List.getD_eq_getElem?_getD]
  have gA : ∀ j, j < L.length → ((wyC (L ++ R1)).drop (j * 3)).take 3 = [vint (L.getD j noW).1, vint (L.getD j noW).2.1, vint (L.getD j noW).2.2] := fun j hj => by
    rw [wyC_at (by rw [List.length_append]; omega), lo j hj]
  have gB : (wyC (L ++ R1)).length = (L ++ R1).length * 3 := wyC_len _
  have gC : ∀ j, j < L.length → j * 3 + 3 ≤ (L ++ R1).length * 3 := fun j hj => by rw [List.length_append]; omega
  replace hs := Hid.mk hs
  replace hlen := Hid.mk hlen
  replace hnx := Hid.mk hnx
  replace gA := Hid.mk gA
  replace gC := Hid.mk gC
  replace lo := Hid.mk lo
  replace hk := Hid.mk hk
  repeat' (with_reducible first | refine x_ops ?_ | refine wk ?_ | ((first | refine gd1 ?_ ?_ | refine gd2 ?_ ?_ | refine gd3 ?_ ?_) <;> (first | exact @False.elim _ | intro hc)))
  refine x_loopF w_hand_queue_hand_way_pop_p5 kr 2 (fun j t => ∃ e c : Nat, c = 2 * i + 1 + j ∧ t 7 = vint (c : Int) ∧ t 6 = vint (e : Int) ∧ (e = i ∨ ((e = 2 * i + 1 ∨ e = 2 * i + 2) ∧ e < L.length)) ∧ ∀ d, (d = i ∨ (2 * i + 1 ≤ d ∧ d < c)) → d < L.length → befW (L.getD d noW) (L.getD e noW) = false) ?_ ?_
  · exact ⟨i, 2 * i + 1, rfl, vv, vv, .inl rfl, fun d hd _ => by
      rcases hd with hd | hd
      · subst hd; exact befW_irr _
      · omega⟩
  rintro j t2 hj ⟨e, c, hc, h7, h6, he, hmin⟩
  replace hmin := Hid.mk hmin
  replace hc := Hid.mk hc
  by_cases hj2 : j < 2 ∧ c < L.length
  · obtain ⟨hj2, hcL⟩ := hj2
    have hce := hc.out
    have cc1 : (c : Int) ≤ ((2 * i + 2 : Nat) : Int) := by omega
    have cc2 : (c : Int) < ((H.length - 1 : Nat) : Int) := by have := hlen.out; omega
    have heL : e < L.length := by rcases he with he | he; omega; exact he.2
    have cc3 : (e : Int) < ((H.length - 1 : Nat) : Int) := by have := hlen.out; omega
    have g1 := gA.out _ hcL
    have g2 := gA.out _ heL
    have g3 := gC.out _ hcL
    have g4 := gC.out _ heL
    have w4 := w_add1 (k := c) (by have := hlen.out; omega)
    have BF := wbefore_fn (L.getD c noW) (L.getD e noW)
    unfold wyE at BF
    have hc1 : c + 1 = 2 * i + 1 + (j + 1) := by omega
    replace hc1 := Hid.mk hc1
    cases hbf : befW (L.getD c noW) (L.getD e noW)
    · rw [hbf] at BF
      have hmin' : ∀ d, (d = i ∨ (2 * i + 1 ≤ d ∧ d < c + 1)) → d < L.length → befW (L.getD d noW) (L.getD e noW) = false := fun d hd hdL => by
        by_cases e9 : d = c
        · subst e9; exact hbf
        · exact hmin.out d (by omega) hdL
      replace hmin' := Hid.mk hmin'
      clear hbf hce
      repeat' (with_reducible first | refine x_ops ?_ | refine wk ?_ | ((first | refine gd1 ?_ ?_ | refine gd2 ?_ ?_ | refine gd3 ?_ ?_) <;> (first | exact @False.elim _ | intro hc)))
      refine x_callv (f := 110) (cs := []) (Post := fun r m' => r = vbool false ∧ m' = M') vw call_before (by (simp only [go_sem, Nat.reduceAdd, Nat.reduceEqDiff, Nat.reduceLT, Nat.reduceLeDiff, Nat.reduceMul, Nat.reduceSub, Nat.reducePow, Nat.reduceDiv, Nat.reduceMod, Nat.reduceBEq, Int.reduceBEq, Int.reduceLT, reduceIte, V.norms, V.norm, tIs, tBs, tPs, *]); exact BF M') ⟨_, _, rfl, rfl⟩ ?_
      rintro r m' ⟨rfl, rfl⟩
      repeat' (with_reducible first | refine x_ops ?_ | refine wk ?_ | ((first | refine gd1 ?_ ?_ | refine gd2 ?_ ?_ | refine gd3 ?_ ?_) <;> (first | exact @False.elim _ | intro hc)))
      exact nf hj2 ⟨e, c + 1, by have := hc1.out; omega, vv, vw, he, hmin'.out⟩ rfl
    · rw [hbf] at BF
      have hmin' : ∀ d, (d = i ∨ (2 * i + 1 ≤ d ∧ d < c + 1)) → d < L.length → befW (L.getD d noW) (L.getD c noW) = false := fun d hd hdL => by
        by_cases e9 : d = c
        · subst e9; exact befW_irr _
        · exact befW_tr (hmin.out d (by omega) hdL) (befW_as hbf)
      replace hmin' := Hid.mk hmin'
      have hcc : (c = i ∨ ((c = 2 * i + 1 ∨ c = 2 * i + 2) ∧ c < L.length)) := .inr ⟨by omega, hcL⟩
      clear hbf hce
      repeat' (with_reducible first | refine x_ops ?_ | refine wk ?_ | ((first | refine gd1 ?_ ?_ | refine gd2 ?_ ?_ | refine gd3 ?_ ?_) <;> (first | exact @False.elim _ | intro hc)))
      refine x_callv (f := 110) (cs := []) (Post := fun r m' => r = vbool true ∧ m' = M') vw call_before (by (simp only [go_sem, Nat.reduceAdd, Nat.reduceEqDiff, Nat.reduceLT, Nat.reduceLeDiff, Nat.reduceMul, Nat.reduceSub, Nat.reducePow, Nat.reduceDiv, Nat.reduceMod, Nat.reduceBEq, Int.reduceBEq, Int.reduceLT, reduceIte, V.norms, V.norm, tIs, tBs, tPs, *]); exact BF M') ⟨_, _, rfl, rfl⟩ ?_
      rintro r m' ⟨rfl, rfl⟩
      repeat' (with_reducible first | refine x_ops ?_ | refine wk ?_ | ((first | refine gd1 ?_ ?_ | refine gd2 ?_ ?_ | refine gd3 ?_ ?_) <;> (first | exact @False.elim _ | intro hc)))
      exact nf hj2 ⟨c, c + 1, by have := hc1.out; omega, vv, vv, hcc, hmin'.out⟩ rfl
  -- all children are seen
  have hall : ∀ d, (d = i ∨ d = 2 * i + 1 ∨ d = 2 * i + 2) → d < L.length → befW (L.getD d noW) (L.getD e noW) = false := fun d hd hdL => hmin.out d (by have := hc.out; omega) hdL
  have hout : (c : Int) ≤ ((2 * i + 2 : Nat) : Int) → ¬ (c : Int) < ((H.length - 1 : Nat) : Int) := fun h1 h2 => hj2 ⟨by have := hc.out; omega, by have := hlen.out; omega⟩
  have fin : HpOk L → ∀ M2 : Mm, (∀ q, q ≠ M.next → M2.obj q = M'.obj q) → ∃ H' R', M2.obj nb = some (.box [fv, .gsl id (H.length - 1) 3, .fn 110 [], dv] 159) ∧
      M2.obj id = some (.box (wyC (H' ++ R')) 154) ∧ H'.length = H.length - 1 ∧ HpOk H' ∧ (H.getD 0 noW :: H').Perm H ∧ ∀ q, q < M.next → q ≠ nb → q ≠ id → M2.obj q = M.obj q :=
    fun hp M2 h2 => ⟨L, R1, (h2 nb x0).trans hnb, (h2 id x2).trans hqo, hs.out.len, hp, (List.Perm.cons _ hs.out.perm).trans (hdW_perm h0.out), fun q hq h3 h4 => (h2 q (by omega)).trans (hs.out.fr q hq h3 h4)⟩
  replace fin := Hid.mk fin
  by_cases hei : e = i
  · have e1 : ((e : Int) == (i : Int)) = true := by rw [beq_iff_eq]; omega
    have hfin := Hid.mk (fin.out (dn_end hs.out.dn (fun c hc hcl => by rw [← hei]; exact hall c (.inr hc) hcl)))
    clear hmin hall hei he
    by_cases hcc : (c : Int) ≤ ((2 * i + 2 : Nat) : Int)
    · have hc2 := hout hcc
      clear hout
      repeat' (with_reducible first | refine x_ops ?_ | refine wk ?_ | ((first | refine gd1 ?_ ?_ | refine gd2 ?_ ?_ | refine gd3 ?_ ?_) <;> (first | exact @False.elim _ | intro hc)))
      exact ⟨.inr rfl, _, vw, rfl, hMM, hfin.out _ (fun q hq => put_other _ _ hq)⟩
    · clear hout
      repeat' (with_reducible first | refine x_ops ?_ | refine wk ?_ | ((first | refine gd1 ?_ ?_ | refine gd2 ?_ ?_ | refine gd3 ?_ ?_) <;> (first | exact @False.elim _ | intro hc)))
      exact ⟨.inr rfl, _, vw, rfl, hMM, hfin.out _ (fun q hq => put_other _ _ hq)⟩
  have heL : e < L.length ∧ (e = 2 * i + 1 ∨ e = 2 * i + 2) := by rcases he with he | he; exact absurd he hei; exact ⟨he.2, he.1⟩
  have hiL2 : i < L.length := by omega
  have e1 : ((e : Int) == (i : Int)) = false := by rw [beq_eq_false_iff_ne]; omega
  have hbi := hall i (.inl rfl) hiL2
  have hdn := dn_step hs.out.dn hiL2 heL.2 heL.1 hbi (fun d hd hdl => hall d (.inr hd) hdl)
  have cc3 : (e : Int) < ((H.length - 1 : Nat) : Int) := by have := hlen.out; omega
  have cc4 : (i : Int) < ((H.length - 1 : Nat) : Int) := by have := hlen.out; omega
  have g1 := gA.out _ hiL2
  have g2 := gA.out _ heL.1
  have g3 := gC.out _ hiL2
  have g4 := gC.out _ heL.1
  have iA : i < (L ++ R1).length := by rw [List.length_append]; omega
  have eiA : e < (L ++ R1).length := by rw [List.length_append]; omega
  have eA := (wyC_set iA (L.getD e noW)).symm
  have eB := (wyC_set (L := (L ++ R1).set i (L.getD e noW)) (i := e) (by rw [List.length_set]; exact eiA) (L.getD i noW)).symm
  have lA := wyC_len ((L ++ R1).set i (L.getD e noW))
  rw [List.length_set] at lA
  unfold wyE vint at eA eB
  have esw : ((L ++ R1).set i (L.getD e noW)).set e (L.getD i noW) = swW L i e ++ R1 := by
    rw [List.set_append_left _ _ hiL2, List.set_append_left _ _ (by rw [List.length_set]; exact heL.1)]; rfl
  rw [esw] at eB
  have hperm := (swW_perm hiL2 heL.1).trans hs.out.perm
  have hlsw := (swW_len L i e).trans hlen.out
  have hki' : k + 1 ≤ e ∧ (e < H.length - 1 ∨ e = 0) := by have := hlen.out; omega
  have hkN : k < H.length - 1 := by have := hlen.out; omega
  have hfr := hs.out.fr
  have hnx' := hnx.out
  replace hfr := Hid.mk hfr
  replace hdn := Hid.mk hdn
  replace hperm := Hid.mk hperm
  replace hlsw := Hid.mk hlsw
  replace hki' := Hid.mk hki'
  replace hnx' := Hid.mk hnx'
  clear hmin hall hbi hei he fin
  have fin : ∀ (a b : AObj), b = .box (wyC (swW L i e ++ R1)) 154 → PpSt M nb id fv dv H R1 e (swW L i e) ((M'.put id a).put id b) := fun a b hb => by
    subst hb
    exact ⟨hnx'.out, hlsw.out, hdn.out, hperm.out, put_same _ _ _, (put_other _ _ x5).trans ((put_other _ _ x5).trans hxo), (put_other _ _ x6).trans ((put_other _ _ x6).trans hnb), fun q hq hqn hqi => (put_other _ _ hqi).trans ((put_other _ _ hqi).trans (hfr.out q hq hqn hqi))⟩
  replace fin := Hid.mk fin
  by_cases hcc : (c : Int) ≤ ((2 * i + 2 : Nat) : Int)
  · have hc2 := hout hcc
    clear hout
    repeat' (with_reducible first | refine x_ops ?_ | refine wk ?_ | ((first | refine gd1 ?_ ?_ | refine gd2 ?_ ?_ | refine gd3 ?_ ?_) <;> (first | exact @False.elim _ | intro hc)))
    exact nx hkN ⟨e, swW L i e, vv, hki'.out, fin.out _ _ rfl⟩
  · clear hout
    repeat' (with_reducible first | refine x_ops ?_ | refine wk ?_ | ((first | refine gd1 ?_ ?_ | refine gd2 ?_ ?_ | refine gd3 ?_ ?_) <;> (first | exact @False.elim _ | intro hc)))
    exact nx hkN ⟨e, swW L i e, vv, hki'.out, fin.out _ _ rfl⟩
end Go.Proofs.Ytojjdkoglhecbaa
namespace Go.Proofs.Ytojjdkoglhecbaa
open Go.RowKit

set_option maxHeartbeats 2000000 in
/-- The ways from a grip, over a net that stands. -/
theorem ways_sfnE {h : Hand} {l : List Chord} {Gs : List (List Grip)} (hn : NetOk h l Gs) {i k : Nat} (hi : i < l.length) (hk : k < (Gs.getD i []).length) (f : FuncId) (cs : List V) (hc : callable Try.prog f = true)
    (J : Nat → Mm → Prop) (m : Mm) (h0 : J 0 m) (hJ : ∀ j, j ≤ (rsT h l Gs (i + 1)).length → ∃ M, J j M)
    (hF : ∀ j M, J j M → i + 1 < l.length → j < (rsT h l Gs (i + 1)).length → ¬ (rsT h l Gs (i + 1)).getD j 0 = -1 → (stepR h (l.getD i noC) ((Gs.getD i []).getD k noG) (l.getD (i + 1) noC) ((Gs.getD (i + 1) []).getD j noG)).2 = true →
      SFn Try.prog Gd f (vint j :: vint (stepR h (l.getD i noC) ((Gs.getD i []).getD k noG) (l.getD (i + 1) noC) ((Gs.getD (i + 1) []).getD j noG)).1 :: cs) M fun r M' => r = .tup [] ∧ J (j + 1) M')
    (hS : ∀ j M, J j M → i + 1 < l.length → j < (rsT h l Gs (i + 1)).length → ((rsT h l Gs (i + 1)).getD j 0 = -1 ∨ (stepR h (l.getD i noC) ((Gs.getD i []).getD k noG) (l.getD (i + 1) noC) ((Gs.getD (i + 1) []).getD j noG)).2 = false) → J (j + 1) M) :
    SFn Try.prog Gd 88 [netE h l Gs, vint i, vint k, .fn f cs] m fun r M => r = .tup [] ∧ J (if i + 1 = l.length then 0 else (rsT h l Gs (i + 1)).length) M := by
  refine SFn.of_vxS k_hand_net_ways (by simp) ?_
  have h4 := hn.len
  have w1 : IntKind.i64.wrap ((l.length : Int) - 1) = (l.length : Int) - 1 := w_in (by omega)
  unfold c_hand_net_ways netE netC tCs tIss
  by_cases hlast : i + 1 = l.length
  · rw [if_pos hlast]
    have e1 : ((i : Int) == (l.length : Int) - 1) = true := by rw [beq_iff_eq]; omega
    replace h0 := Hid.mk h0
    clear hF hS hJ
    repeat' (with_reducible first | refine x_ops ?_ | refine wk ?_ | ((first | refine gd1 ?_ ?_ | refine gd2 ?_ ?_ | refine gd3 ?_ ?_) <;> (first | exact @False.elim _ | intro hc)))
    exact finS_ret vv ⟨rfl, h0.out⟩
  rw [if_neg hlast]
  have hi1 : i + 1 < l.length := by omega
  have hNl := rsT_len (h := h) (Gs := Gs) hi1
  have e1 : ((i : Int) == (l.length : Int) - 1) = false := by rw [beq_eq_false_iff_ne]; omega
  have w2 := w_add1 (k := i) (by omega)
  have g0 := rsA_len (h := h) (l := l) (Gs := Gs)
  have c1 : ((i + 1 : Nat) : Int) < (l.length : Int) := by omega
  have gR := iss_at' (l := rsA h l Gs) (k := i + 1) (by rw [g0]; exact hi1)
  rw [rsA_at hi1] at gR
  have hcnt := hn.cnt (i + 1)
  have NS := fun m hm => netstep_fn hn (ov := tIss (owA h l Gs)) (rv := tIss (rsA h l Gs)) (by rw [V.pures, pure_tIss, V.pures, pure_tIss]; rfl) (i := i) (k := k) (m := m) hi1 hk hm
  unfold netC tIss tCs at NS
  simp only [rsA_len] at NS
  generalize hNe : rsT h l Gs (i + 1) = N at *
  replace hNe := Hid.mk hNe
  replace hlast := Hid.mk hlast
  replace hNl := Hid.mk hNl
  have h00 := Hid.mk h0
  clear h0
  repeat' (with_reducible first | refine x_ops ?_ | refine wk ?_ | ((first | refine gd1 ?_ ?_ | refine gd2 ?_ ?_ | refine gd3 ?_ ?_) <;> (first | exact @False.elim _ | intro hc)))
  refine x_gen (fun t => t 0 = .ept [tIs h.low, tIs h.high, tBs h.barre, vint h.top, vint h.jump, vint h.shift, vint h.lift, vint h.bar, vint h.stretch, vint h.slide, .sl l.length (l.flatMap Chord.cells) .no, tGss Gs, .sl (owA h l Gs).length ((owA h l Gs).map tIs) .no, .sl l.length ((rsA h l Gs).map tIs) .no] 0 ∧
    t 1 = vint i ∧ t 2 = vint k ∧ t 3 = .fn f cs ∧ t 27 = .sl N.length (N.map vint) .no ∧ t 28 = vint N.length ∧ t 29 = vint 0) ⟨by ((refine ve ?_; try exact True.intro)); simp [tIs, tBs], vv, vv, vv, vv, vv, vv⟩ ?_
  rintro t0 ⟨a0, a1, a2, a3, a27, a28, a29⟩
  refine x_loopW w_hand_net_ways_p7 kr N.length (fun j t M => t 29 = vint (j : Int) ∧ J j M) ?_ ?_
  · exact ⟨a29, h00.out⟩
  clear h00 gR c1 w2 e1 w1
  rintro j t M hj ⟨h29, hJM⟩
  by_cases hjl : j < N.length
  case neg =>
    have hje : j = N.length := by omega
    subst hje
    have c2 : ¬ (N.length : Int) < (N.length : Int) := by omega
    replace hJM := Hid.mk hJM
    clear hF hS hJ NS hjl
    repeat' (with_reducible first | refine x_ops ?_ | refine wk ?_ | ((first | refine gd1 ?_ ?_ | refine gd2 ?_ ?_ | refine gd3 ?_ ?_) <;> (first | exact @False.elim _ | intro hc)))
    exact ⟨.inl rfl, .tup [], vv, rfl, hJM.out⟩
  have c2 : (j : Int) < (N.length : Int) := by omega
  have g1 := ints_at hjl
  have w3 := w_add1 (k := j) (by have := hNl.out; omega)
  have NSj := NS j (by have := hNl.out; omega)
  have hSj := Hid.mk (hS j M hJM hi1 hjl)
  have hFj := Hid.mk (hF j M hJM hi1 hjl)
  obtain ⟨M9, hM9⟩ := hJ (j + 1) (by omega)
  replace hM9 := Hid.mk hM9
  replace hjl := Hid.mk hjl
  clear hF hS hJ NS hJM hj
  by_cases hno : N.getD j 0 = -1
  · have e2 : (N.getD j 0 == -1) = true := by rw [hno]; rfl
    have hnx := Hid.mk (hSj.out (.inl hno))
    clear hno NSj
    repeat' (with_reducible first | refine x_ops ?_ | refine wk ?_ | ((first | refine gd1 ?_ ?_ | refine gd2 ?_ ?_ | refine gd3 ?_ ?_) <;> (first | exact @False.elim _ | intro hc)))
    exact nx hjl.out ⟨vv, hnx.out⟩
  have e2 : (N.getD j 0 == -1) = false := by rw [beq_eq_false_iff_ne]; exact hno
  replace hno := Hid.mk hno
  generalize hst : stepR h (l.getD i noC) ((Gs.getD i []).getD k noG) (l.getD (i + 1) noC) ((Gs.getD (i + 1) []).getD j noG) = st at *
  obtain ⟨sn, sb⟩ := st
  dsimp only at *
  cases sb
  · have hnx := Hid.mk (hSj.out (.inr rfl))
    clear hst
    repeat' (with_reducible first | refine x_ops ?_ | refine wk ?_ | (with_reducible refine xc (NSj) ?_) | ((first | refine gd1 ?_ ?_ | refine gd2 ?_ ?_ | refine gd3 ?_ ?_) <;> (first | exact @False.elim _ | intro hc)))
    exact nx hjl.out ⟨vv, hnx.out⟩
  have hFj' := hFj.out hno.out rfl
  replace hst := Hid.mk hst
  repeat' (with_reducible first | refine x_ops ?_ | refine wk ?_ | (with_reducible refine xc (NSj) ?_) | ((first | refine gd1 ?_ ?_ | refine gd2 ?_ ?_ | refine gd3 ?_ ?_) <;> (first | exact @False.elim _ | intro hc)))
  refine x_callv (f := f) (cs := cs) (Post := fun r M' => r = .tup [] ∧ J (j + 1) M') vw hc ?_ ⟨_, M9, rfl, hM9.out⟩ ?_
  · (simp only [go_sem, Nat.reduceAdd, Nat.reduceEqDiff, Nat.reduceLT, Nat.reduceLeDiff, Nat.reduceMul, Nat.reduceSub, Nat.reducePow, Nat.reduceDiv, Nat.reduceMod, Nat.reduceBEq, Int.reduceBEq, Int.reduceLT, reduceIte, V.norms, V.norm, tIs, tBs, tPs, *]); exact hFj'
  rintro r M' ⟨rfl, hJ'⟩
  replace hJ' := Hid.mk hJ'
  repeat' (with_reducible first | refine x_ops ?_ | refine wk ?_ | ((first | refine gd1 ?_ ?_ | refine gd2 ?_ ?_ | refine gd3 ?_ ?_) <;> (first | exact @False.elim _ | intro hc)))
  exact nx hjl.out ⟨vv, hJ'.out⟩
end Go.Proofs.Ytojjdkoglhecbaa
namespace Go.Proofs.Ytojjdkoglhecbaa
open Go.RowKit

/-- The first ways from a grip. -/
noncomputable def wayL (h : Hand) (l : List Chord) (Gs : List (List Grip)) (i k : Nat) : Nat → List Way
  | 0 => []
  | j + 1 => if (rsT h l Gs (i + 1)).getD j 0 = -1 ∨ (stepR h (l.getD i noC) ((Gs.getD i []).getD k noG) (l.getD (i + 1) noC) ((Gs.getD (i + 1) []).getD j noG)).2 = false then wayL h l Gs i k j
    else wayL h l Gs i k j ++ [(ownC h (l.getD i noC) ((Gs.getD i []).getD k noG) + (stepR h (l.getD i noC) ((Gs.getD i []).getD k noG) (l.getD (i + 1) noC) ((Gs.getD (i + 1) []).getD j noG)).1 + (rsT h l Gs (i + 1)).getD j 0, (j : Int), 0)]
/-- What stands there ahead of them. -/
noncomputable def wayB (h : Hand) (l : List Chord) (Gs : List (List Grip)) (i k : Nat) : List Way := if i + 1 = l.length then [(ownC h (l.getD i noC) ((Gs.getD i []).getD k noG), -1, 0)] else []
/-- All of them. -/
noncomputable def wayF (h : Hand) (l : List Chord) (Gs : List (List Grip)) (i k : Nat) : List Way := wayB h l Gs i k ++ wayL h l Gs i k (if i + 1 = l.length then 0 else (rsT h l Gs (i + 1)).length)
theorem wayL_len (h : Hand) (l : List Chord) (Gs : List (List Grip)) (i k : Nat) : ∀ j, (wayL h l Gs i k j).length ≤ j
  | 0 => Nat.le_refl _
  | j + 1 => by
    have := wayL_len h l Gs i k j
    rw [wayL]; split
    · omega
    · rw [List.length_append]; simp; omega
theorem wayB_len (h : Hand) (l : List Chord) (Gs : List (List Grip)) (i k : Nat) : (wayB h l Gs i k).length ≤ 1 := by rw [wayB]; split <;> simp

theorem stepB {h : Hand} {l : List Chord} {Gs : List (List Grip)} (hn : NetOk h l Gs) {i k m : Nat} (hi : i + 1 < l.length) (hk : k < (Gs.getD i []).length) (hm : m < (Gs.getD (i + 1) []).length) :
    0 ≤ (stepR h (l.getD i noC) ((Gs.getD i []).getD k noG) (l.getD (i + 1) noC) ((Gs.getD (i + 1) []).getD m noG)).1 ∧ (stepR h (l.getD i noC) ((Gs.getD i []).getD k noG) (l.getD (i + 1) noC) ((Gs.getD (i + 1) []).getD m noG)).1 ≤ 105000 := by
  by_cases hs : StepOk h (l.getD i noC) ((Gs.getD i []).getD k noG) (l.getD (i + 1) noC) ((Gs.getD (i + 1) []).getD m noG)
  · rw [stepR_ok hs]; exact stepC_bound hn.hk (hn.grip (by omega) hk).1 (hn.grip hi hm).1
  · rw [stepR_no hs]; omega
set_option maxHeartbeats 2000000 in
/-- What a node does at a way: it is pushed. -/
theorem node1_sfn {h : Hand} {l : List Chord} {Gs : List (List Grip)} (hn : NetOk h l Gs) {i k j : Nat} (hi : i + 1 < l.length) (hk : k < (Gs.getD i []).length) (hj : j < (rsT h l Gs (i + 1)).length) (hN : ¬ (rsT h l Gs (i + 1)).getD j 0 = -1)
    {M : Mm} {nb tb xb tp ib kb : Nat} {fv v dv nv rv : V} {H : List Way} {s : Int} (hs : 0 ≤ s ∧ s ≤ 105000)
    (o1 : M.obj xb = some (.box [.ptr nb 0] 150)) (o2 : M.obj tp = some (.box [.ptr tb 0] 110)) (o3 : M.obj ib = some (.box [vint i] 3)) (o4 : M.obj kb = some (.box [vint k] 3))
    (o5 : M.obj tb = some (.box [netE h l Gs, nv, rv] 162)) (n1 : xb < M.next) (n2 : tp < M.next) (n3 : ib < M.next) (n4 : kb < M.next) (n5 : tb < M.next)
    (hb : M.obj nb = some (.box [fv, v, .fn 110 [], dv] 159)) (hnb : nb < M.next) (hq : QV M v H) (hh : HpOk H) (hl : H.length ≤ 100000) :
    SFn Try.prog Gd 138 [vint j, vint s, .ptr xb 0, .ptr tp 0, .ptr ib 0, .ptr kb 0] M (PshPost M nb fv v dv H (ownC h (l.getD i noC) ((Gs.getD i []).getD k noG) + s + (rsT h l Gs (i + 1)).getD j 0, (j : Int), 0)) := by
  refine SFn.of_vxS k_hand_lister_node_1 (by simp) ?_
  have h4 := hn.len
  have hi0 : i < l.length := by omega
  have PE := PshPost.some (fv := fv) (v := v) (dv := dv) (ownC h (l.getD i noC) ((Gs.getD i []).getD k noG) + s + (rsT h l Gs (i + 1)).getD j 0, (j : Int), 0) hnb hh
  have PS := push_psh (w := (ownC h (l.getD i noC) ((Gs.getD i []).getD k noG) + s + (rsT h l Gs (i + 1)).getD j 0, (j : Int), 0)) hb hnb hq hh hl
  have hown := own_bound hn.hk (hn.seq i hi0).1 (hn.grip hi0 hk).1
  have hNl := rsT_len (h := h) (Gs := Gs) hi
  have hNb := rsT_bound hn _ (i + 1) rfl hi j (by omega)
  have hN0 : 0 ≤ (rsT h l Gs (i + 1)).getD j 0 ∧ (rsT h l Gs (i + 1)).getD j 0 ≤ 509000 * 400 := by rcases hNb with h1 | h1; exact absurd h1 hN; exact ⟨h1.1, by omega⟩
  have w1 := w_add1 (k := i) (by omega)
  have w2 : IntKind.i64.wrap (ownC h (l.getD i noC) ((Gs.getD i []).getD k noG) + s) = ownC h (l.getD i noC) ((Gs.getD i []).getD k noG) + s := w_in (by omega)
  have w3 : IntKind.i64.wrap (ownC h (l.getD i noC) ((Gs.getD i []).getD k noG) + s + (rsT h l Gs (i + 1)).getD j 0) = ownC h (l.getD i noC) ((Gs.getD i []).getD k noG) + s + (rsT h l Gs (i + 1)).getD j 0 := w_in (by omega)
  have c1 : (i : Int) < (l.length : Int) := by omega
  have c2 : ((i + 1 : Nat) : Int) < (l.length : Int) := by omega
  have c3 : (k : Int) < ((Gs.getD i []).length : Int) := by omega
  have c4 : (j : Int) < ((rsT h l Gs (i + 1)).length : Int) := by omega
  have g1 := iss_at' (l := owA h l Gs) (k := i) (by rw [owA_len]; exact hi0)
  rw [owA_at hi0] at g1
  have g2 := ints_at (l := owR h l Gs i) (k := k) (by rw [owR_len]; exact hk)
  rw [owR_at hk] at g2
  have g3 := owR_len h l Gs i
  have g4 := owA_len h l Gs
  have g5 := iss_at' (l := rsA h l Gs) (k := i + 1) (by rw [rsA_len]; exact hi)
  rw [rsA_at hi] at g5
  have g6 := rsA_len (h := h) (l := l) (Gs := Gs)
  have g7 := ints_at hj
  unfold netE netC tIss at o5
  unfold c_hand_lister_node_1
  dsimp only at PS
  replace hNl := Hid.mk hNl
  clear hN hNb hN0 hown hs hb hnb hq hh hl hn hi hi0 hk hj
  repeat' (with_reducible first | refine x_ops ?_ | refine wk ?_ | ((first | refine gd1 ?_ ?_ | refine gd2 ?_ ?_ | refine gd3 ?_ ?_) <;> (first | exact @False.elim _ | intro hc)))
  refine x_scallR [.ptr nb 1, .agg [vint (ownC h (l.getD i noC) ((Gs.getD i []).getD k noG) + s + (rsT h l Gs (i + 1)).getD j 0), vint (j : Int), vint 0]] vw PS PE ?_
  rintro r M2 hP
  have hr := hP.1
  subst hr
  replace hP := Hid.mk hP
  clear PS PE
  repeat' (with_reducible first | refine x_ops ?_ | refine wk ?_ | ((first | refine gd1 ?_ ?_ | refine gd2 ?_ ?_ | refine gd3 ?_ ?_) <;> (first | exact @False.elim _ | intro hc)))
  exact ⟨.inl rfl, .tup [], vv, hP.out⟩
end Go.Proofs.Ytojjdkoglhecbaa
namespace Go.Proofs.Ytojjdkoglhecbaa
open Go.RowKit

theorem heap_ex (L : List Way) : ∃ L', HpOk L' ∧ L'.Perm L := by
  have gen : ∀ n (L : List Way), L.length = n → ∃ L', HpOk L' ∧ L'.Perm L := by
    intro n
    induction n with
    | zero => intro L h; have : L = [] := List.eq_nil_of_length_eq_zero h; subst this; exact ⟨[], fun j h0 hj => by simp at hj, .refl _⟩
    | succ n ih =>
      intro L h
      rcases List.eq_nil_or_concat L with rfl | ⟨L1, w, rfl⟩
      · exact ⟨[], fun j h0 hj => by simp at hj, .refl _⟩
      · obtain ⟨L2, h1, h2⟩ := ih L1 (by simpa using h)
        obtain ⟨L3, h3, h4⟩ := up_all _ _ (up_new h1 w)
        exact ⟨L3, h3, h4.trans (by rw [List.concat_eq_append]; exact h2.append_right [w])⟩
  exact gen _ L rfl
/-- A node whose queue has these ways. -/
def NdM (M0 : Mm) (nb : Nat) (W : List Way) (M' : Mm) : Prop :=
  M0.next ≤ M'.next ∧ (∃ v H, M'.obj nb = some (.box [.sl 0 [] .exact, v, .fn 110 [], vbool false] 159) ∧ QV M' v H ∧ HpOk H ∧ H.Perm W ∧ ∀ q n, v = .gsl q n 3 → M0.next ≤ q) ∧ ∀ q, q < M0.next → q ≠ nb → M'.obj q = M0.obj q
theorem ndM_ex (M0 : Mm) {nb : Nat} (hn : nb < M0.next) (W : List Way) : ∃ M', NdM M0 nb W M' := by
  obtain ⟨L, h1, h2⟩ := heap_ex W
  refine ⟨((⟨M0.obj, M0.next + 1⟩ : Mm).put M0.next (.box (wyC L) 154)).put nb (.box [.sl 0 [] .exact, .gsl M0.next L.length 3, .fn 110 [], vbool false] 159), Nat.le_succ _,
    ⟨_, L, put_same _ _ _, .inr ⟨M0.next, [], rfl, Nat.lt_succ_self _, ?_⟩, h1, h2, fun q n e => by injection e with e; omega⟩, fun q hq hqn => (put_other _ _ hqn).trans (put_other _ _ (by omega))⟩
  rw [List.append_nil]
  exact (put_other _ _ (by omega)).trans (put_same _ _ _)
theorem ndM_push {M0 M1 M2 : Mm} {nb : Nat} {W : List Way} {w : Way} {v : V} {H : List Way} {r : V} (hn : nb < M0.next) (hb : M1.obj nb = some (.box [.sl 0 [] .exact, v, .fn 110 [], vbool false] 159)) (hM : M0.next ≤ M1.next) (hW : H.Perm W) (hv : ∀ q n, v = .gsl q n 3 → M0.next ≤ q)
    (hfr : ∀ q, q < M0.next → q ≠ nb → M1.obj q = M0.obj q) (hp : PshPost M1 nb (.sl 0 [] .exact) v (vbool false) H w r M2) : NdM M0 nb (W ++ [w]) M2 := by
  obtain ⟨_, p1, id, H', p2, p3, p4, p5, p6, p7, p8, p9⟩ := hp
  refine ⟨by omega, ⟨_, H', p3, .inr ⟨id, [], by rw [p6], p4, by rw [List.append_nil]; exact p5⟩, p7, p8.trans (hW.append_right _), fun q n e => by injection e with e; omega⟩, fun q hq hqn => (p9 q (by omega) hqn (fun n e => by have := hv q n e; omega)).trans (hfr q hq hqn)⟩

set_option maxHeartbeats 4000000 in
theorem node_fill {h : Hand} {l : List Chord} {Gs : List (List Grip)} (hn : NetOk h l Gs) {i k : Nat} (hi : i < l.length) (hk : k < (Gs.getD i []).length) {M : Mm} {nb tb xb tp ib kb : Nat} {nv rv : V} {t : Nat → V}
    (s3 : t 3 = .ptr tp 0) (s4 : t 4 = .ptr ib 0) (s5 : t 5 = .ptr kb 0) (s7 : t 7 = .ptr xb 0)
    (o1 : M.obj xb = some (.box [.ptr nb 0] 150)) (o2 : M.obj tp = some (.box [.ptr tb 0] 110)) (o3 : M.obj ib = some (.box [vint i] 3)) (o4 : M.obj kb = some (.box [vint k] 3))
    (o5 : M.obj tb = some (.box [netE h l Gs, nv, rv] 162)) (n1 : xb < M.next) (n2 : tp < M.next) (n3 : ib < M.next) (n4 : kb < M.next) (n5 : tb < M.next) (nn : xb ≠ nb ∧ tp ≠ nb ∧ ib ≠ nb ∧ kb ≠ nb ∧ tb ≠ nb)
    (hb : M.obj nb = some (.box [.sl 0 [] .exact, .sl 0 [] .exact, .fn 110 [], vbool false] 159)) (hnb : nb < M.next) :
    (c_hand_lister_node_p3).vx Try.prog Gd (fun e s' => e = .nrm ∧ NdM M nb (wayF h l Gs i k) s'.m) ⟨t, M⟩ := by
  have h4 := hn.len
  have hcnt2 := hn.cnt (i + 1)
  let J : Nat → Mm → Prop := fun j M' => NdM M nb (wayB h l Gs i k ++ wayL h l Gs i k j) M'
  have key : ∀ M1, NdM M nb (wayB h l Gs i k) M1 → SFn Try.prog Gd 88 [netE h l Gs, vint i, vint k, .fn 138 [.ptr xb 0, .ptr tp 0, .ptr ib 0, .ptr kb 0]] M1 fun r M' => r = .tup [] ∧ NdM M nb (wayF h l Gs i k) M' := by
    intro M1 hM1
    have W := ways_sfnE hn hi hk 138 [.ptr xb 0, .ptr tp 0, .ptr ib 0, .ptr kb 0] kr J M1 (by show NdM M nb (wayB h l Gs i k ++ []) M1; rw [List.append_nil]; exact hM1) (fun j _ => ndM_ex M hnb _) ?_ ?_
    · refine W.mono fun r M' ⟨h1, h2⟩ => ⟨h1, h2⟩
    · rintro j M' ⟨j1, ⟨v, H, j2, j3, j4, j5, j6⟩, j7⟩ hi1 hj hN hst
      have hb := stepB hn hi1 hk (m := j) (by rw [rsT_len hi1] at hj; exact hj)
      have hHl := j5.length_eq
      have hl1 := wayL_len h l Gs i k j
      have hl2 := wayB_len h l Gs i k
      rw [List.length_append] at hHl
      have hj2 : j < (Gs.getD (i + 1) []).length := by rw [rsT_len hi1] at hj; exact hj
      have S1 := node1_sfn hn hi1 hk hj hN (M := M') (nb := nb) (tb := tb) (xb := xb) (tp := tp) (ib := ib) (kb := kb) (fv := .sl 0 [] .exact) (v := v) (dv := vbool false) (nv := nv) (rv := rv) (H := H) hb
        ((j7 xb n1 nn.1).trans o1) ((j7 tp n2 nn.2.1).trans o2) ((j7 ib n3 nn.2.2.1).trans o3) ((j7 kb n4 nn.2.2.2.1).trans o4) ((j7 tb n5 nn.2.2.2.2).trans o5) (by omega) (by omega) (by omega) (by omega) (by omega) j2 (by omega) j3 j4 (by omega)
      refine S1.mono fun r M2 hP => ⟨hP.1, ?_⟩
      have := ndM_push hnb j2 j1 j5 j6 j7 hP
      show NdM M nb (wayB h l Gs i k ++ wayL h l Gs i k (j + 1)) M2
      rw [wayL, if_neg (by rw [hst]; rintro (h1 | h1); exact hN h1; cases h1), ← List.append_assoc]
      exact this
    · intro j M' hJ hi1 hj hsk
      show NdM M nb (wayB h l Gs i k ++ wayL h l Gs i k (j + 1)) M'
      rw [wayL, if_pos hsk]; exact hJ
  have keyE : ∃ r M', r = V.tup [] ∧ NdM M nb (wayF h l Gs i k) M' := by obtain ⟨M', h1⟩ := ndM_ex M hnb (wayF h l Gs i k); exact ⟨_, M', rfl, h1⟩
  have w1 : IntKind.i64.wrap ((l.length : Int) - 1) = (l.length : Int) - 1 := w_in (by omega)
  have w2 := w_add1 (k := i) (by omega)
  unfold c_hand_lister_node_p3
  by_cases hlast : i + 1 = l.length
  · have e1 : ((i : Int) == (l.length : Int) - 1) = true := by rw [beq_iff_eq]; omega
    have hBe : wayB h l Gs i k = [(ownC h (l.getD i noC) ((Gs.getD i []).getD k noG), -1, 0)] := by rw [wayB, if_pos hlast]
    have hPS := push_psh (w := (ownC h (l.getD i noC) ((Gs.getD i []).getD k noG), -1, 0)) hb hnb (.inl ⟨rfl, rfl⟩) (fun j h0 hj => by simp at hj) (by decide)
    have hPE := PshPost.some (fv := .sl 0 [] .exact) (v := .sl 0 [] .exact) (dv := vbool false) (H := []) (ownC h (l.getD i noC) ((Gs.getD i []).getD k noG), -1, 0) hnb (fun j h0 hj => by simp at hj)
    have c1 : (i : Int) < (l.length : Int) := by omega
    have c3 : (k : Int) < ((Gs.getD i []).length : Int) := by omega
    have g1 := iss_at' (l := owA h l Gs) (k := i) (by rw [owA_len]; exact hi)
    rw [owA_at hi] at g1
    have g2 := ints_at (l := owR h l Gs i) (k := k) (by rw [owR_len]; exact hk)
    rw [owR_at hk] at g2
    have g3 := owR_len h l Gs i
    have g4 := owA_len h l Gs
    have o5' := o5
    have hpush : ∀ r M2, PshPost M nb (.sl 0 [] .exact) (.sl 0 [] .exact) (vbool false) [] (ownC h (l.getD i noC) ((Gs.getD i []).getD k noG), -1, 0) r M2 → NdM M nb (wayB h l Gs i k) M2 := fun r M2 hP => by
      rw [hBe]; exact ndM_push hnb hb (Nat.le_refl _) (.refl []) (fun q n e => by cases e) (fun _ _ _ => rfl) hP
    unfold netE netC tIss tCs at o5
    dsimp only at hPS
    replace hlast := Hid.mk hlast
    replace hpush := Hid.mk hpush
    replace key := Hid.mk key
    replace o5' := Hid.mk o5'
    clear hBe hb hn hi hk
    repeat' (with_reducible first | refine x_ops ?_ | refine wk ?_ | ((first | refine gd1 ?_ ?_ | refine gd2 ?_ ?_ | refine gd3 ?_ ?_) <;> (first | exact @False.elim _ | intro hc)))
    refine x_scallR [.ptr nb 1, .agg [vint (ownC h (l.getD i noC) ((Gs.getD i []).getD k noG)), vint (-1), vint 0]] vw hPS hPE ?_
    rintro r M2 hP
    have hr := hP.1
    subst hr
    have hM2 := hpush.out _ _ hP
    have W := key.out M2 hM2
    have l0 := hM2.1
    have q2 := (hM2.2.2 tp n2 nn.2.1).trans o2
    have q3 := (hM2.2.2 ib n3 nn.2.2.1).trans o3
    have q4 := (hM2.2.2 kb n4 nn.2.2.2.1).trans o4
    have q5 := (hM2.2.2 tb n5 nn.2.2.2.2).trans o5'.out
    have l2 : tp < M2.next := by omega
    have l3 : ib < M2.next := by omega
    have l4 : kb < M2.next := by omega
    have l5 : tb < M2.next := by omega
    replace hP := Hid.mk hP
    replace hM2 := Hid.mk hM2
    replace l0 := Hid.mk l0
    clear hPS hPE o1 o2 o3 o4 o5 n1 n2 n3 n4 n5
    repeat' (with_reducible first | refine x_ops ?_ | refine wk ?_ | ((first | refine gd1 ?_ ?_ | refine gd2 ?_ ?_ | refine gd3 ?_ ?_) <;> (first | exact @False.elim _ | intro hc)))
    refine x_scallR [netE h l Gs, vint i, vint k, .fn 138 [.ptr xb 0, .ptr tp 0, .ptr ib 0, .ptr kb 0]] vw W keyE ?_
    rintro r M3 ⟨rfl, hM3⟩
    replace hM3 := Hid.mk hM3
    clear W
    repeat' (with_reducible first | refine x_ops ?_ | refine wk ?_ | ((first | refine gd1 ?_ ?_ | refine gd2 ?_ ?_ | refine gd3 ?_ ?_) <;> (first | exact @False.elim _ | intro hc)))
    exact hM3.out
  have e1 : ((i : Int) == (l.length : Int) - 1) = false := by rw [beq_eq_false_iff_ne]; omega
  have hBe : wayB h l Gs i k = [] := by rw [wayB, if_neg hlast]
  have W := key M (by rw [hBe]; exact ⟨Nat.le_refl _, ⟨_, [], hb, .inl ⟨rfl, rfl⟩, fun j h0 hj => by simp at hj, .refl _, fun q n e => by cases e⟩, fun _ _ _ => rfl⟩)
  have o5' := o5
  unfold netE netC tIss tCs at o5'
  replace hlast := Hid.mk hlast
  replace o5 := Hid.mk o5
  clear hBe hb hn hi hk key
  unfold netE netC tIss tCs at W
  repeat' (with_reducible first | refine x_ops ?_ | refine wk ?_ | ((first | refine gd1 ?_ ?_ | refine gd2 ?_ ?_ | refine gd3 ?_ ?_) <;> (first | exact @False.elim _ | intro hc)))
  refine x_scallR _ ?_ W keyE ?_
  · (simp only [go_sem, Nat.reduceAdd, Nat.reduceEqDiff, Nat.reduceLT, Nat.reduceLeDiff, Nat.reduceMul, Nat.reduceSub, Nat.reducePow, Nat.reduceDiv, Nat.reduceMod, Nat.reduceBEq, Int.reduceBEq, Int.reduceLT, reduceIte, V.norms, V.norm, tIs, tBs, tPs, *])
  rintro r M3 ⟨rfl, hM3⟩
  replace hM3 := Hid.mk hM3
  clear W
  repeat' (with_reducible first | refine x_ops ?_ | refine wk ?_ | ((first | refine gd1 ?_ ?_ | refine gd2 ?_ ?_ | refine gd3 ?_ ?_) <;> (first | exact @False.elim _ | intro hc)))
  exact hM3.out
end Go.Proofs.Ytojjdkoglhecbaa
namespace Go.Proofs.Ytojjdkoglhecbaa
open Go.RowKit

/-- The rows of nodes, as they are listed. -/
def rwN (rs : List Nat) (Gs : List (List Grip)) : List V := (List.range Gs.length).map fun y => .bsl (rs.getD y 0) 0 (Gs.getD y []).length (Gs.getD y []).length
theorem rwN_at {rs : List Nat} {Gs : List (List Grip)} {y : Nat} (hy : y < Gs.length) : (rwN rs Gs)[y]? = some (.bsl (rs.getD y 0) 0 (Gs.getD y []).length (Gs.getD y []).length) := by
  rw [rwN, List.getElem?_map, List.getElem?_range hy]; rfl
/-- A row of nodes that are not made yet. -/
def nilR (n : Nat) : List V := List.replicate n (.lit (.pointer none))
theorem nilR_at {n k : Nat} (hk : k < n) : (nilR n)[k]? = some (.lit (.pointer none)) := by rw [nilR, List.getElem?_replicate, if_pos hk]
theorem nilR_len (n : Nat) : (nilR n).length = n := List.length_replicate
/-- A lister in memory, of which no node from the chord i on is made. -/
structure LsM (h : Hand) (l : List Chord) (Gs : List (List Grip)) (tb nq rt : Nat) (rs : List Nat) (i : Nat) (M : Mm) : Prop where
  tbo : M.obj tb = some (.box [netE h l Gs, .gsl nq l.length 1, .ptr rt 0] 162)
  nqo : M.obj nq = some (.box (rwN rs Gs) 163)
  row : ∀ y, i ≤ y → y < l.length → M.obj (rs.getD y 0) = some (.box (nilR (Gs.getD y []).length) 150)
  inj : ∀ y z, y < z → z < l.length → rs.getD y 0 < rs.getD z 0
  ltt : tb < M.next
  ltn : nq < M.next
  ltr : ∀ y, y < l.length → rs.getD y 0 < M.next
  nen : tb ≠ nq
  ner : ∀ y, y < l.length → rs.getD y 0 ≠ tb ∧ rs.getD y 0 ≠ nq
end Go.Proofs.Ytojjdkoglhecbaa
namespace Go.Proofs.Ytojjdkoglhecbaa
open Go.RowKit

theorem ne_type {M : Mm} {p q : Nat} {a b : List V} {s t : TypeId} (h1 : M.obj p = some (.box a s)) (h2 : M.obj q = some (.box b t)) (h : s ≠ t) : p ≠ q := fun e => by
  subst e; rw [h1] at h2; injection h2 with h2; injection h2 with _ h2; exact h h2
end Go.Proofs.Ytojjdkoglhecbaa
namespace Go.Proofs.Ytojjdkoglhecbaa
open Go.RowKit

theorem LsM.mono {h : Hand} {l : List Chord} {Gs : List (List Grip)} {tb nq rt : Nat} {rs : List Nat} {i j : Nat} {M M' : Mm} (hL : LsM h l Gs tb nq rt rs i M) (hij : i ≤ j) (hn : M.next ≤ M'.next)
    (h1 : M'.obj tb = M.obj tb) (h2 : M'.obj nq = M.obj nq) (h3 : ∀ y, j ≤ y → y < l.length → M'.obj (rs.getD y 0) = M.obj (rs.getD y 0)) : LsM h l Gs tb nq rt rs j M' :=
  ⟨h1.trans hL.tbo, h2.trans hL.nqo, fun y hy hyl => (h3 y hy hyl).trans (hL.row y (by omega) hyl), hL.inj, Nat.lt_of_lt_of_le hL.ltt hn, Nat.lt_of_lt_of_le hL.ltn hn, fun y hy => Nat.lt_of_lt_of_le (hL.ltr y hy) hn, hL.nen, hL.ner⟩
end Go.Proofs.Ytojjdkoglhecbaa
namespace Go.Proofs.Ytojjdkoglhecbaa
open Go.RowKit

/-- A list in a box, that may grow. -/
def bxG (k q : Nat) : V := if k = 0 then .sl 0 [] .exact else .gsl q k 1
section
variable {P : Program} {G : Ground}
/-- One more to a list in a box. -/
theorem x_appG {base i : Nat} {d : Option Nat} {e : TypeId} {bytes : Nat} {x y : Opd} {l : List VI} {s : St} {K : St → Prop} {k oq : Nat} {cs : List V} {v : V} (hx : s.ev x = bxG k oq) (hy : rdS s.m 1 (s.ev y) = some (1, [v]))
    (ho : 0 < k → s.m.obj oq = some (.box cs e)) (hl : cs.length = k) (hone : cs.all V.one = true) (h3 : (k + 1) * bytes ≤ 140737488355328) (h4 : k + 1 ≤ maxLen)
    (h : ∀ m', m'.next = s.m.next → (∀ q, q ≠ base + i → (0 < k → q ≠ oq) → m'.obj q = s.m.obj q) → m'.obj (base + i) = some (.box (cs ++ [v]) e) → goR P G base (some ⟨putT s.t d (.gsl (base + i) (k + 1) 1), m'⟩) l (i + 1) K) :
    vrun P G base i (⟨d, none, .appM e 1 bytes, [x, y], none⟩ :: l) s K := by
  unfold bxG at hx
  by_cases h0 : k = 0
  · rw [if_pos h0] at hx
    subst h0
    have hc : cs = [] := List.eq_nil_of_length_eq_zero hl
    subst hc
    refine x_appM0 (j := 1) (ys := [v]) hx hy rfl h3 h4 ?_
    rw [if_neg (by decide)]
    exact h _ rfl (fun q hq _ => put_other _ _ hq) (put_same _ _ _)
  · rw [if_neg h0] at hx
    have ht : cs.take (k * 1) = cs := List.take_of_length_le (by omega)
    refine x_appM (j := 1) (ys := [v]) hx hy (ho (by omega)) (by omega) (by rw [ht]; exact hone) h3 h4 ?_
    rw [ht]
    exact h _ rfl (fun q hq hq2 => (put_other _ _ hq).trans (if_neg (hq2 (by omega)))) (put_same _ _ _)
end
end Go.Proofs.Ytojjdkoglhecbaa
namespace Go.Proofs.Ytojjdkoglhecbaa
open Go.RowKit

/-- The first ways of the root. -/
noncomputable def rtL (h : Hand) (l : List Chord) (Gs : List (List Grip)) : Nat → List Way
  | 0 => []
  | j + 1 => if (rsT h l Gs 0).getD j 0 = -1 then rtL h l Gs j else rtL h l Gs j ++ [((rsT h l Gs 0).getD j 0, (j : Int), 0)]
theorem rtL_len (h : Hand) (l : List Chord) (Gs : List (List Grip)) : ∀ j, (rtL h l Gs j).length ≤ j
  | 0 => Nat.le_refl _
  | j + 1 => by
    have := rtL_len h l Gs j
    rw [rtL]; split
    · omega
    · rw [List.length_append]; simp; omega
/-- Where list stands, with i rows. -/
structure LiSt (h : Hand) (l : List Chord) (Gs : List (List Grip)) (m : Mm) (i nq : Nat) (rs : List Nat) (M : Mm) : Prop where
  nx : m.next + 7 ≤ M.next
  tbo : M.obj (m.next + 5) = some (.box [netE h l Gs, bxG i nq, .ptr (m.next + 3) 0] 162)
  rto : M.obj (m.next + 3) = some (.box [.sl 0 [] .exact, .sl 0 [] .exact, .fn 110 [], vbool false] 159)
  nqo : 0 < i → M.obj nq = some (.box (rwN rs (Gs.take i)) 163) ∧ m.next + 7 ≤ nq ∧ nq < M.next
  rl : rs.length = i
  row : ∀ y, y < i → M.obj (rs.getD y 0) = some (.box (nilR (Gs.getD y []).length) 150) ∧ m.next + 7 ≤ rs.getD y 0 ∧ rs.getD y 0 < nq
  inc : ∀ y z, y < z → z < i → rs.getD y 0 < rs.getD z 0
  fr : ∀ q, q < m.next → M.obj q = m.obj q
theorem rwN_len (rs : List Nat) (Gs : List (List Grip)) : (rwN rs Gs).length = Gs.length := by simp [rwN]
theorem rwN_one (rs : List Nat) (Gs : List (List Grip)) : (rwN rs Gs).all V.one = true := by
  rw [List.all_eq_true]
  intro v hv
  rw [rwN] at hv
  obtain ⟨y, _, rfl⟩ := List.mem_map.1 hv
  rfl
theorem rwN_snoc {rs : List Nat} {Gs : List (List Grip)} {k q : Nat} (hk : k < Gs.length) (hq : rs.length = k) : rwN (rs ++ [q]) (Gs.take (k + 1)) = rwN rs (Gs.take k) ++ [.bsl q 0 (Gs.getD k []).length (Gs.getD k []).length] := by
  have l1 : (Gs.take (k + 1)).length = k + 1 := by rw [List.length_take]; omega
  have l2 : (Gs.take k).length = k := by rw [List.length_take]; omega
  rw [rwN, rwN, l1, l2, List.range_succ, List.map_append, List.map_cons, List.map_nil]
  have ha : (rs ++ [q]).getD k 0 = q := by simp [List.getD_eq_getElem?_getD, ← hq]
  have gT : ∀ (n y : Nat), y < n → (Gs.take n).getD y [] = Gs.getD y [] := fun n y h => by simp [List.getD_eq_getElem?_getD, List.getElem?_take, h]
  rw [ha, gT (k + 1) k (by omega)]
  congr 1
  apply List.map_congr_left
  intro y hy
  have hyk := List.mem_range.1 hy
  have hc : (rs ++ [q]).getD y 0 = rs.getD y 0 := by simp [List.getD_eq_getElem?_getD, List.getElem?_append_left (show y < rs.length by omega)]
  rw [hc, gT _ _ (show y < k + 1 by omega), gT _ _ hyk]
/-- What list leaves. -/
def LsPost (h : Hand) (l : List Chord) (Gs : List (List Grip)) (m : Mm) (r : V) (M' : Mm) : Prop :=
  m.next ≤ M'.next ∧ (∀ q, q < m.next → M'.obj q = m.obj q) ∧ ∃ tb nq rt rs, r = .ptr tb 0 ∧ (m.next ≤ tb ∧ tb < M'.next) ∧ (∃ nv, M'.obj tb = some (.box [netE h l Gs, nv, .ptr rt 0] 162)) ∧
    (0 < l.length → LsM h l Gs tb nq rt rs 0 M' ∧ (m.next ≤ rt ∧ rt < M'.next) ∧ ∃ v H, M'.obj rt = some (.box [.sl 0 [] .exact, v, .fn 110 [], vbool false] 159) ∧ QV M' v H ∧ HpOk H ∧ H.Perm (rtL h l Gs (rsT h l Gs 0).length))

set_option maxHeartbeats 4000000 in
theorem list_sfn {h : Hand} {l : List Chord} {Gs : List (List Grip)} (hn : NetOk h l Gs) (m : Mm) : SFn Try.prog Gd 74 [netE h l Gs] m (LsPost h l Gs m) := by
  refine SFn.of_vxS k_hand_list_b (by simp) ?_
  have h4 := hn.len
  have gl := hn.gl
  unfold c_hand_list_b
  replace gl := Hid.mk gl
  have hnet : netE h l Gs = .ept [.sl h.low.length (h.low.map vint) .no, .sl h.high.length (h.high.map vint) .no, .sl h.barre.length (h.barre.map vbool) .no, .lit (.int .i64 h.top), .lit (.int .i64 h.jump), .lit (.int .i64 h.shift), .lit (.int .i64 h.lift), .lit (.int .i64 h.bar), .lit (.int .i64 h.stretch), .lit (.int .i64 h.slide),
    .sl l.length (l.flatMap Chord.cells) .no, .sl Gs.length (Gs.map tGs) .no, .sl (owA h l Gs).length ((owA h l Gs).map tIs) .no, .sl (rsA h l Gs).length ((rsA h l Gs).map tIs) .no] 0 := rfl
  replace hnet := Hid.mk hnet
  rw [hnet.out]
  repeat' (with_reducible first | refine x_ops ?_ | refine wk ?_ | ((first | refine gd1 ?_ ?_ | refine gd2 ?_ ?_ | refine gd3 ?_ ?_) <;> (first | exact @False.elim _ | intro hc)))
  refine x_genM (fun t M => (t 0 = .ept [.sl h.low.length (h.low.map vint) .no, .sl h.high.length (h.high.map vint) .no, .sl h.barre.length (h.barre.map vbool) .no, .lit (.int .i64 h.top), .lit (.int .i64 h.jump), .lit (.int .i64 h.shift), .lit (.int .i64 h.lift), .lit (.int .i64 h.bar), .lit (.int .i64 h.stretch), .lit (.int .i64 h.slide),
    .sl l.length (l.flatMap Chord.cells) .no, .sl Gs.length (Gs.map tGs) .no, .sl (owA h l Gs).length ((owA h l Gs).map tIs) .no, .sl (rsA h l Gs).length ((rsA h l Gs).map tIs) .no] 0 ∧ t 3 = .ptr (m.next + 5) 0 ∧ t 17 = vint l.length ∧ t 18 = vint 0) ∧ LiSt h l Gs m 0 0 [] M)
    ⟨⟨vv, vv, vv, vv⟩, ⟨Nat.le_refl _, ?_, ?_, fun h0 => by omega, rfl, fun y hy => by omega, fun y z _ hz => by omega, fun q hq => by ((simp only [put_obj]; repeat rw [if_neg (by omega)]))⟩⟩ ?_
  · rw [hnet.out]; exact put_same _ _ _
  · refine (put_other _ _ (by omega)).trans (put_same _ _ _)
  rintro t0 M0 ⟨⟨a0, a3, a17, a18⟩, hs0⟩
  refine x_loopW w_hand_list_b_p4 kr l.length (fun i t M => t 18 = vint (i : Int) ∧ ∃ nq rs, LiSt h l Gs m i nq rs M) ?_ ?_
  · exact ⟨a18, 0, [], hs0⟩
  clear a18 hs0
  rintro i t M hi ⟨h18, nq, rs, hs⟩
  have hnx := hs.nx
  have o1 := hs.tbo
  have l1 : m.next + 5 < M.next := by omega
  by_cases hil : i < l.length
  · have c1 : (i : Int) < (l.length : Int) := by omega
    have w1 := w_add1 (k := i) (by omega)
    have gle := gl.out
    have g1 := gss_at' (l := Gs) (k := i) (by omega)
    have hcnt := hn.cnt i
    have k1 : ((Gs.getD i []).length : Int) * 8 ≤ 140737488355328 := by omega
    have k2 : ((Gs.getD i []).length : Int) ≤ 140737488355328 := by omega
    have hs1 := Hid.mk hs
    have hfl : (List.replicate (Gs.getD i []).length [V.lit (Value.pointer none)]).flatten = nilR (Gs.getD i []).length := by rw [nilR]; simp
    clear hs
    repeat' (with_reducible first | refine x_ops ?_ | refine wk ?_ | ((first | refine gd1 ?_ ?_ | refine gd2 ?_ ?_ | refine gd3 ?_ ?_) <;> (first | exact @False.elim _ | intro hc)))
    refine x_appG (k := i) (oq := nq) (cs := rwN rs (Gs.take i)) (v := .bsl (M.next + 13) 0 (Gs.getD i []).length (Gs.getD i []).length) vw ?_ ?_ (by rw [rwN_len, List.length_take]; omega) (rwN_one _ _) (by omega) (by unfold Go.maxLen; omega) ?_
    · have e : ∀ (mm : Mm) c, c.one = true → rdS (mm.put (M.next + 14) (.box [c] 163)) 1 (.gsl (M.next + 14) 1 1) = some (1, [c]) := fun mm c hc => by
        simp [rdS, put_same, hc]
      exact e _ _ rfl
    · intro h0
      have := (hs1.out.nqo h0).2.2
      exact (put_other _ _ (by omega)).trans ((put_other _ _ (by omega)).trans (hs1.out.nqo h0).1)
    intro m2 n2 f2 b2
    have n2' : m2.next = M.next + 19 := n2
    have lt : ∀ q, q < M.next → (0 < i → q ≠ nq) → m2.obj q = M.obj q := fun q hq hqn => (f2 q (by show ¬ q = M.next + 15; omega) hqn).trans ((put_other _ _ (by omega)).trans (put_other _ _ (by omega)))
    have q1 : m2.obj (m.next + 5) = _ := (lt (m.next + 5) l1 (fun h0 => by have := (hs1.out.nqo h0).2.1; omega)).trans o1
    have row : m2.obj (M.next + 13) = some (.box (nilR (Gs.getD i []).length) 150) := (f2 _ (by show ¬ M.next + 13 = M.next + 15; omega) (fun h0 => by have := (hs1.out.nqo h0).2.2; omega)).trans ((put_other _ _ (by omega)).trans (put_same _ _ _))
    have hs2 : LiSt h l Gs m (i + 1) (M.next + 15) (rs ++ [M.next + 13]) (m2.put (m.next + 5) (.box [netE h l Gs, .gsl (M.next + 15) (i + 1) 1, .ptr (m.next + 3) 0] 162)) := by
      have hq := hs1.out.rl
      have gq : ∀ y, y < i → (rs ++ [M.next + 13]).getD y 0 = rs.getD y 0 := fun y hy => by simp [List.getD_eq_getElem?_getD, List.getElem?_append_left (show y < rs.length by omega)]
      have gN : (rs ++ [M.next + 13]).getD i 0 = M.next + 13 := by simp [List.getD_eq_getElem?_getD, ← hq]
      refine ⟨by show m.next + 7 ≤ m2.next; omega, put_same _ _ _, ?_, fun _ => ⟨?_, by omega, by show M.next + 15 < m2.next; omega⟩, by rw [List.length_append, hq]; rfl, fun y hy => ?_, fun y z hyz hz => ?_, fun q hq' => ?_⟩
      · exact (put_other _ _ (by omega)).trans ((lt (m.next + 3) (by omega) (fun h0 => by have := (hs1.out.nqo h0).2.1; omega)).trans hs1.out.rto)
      · rw [rwN_snoc (by omega) hq]; exact (put_other _ _ (by omega)).trans b2
      · by_cases e : y = i
        · subst e; rw [gN]; exact ⟨(put_other _ _ (by omega)).trans row, by omega, by omega⟩
        · rw [gq y (by omega)]
          obtain ⟨r1, r2, r3⟩ := hs1.out.row y (by omega)
          have r4 := (hs1.out.nqo (by omega)).2.2
          exact ⟨(put_other _ _ (by omega)).trans ((lt _ (by omega) (fun _ => by omega)).trans r1), r2, by omega⟩
      · rw [gq y (by omega)]
        by_cases e : z = i
        · subst e; rw [gN]
          have r3 := (hs1.out.row y (by omega)).2.2
          have r4 := (hs1.out.nqo (by omega)).2.2
          omega
        · rw [gq z (by omega)]; exact hs1.out.inc y z hyz (by omega)
      · exact (put_other _ _ (by omega)).trans ((lt q (by omega) (fun h0 => by have := (hs1.out.nqo h0).2.1; omega)).trans (hs1.out.fr q hq'))
    replace hs2 := Hid.mk hs2
    replace n2' := Hid.mk n2'
    clear f2 b2 n2 lt row o1 hfl
    repeat' (with_reducible first | refine x_ops ?_ | refine wk ?_ | ((first | refine gd1 ?_ ?_ | refine gd2 ?_ ?_ | refine gd3 ?_ ?_) <;> (first | exact @False.elim _ | intro hc)))
    exact nx hil ⟨vv, M.next + 15, rs ++ [M.next + 13], hs2.out⟩
  have hie : i = l.length := by omega
  subst hie
  have c1 : ¬ (l.length : Int) < (l.length : Int) := by omega
  replace hs := Hid.mk hs
  clear hi hil o1
  by_cases h0 : 0 < l.length
  case neg =>
    have c2 : ¬ (0 : Int) < (l.length : Int) := by omega
    have h0' := Hid.mk h0
    clear h0
    repeat' (with_reducible first | refine x_ops ?_ | refine wk ?_ | ((first | refine gd1 ?_ ?_ | refine gd2 ?_ ?_ | refine gd3 ?_ ?_) <;> (first | exact @False.elim _ | intro hc)))
    exact ⟨.inr rfl, .ptr (m.next + 5) 0, vv, by show m.next ≤ M.next; omega, hs.out.fr, m.next + 5, 0, m.next + 3, [], rfl, ⟨by omega, by show m.next + 5 < M.next; omega⟩, ⟨_, hs.out.tbo⟩, fun h1 => absurd h1 h0'.out⟩
  have c2 : (0 : Int) < (l.length : Int) := by omega
  have hL0 : LsM h l Gs (m.next + 5) nq (m.next + 3) rs 0 M := by
    have e5 : bxG l.length nq = .gsl nq l.length 1 := if_neg (by omega)
    have htk : Gs.take l.length = Gs := List.take_of_length_le (by rw [gl.out]; exact Nat.le_refl _)
    obtain ⟨n1, n2, n3⟩ := hs.out.nqo h0
    rw [htk] at n1
    refine ⟨by rw [← e5]; exact hs.out.tbo, n1, fun y _ hy => (hs.out.row y hy).1, hs.out.inc, l1, n3, fun y hy => by have := (hs.out.row y hy).2.2; omega, by omega, fun y hy => ⟨by have := (hs.out.row y hy).2.1; omega, by have := (hs.out.row y hy).2.2; omega⟩⟩
  have hrt := hs.out.rto
  have hfr := hs.out.fr
  replace hfr := Hid.mk hfr
  have hT0 := rsT_len (h := h) (Gs := Gs) h0
  have hcn := hn.cnt 0
  have g5 := iss_at' (l := rsA h l Gs) (k := 0) (by rw [rsA_len]; exact h0)
  rw [rsA_at h0] at g5
  have g6 := rsA_len (h := h) (l := l) (Gs := Gs)
  generalize hNe : rsT h l Gs 0 = N at *
  replace hNe := Hid.mk hNe
  replace hT0 := Hid.mk hT0
  have h0' := Hid.mk h0
  clear h0 hs
  repeat' (with_reducible first | refine x_ops ?_ | refine wk ?_ | ((first | refine gd1 ?_ ?_ | refine gd2 ?_ ?_ | refine gd3 ?_ ?_) <;> (first | exact @False.elim _ | intro hc)))
  refine x_gen (fun t => t 3 = .ptr (m.next + 5) 0 ∧ t 51 = .sl N.length (N.map vint) .no ∧ t 52 = vint N.length ∧ t 53 = vint 0) ⟨vw, vv, vv, vv⟩ ?_
  clear a0 a3 a17 h18
  rintro t6 ⟨a3, a51, a52, a53⟩
  have hrl : ∀ k, k < N.length → rtL h l Gs (k + 1) = if N.getD k 0 = -1 then rtL h l Gs k else rtL h l Gs k ++ [(N.getD k 0, (k : Int), 0)] := fun k _ => by rw [rtL, hNe.out]
  refine x_loopW w_hand_list_b_p10 kr N.length (fun k t M' => t 53 = vint (k : Int) ∧ NdM M (m.next + 3) (rtL h l Gs k) M') ?_ ?_
  · exact ⟨a53, Nat.le_refl _, ⟨_, [], hrt, .inl ⟨rfl, rfl⟩, fun j h0 hj => by simp at hj, .refl _, fun q n e => by cases e⟩, fun _ _ _ => rfl⟩
  clear a53
  rintro k t7 M' hk ⟨h53, hM'⟩
  have hM0 := Hid.mk hM'
  obtain ⟨j1, ⟨v, H, j2, j3, j4, j5, j6⟩, j7⟩ := hM'
  by_cases hkl : k < N.length
  case neg =>
    have hke : k = N.length := by omega
    subst hke
    have cc1 : ¬ (N.length : Int) < (N.length : Int) := by omega
    have lsm := hL0.mono (M' := M') (Nat.le_refl _) j1 (j7 _ l1 (by omega)) (j7 _ hL0.ltn (ne_type hL0.nqo hrt (by decide))) (fun y hy hyl => j7 _ (hL0.ltr y hyl) (ne_type (hL0.row y hy hyl) hrt (by decide)))
    have fr2 : ∀ q, q < m.next → M'.obj q = m.obj q := fun q hq => (j7 q (by omega) (by omega)).trans (hfr.out q hq)
    have hfin : LsPost h l Gs m (.ptr (m.next + 5) 0) M' := by
      refine ⟨by omega, fr2, m.next + 5, nq, m.next + 3, rs, rfl, ⟨by omega, by omega⟩, ⟨_, lsm.tbo⟩, fun _ => ⟨lsm, ⟨by omega, by omega⟩, v, H, j2, j3, j4, by rw [hNe.out]; exact j5⟩⟩
    replace hfin := Hid.mk hfin
    clear j1 j2 j3 j4 j5 j6 j7 hM0 fr2 lsm hL0 hrl hkl hk
    repeat' (with_reducible first | refine x_ops ?_ | refine wk ?_ | ((first | refine gd1 ?_ ?_ | refine gd2 ?_ ?_ | refine gd3 ?_ ?_) <;> (first | exact @False.elim _ | intro hc)))
    exact ⟨.inr rfl, .ptr (m.next + 5) 0, vw, hfin.out⟩
  have cc1 : (k : Int) < (N.length : Int) := by omega
  have g1 := ints_at hkl
  have wk' := w_add1 (k := k) (by have := hT0.out; omega)
  have q1 := (j7 (m.next + 5) l1 (by omega)).trans hL0.tbo
  have hrk := hrl k hkl
  by_cases hno : N.getD k 0 = -1
  · have e2 : (N.getD k 0 == -1) = true := by rw [hno]; rfl
    rw [if_pos hno] at hrk
    replace hrk := Hid.mk hrk
    clear hno hrl j2 j3 j4 j5 j6 j7 hk
    repeat' (with_reducible first | refine x_ops ?_ | refine wk ?_ | ((first | refine gd1 ?_ ?_ | refine gd2 ?_ ?_ | refine gd3 ?_ ?_) <;> (first | exact @False.elim _ | intro hc)))
    exact nx hkl ⟨vv, by rw [hrk.out]; exact hM0.out⟩
  have e2 : (N.getD k 0 == -1) = false := by rw [beq_eq_false_iff_ne]; exact hno
  rw [if_neg hno] at hrk
  have hHl := j5.length_eq
  have hrlen := rtL_len h l Gs k
  have PS := push_psh (w := (N.getD k 0, (k : Int), 0)) j2 (by omega) j3 j4 (by have := hT0.out; omega)
  have PE := PshPost.some (fv := .sl 0 [] .exact) (v := v) (dv := vbool false) (N.getD k 0, (k : Int), 0) (show m.next + 3 < M'.next by omega) j4
  have hpush : ∀ r M2, PshPost M' (m.next + 3) (.sl 0 [] .exact) v (vbool false) H (N.getD k 0, (k : Int), 0) r M2 → NdM M (m.next + 3) (rtL h l Gs k ++ [(N.getD k 0, (k : Int), 0)]) M2 := fun r M2 hP => ndM_push (by omega) j2 j1 j5 j6 j7 hP
  dsimp only at PS
  replace hpush := Hid.mk hpush
  replace hrk := Hid.mk hrk
  clear hno hrl j2 j3 j4 j5 j6 j7 hk hHl
  repeat' (with_reducible first | refine x_ops ?_ | refine wk ?_ | ((first | refine gd1 ?_ ?_ | refine gd2 ?_ ?_ | refine gd3 ?_ ?_) <;> (first | exact @False.elim _ | intro hc)))
  refine x_scallR [.ptr (m.next + 3) 1, .agg [vint (N.getD k 0), vint (k : Int), vint 0]] vw PS PE ?_
  rintro r M2 hP
  have hr := hP.1
  subst hr
  have hM2 := Hid.mk (hpush.out _ _ hP)
  clear PS PE hP
  repeat' (with_reducible first | refine x_ops ?_ | refine wk ?_ | ((first | refine gd1 ?_ ?_ | refine gd2 ?_ ?_ | refine gd3 ?_ ?_) <;> (first | exact @False.elim _ | intro hc)))
  exact nx hkl ⟨vv, by rw [hrk.out]; exact hM2.out⟩
end Go.Proofs.Ytojjdkoglhecbaa
