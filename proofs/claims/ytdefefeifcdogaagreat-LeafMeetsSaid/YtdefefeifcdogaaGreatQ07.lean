/- Functions of the program, as code on values by numbers, for the evaluator: printed by a program from the program that was given, and held against it here. Functions of the program, as code on values by numbers: printed by a program from the program that was given, and held against it here. A copy of a row that may change, in any memory: it is a new box. The look at the chapter's example: the table of the functions that it runs. The look at the chapter's example: two counts, and what is narrowed, run outright. The look at the chapter's example: it says true. The law LeafBoth. The law LeafMeets, if Meet and Join of both are what they should be. The law LeafMeets. -/
import Derived.Test.YtdefefeifcdogaaGreatQ02
import Derived.Test.YtdefefeifcdogaaGreatQ03
import Derived.Test.YtdefefeifcdogaaGreatQ04
import Derived.Test.YtdefefeifcdogaaGreatQ05
import Derived.Test.YtdefefeifcdogaaGreatQ06
set_option linter.unusedSimpArgs false
set_option linter.unusedVariables false
namespace Go.Proofs.YtdefefeifcdogaaGreat
open Go.RowKit
set_option maxRecDepth 100000
def d_280 : Fd := ⟨134, (.seq (.ops 0 [oo 8 .mv [(.c (.lit (.bool true)))]]) (.seq (.ops 0 [oo 9 .mv [(.c (.lit (.bool true)))]]) (.block 0 (.loop (.block 1 (.seq (.ops 0 [oo 19 .mv [.t 2], oo 20 .mv [.t 1], oo 21 (.bin .sub) [.t 19, .t 20], oo 10 .mv [.t 21]]) (.seq (.seq (.ops 0 [oo 22 .mv [.t 10], oo 23 (.bin .leq) [.t 22, kk 12]]) (.cond (.t 23) (.seq (.ops 0 [oo 24 .mv [.t 0], oo 25 .mv [.t 1], oo 26 .mv [.t 2], oo 27 (.call 326) [.t 24, .t 25, .t 26]]) .ret) .skip)) (.seq (.seq (.ops 0 [oo 28 .mv [.t 3], oo 29 (.bin .eql) [.t 28, kk 0]]) (.cond (.t 29) (.seq (.ops 0 [oo 30 .mv [.t 0], oo 31 .mv [.t 1], oo 32 .mv [.t 2], oo 33 (.call 327) [.t 30, .t 31, .t 32]]) .ret) .skip)) (.seq (.seq (.ops 0 [oo 34 .mv [.t 8], oo 35 (.un .not) [.t 34]]) (.cond (.t 35) (.seq (.ops 0 [oo 36 .mv [.t 0], oo 37 .mv [.t 1], oo 38 .mv [.t 2], oo 39 (.call 328) [.t 36, .t 37, .t 38]]) (.ops 0 [oo 40 .mv [.t 3], oo 41 (.bin .sub) [.t 40, kk 1], oo 3 .mv [.t 41]])) .skip)) (.seq (.ops 0 [oo 43 .mv [.t 0], oo 44 .mv [.t 1], oo 45 .mv [.t 2], oo 46 (.call 329) [.t 43, .t 44, .t 45], oo 42 .mv [.t 46], oo 47 (.ext 0) [.t 42], oo 48 (.ext 1) [.t 42], oo 11 .mv [.t 47], oo 12 .mv [.t 48]]) (.seq (.seq (.ops 0 [oo 49 .mv [.t 12], oo 50 (.bin .eql) [.t 49, kk 2]]) (.cond (.t 50) (.seq (.ops 0 [oo 51 .mv [.t 0], oo 52 .mv [.t 1], oo 53 .mv [.t 2], oo 54 (.call 330) [.t 51, .t 52, .t 53]]) (.seq (.ops 0 [oo 55 .mv [.t 2], oo 56 (.bin .sub) [.t 55, kk 1], oo 57 .mv [.t 11], oo 58 .mv [.t 1], oo 59 (.bin .sub) [.t 57, .t 58], oo 60 (.bin .sub) [.t 56, .t 59], oo 11 .mv [.t 60]]) (.ops 0 [oo 12 .mv [kk 1]]))) .skip)) (.seq (.seq (.ops 0 [oo 61 .mv [.t 8], oo 62 .mv [.t 61], og 63 62 true .mv [.t 9], oo 64 .pick [.t 62, .t 63, (.c (.lit (.bool false)))], oo 65 .mv [.t 64], og 66 65 true .mv [.t 12], og 67 65 true (.bin .eql) [.t 66, kk 1], oo 68 .pick [.t 65, .t 67, (.c (.lit (.bool false)))]]) (.cond (.t 68) (.seq (.ops 0 [oo 69 .mv [.t 0], oo 70 .mv [.t 1], oo 71 .mv [.t 2], oo 72 (.call 331) [.t 69, .t 70, .t 71]]) (.cond (.t 72) .ret .skip)) .skip)) (.seq (.seq (.ops 0 [oo 73 .mv [.t 1], oo 74 (.bin .gtr) [.t 73, kk 0], oo 75 .mv [.t 74], og 76 75 true .mv [.t 0], og 77 75 true .mv [.t 1], og 78 75 true (.bin .sub) [.t 77, kk 1], og 79 75 true (.ixA 1) [.t 76, .t 78], ⟨(some 80), (some (75, true)), .ld1, [.t 79], (some [0, 1, 2, 3, 4, 5, 6])⟩, og 81 75 true .mv [.t 0], og 82 75 true .mv [.t 11], og 83 75 true (.ixA 1) [.t 81, .t 82], ⟨(some 84), (some (75, true)), .ld1, [.t 83], (some [0, 1, 2, 8, 9, 10])⟩, og 85 75 true (.call 205) [.t 80, .t 84], og 86 75 true (.un .not) [.t 85], oo 87 .pick [.t 75, .t 86, (.c (.lit (.bool false)))]]) (.cond (.t 87) (.seq (.ops 0 [oo 88 .mv [.t 0], oo 89 .mv [.t 1], oo 90 .mv [.t 2], oo 91 .mv [.t 11], oo 92 (.call 332) [.t 88, .t 89, .t 90, .t 91], oo 13 .mv [.t 92]]) (.seq (.ops 0 [oo 93 .mv [.t 13], oo 1 .mv [.t 93]]) (.exit 1))) .skip)) (.seq (.ops 0 [oo 95 .mv [.t 0], oo 96 .mv [.t 1], oo 97 .mv [.t 2], oo 98 .mv [.t 11], oo 99 (.call 333) [.t 95, .t 96, .t 97, .t 98], oo 94 .mv [.t 99], oo 100 (.ext 0) [.t 94], oo 101 (.ext 1) [.t 94], oo 14 .mv [.t 100], oo 15 .mv [.t 101]]) (.seq (.ops 0 [oo 102 .mv [.t 15], oo 9 .mv [.t 102]]) (.seq (.ops 0 [oo 103 .mv [.t 14], oo 104 .mv [.t 1], oo 105 (.bin .sub) [.t 103, .t 104], oo 106 .mv [.t 2], oo 107 .mv [.t 14], oo 108 (.bin .sub) [.t 106, .t 107], oo 16 .mv [.t 105], oo 17 .mv [.t 108]]) (.seq (.ops 0 [oo 109 .mv [.t 10], oo 110 (.bin .quo) [.t 109, kk 8], oo 18 .mv [.t 110]]) (.seq (.ops 0 [oo 111 .mv [.t 16], oo 112 .mv [.t 17], oo 113 (.bin .lss) [.t 111, .t 112]]) (.cond (.t 113) (.seq (.ops 0 [oo 114 .mv [.t 16], oo 115 .mv [.t 18], oo 116 (.bin .geq) [.t 114, .t 115], oo 8 .mv [.t 116]]) (.seq (.ops 0 [oo 117 .mv [.t 0], oo 118 .mv [.t 1], oo 119 .mv [.t 14], oo 120 .mv [.t 3], oo 121 (.call 280) [.t 117, .t 118, .t 119, .t 120]]) (.ops 0 [oo 122 .mv [.t 14], oo 123 (.bin .add) [.t 122, kk 1], oo 1 .mv [.t 123]]))) (.seq (.ops 0 [oo 124 .mv [.t 17], oo 125 .mv [.t 18], oo 126 (.bin .geq) [.t 124, .t 125], oo 8 .mv [.t 126]]) (.seq (.ops 0 [oo 127 .mv [.t 0], oo 128 .mv [.t 14], oo 129 (.bin .add) [.t 128, kk 1], oo 130 .mv [.t 2], oo 131 .mv [.t 3], oo 132 (.call 280) [.t 127, .t 129, .t 130, .t 131]]) (.ops 0 [oo 133 .mv [.t 14], oo 2 .mv [.t 133]])))))))))))))))))))))), []⟩
theorem dk_280 : callable Tryz.prog 280 = true ∧ ∃ bx, Comp Tryz.prog bx gtab 280 d_280.nt d_280.c d_280.rs := ⟨kr, allbx, ⟨⟨Tryz.f280, _, Tryz.func280, rfl, rfl, kr, kr⟩⟩⟩
def d_313 : Fd := ⟨115, (.seq (.ops 7 [oo 5 (.box 31) [.t 0], oo 6 (.box 102) [.t 1], oo 7 (.box 262) [.t 2], oo 8 (.box 102) [.t 3], oo 9 (.box 262) [.t 4], oo 10 .mv [kk 0], oo 11 .mv [(.c (.lit (.bool false)))]]) (.seq (.seq (.ops 0 [oo 20 (.fldA 1) [.t 8], oo 21 .ld1 [.t 20], oo 22 .len [.t 21], oo 23 .mv [kk 0]]) (.block 0 (.loop (.seq (.ops 0 [oo 24 (.bin .lss) [.t 23, .t 22]]) (.seq (.cond (.t 24) .skip (.exit 0)) (.seq (.block 1 (.seq (.ops 0 [oo 25 (.ixA 1) [.t 21, .t 23], oo 26 .ld1 [.t 25], oo 13 .mv [.t 26]]) (.seq (.ops 0 [oo 27 (.fldA 1) [.t 7], od 28 .ld1 [.t 27] [0], od 29 (.ldA 3) [.t 6] [], oo 30 .mv [.t 13], od 31 (.call 343) [.t 29, .t 30] [2, 3], oo 32 (.ixA 1) [.t 28, .t 31], od 33 .ld1 [.t 32] [0, 1, 2, 3, 4, 5], oo 34 (.fldA 1) [.t 9], od 35 .ld1 [.t 34] [7], od 36 (.ldA 3) [.t 8] [], oo 37 .mv [.t 13], od 38 (.call 343) [.t 36, .t 37] [2, 3, 4, 9, 10], oo 39 (.ixA 1) [.t 35, .t 38], od 40 .ld1 [.t 39] [2, 3, 4, 7, 8, 9, 10, 11, 12], oo 41 (.bin .neq) [.t 33, .t 40]]) (.cond (.t 41) (.seq (.ops 0 [oo 10 .mv [kk 0], oo 11 .mv [(.c (.lit (.bool false)))]]) .ret) .skip)))) (.ops 0 [oo 42 (.bin .add) [.t 23, kk 1], oo 23 .mv [.t 42]]))))))) (.seq (.ops 0 [oo 43 (.fldA 0) [.t 7], oo 44 .ld1 [.t 43], oo 45 (.fldA 0) [.t 9], oo 46 .ld1 [.t 45], oo 47 (.call 290) [.t 44, .t 46], oo 14 .mv [.t 47]]) (.seq (.ops 0 [oo 48 (.fldA 0) [.t 6], oo 49 .ld1 [.t 48], oo 50 .len [.t 49], oo 51 (.bin .gtr) [.t 50, kk 0], oo 52 .mv [.t 51], og 53 52 true (.fldA 0) [.t 8], og 54 52 true .ld1 [.t 53], og 55 52 true .len [.t 54], og 56 52 true (.bin .gtr) [.t 55, kk 0], oo 57 .pick [.t 52, .t 56, (.c (.lit (.bool false)))], oo 15 .mv [.t 57]]) (.seq (.seq (.ops 0 [oo 58 .mv [.t 15], oo 59 .mv [.t 58], og 60 59 true .mv [.t 14], og 61 59 true (.fldA 4) [.t 5], og 62 59 true .ld1 [.t 61], og 63 59 true (.bin .gtr) [.t 60, .t 62], oo 64 .pick [.t 59, .t 63, (.c (.lit (.bool false)))]]) (.cond (.t 64) (.seq (.ops 0 [oo 10 .mv [kk 0], oo 11 .mv [(.c (.lit (.bool false)))]]) .ret) .skip)) (.seq (.ops 0 [oo 65 (.fldA 5) [.t 5], oo 66 .ld1 [.t 65], oo 67 .mv [.t 14], oo 68 (.bin .mul) [.t 66, .t 67], oo 16 .mv [.t 68]]) (.seq (.seq (.ops 0 [oo 69 .mv [.t 15], oo 70 .mv [.t 69], og 71 70 true .mv [.t 14], og 72 70 true (.bin .gtr) [.t 71, kk 0], oo 73 .pick [.t 70, .t 72, (.c (.lit (.bool false)))]]) (.cond (.t 73) (.ops 0 [oo 74 .mv [.t 16], oo 75 (.fldA 6) [.t 5], oo 76 .ld1 [.t 75], oo 77 (.bin .add) [.t 74, .t 76], oo 16 .mv [.t 77]]) .skip)) (.seq (.seq (.ops 0 [oo 17 .mv [kk 1]]) (.block 2 (.loop (.seq (.seq (.ops 0 [oo 78 .mv [.t 17], oo 79 (.fldA 0) [.t 5], oo 80 .ld1 [.t 79], oo 81 .len [.t 80], oo 82 (.bin .leq) [.t 78, .t 81], oo 83 .mv [.t 82], og 84 83 true .mv [.t 15], oo 85 .pick [.t 83, .t 84, (.c (.lit (.bool false)))]]) (.cond (.t 85) .skip (.exit 2))) (.seq (.block 3 (.seq (.ops 11 [od 88 (.ldA 3) [.t 6] [], od 89 (.ldA 2) [.t 7] [], oo 90 .mv [.t 17], od 91 (.callB 289) [.t 88, .t 89, .t 90] [0, 1, 2], od 92 (.ldA 3) [.t 8] [], od 93 (.ldA 2) [.t 9] [], oo 94 .mv [.t 17], od 95 (.callB 289) [.t 92, .t 93, .t 94] [0, 1, 2, 3, 4, 5, 6], ⟨(some 19), none, (.alloc 100 [(.sl 0 [] .exact)]), [], (some [])⟩, oo 18 .mv [.t 91], ⟨none, none, (.st 1), [.t 19, .t 95], none⟩]) (.seq (.ops 0 [oo 96 .mv [.t 18], oo 97 .len [.t 96], oo 98 (.bin .gtr) [.t 97, kk 0], oo 99 .mv [.t 98], og 100 99 true .ld1 [.t 19], og 101 99 true .len [.t 100], og 102 99 true (.bin .gtr) [.t 101, kk 0], oo 103 .pick [.t 99, .t 102, (.c (.lit (.bool false)))], oo 104 .mv [.t 103], og 105 104 true .mv [.t 18], og 106 104 true (.mkfn 344) [.t 19], og 107 104 true (.call 336) [.t 105, .t 106], og 108 104 true (.un .not) [.t 107], oo 109 .pick [.t 104, .t 108, (.c (.lit (.bool false)))]]) (.cond (.t 109) (.ops 0 [oo 110 .mv [.t 16], oo 111 (.fldA 9) [.t 5], oo 112 .ld1 [.t 111], oo 113 (.bin .add) [.t 110, .t 112], oo 16 .mv [.t 113]]) .skip)))) (.ops 0 [oo 86 .mv [.t 17], oo 87 (.bin .add) [.t 86, kk 1], oo 17 .mv [.t 87]])))))) (.seq (.ops 0 [oo 114 .mv [.t 16], oo 10 .mv [.t 114], oo 11 .mv [(.c (.lit (.bool true)))]]) .ret))))))))), [.t 10, .t 11]⟩
theorem dk_313 : callable Tryz.prog 313 = true ∧ ∃ bx, Comp Tryz.prog bx gtab 313 d_313.nt d_313.c d_313.rs := ⟨kr, (fun n => !([1000005, 1000006, 1000007, 1000008, 1000009, 1000091, 1000095].contains n)), ⟨⟨Tryz.f313, _, Tryz.func313, rfl, rfl, kr, kr⟩⟩⟩
def d_209 : Fd := ⟨93, (.seq (.ops 3 [oo 2 (.box 102) [.t 0], oo 3 (.box 136) [.t 1], ⟨(some 4), none, (.alloc 102 [(.sl 0 [] .exact), (.sl 0 [] .exact), (.sl 0 [] .exact)]), [], none⟩]) (.seq (.block 0 (.seq (.ops 0 [oo 12 (.fldA 4) [.t 3], oo 13 .ld1 [.t 12], oo 11 .mv [.t 13]]) (.cond (.t 11) (.seq (.ops 0 [oo 14 (.fldA 0) [.t 2], od 15 .ld1 [.t 14] [0], oo 16 (.fldA 2) [.t 2], od 17 .ld1 [.t 16] [2], oo 18 (.fldA 0) [.t 4], ⟨none, none, (.st 1), [.t 18, .t 15], (some [4])⟩, oo 19 (.fldA 2) [.t 4], ⟨none, none, (.st 1), [.t 19, .t 17], none⟩]) (.seq (.seq (.ops 0 [oo 20 (.fldA 0) [.t 4], oo 21 .ld1 [.t 20], oo 22 .len [.t 21], oo 23 .mv [kk 0]]) (.block 1 (.loop (.seq (.ops 0 [oo 24 (.bin .lss) [.t 23, .t 22]]) (.seq (.cond (.t 24) .skip (.exit 1)) (.seq (.block 2 (.seq (.ops 4 [oo 25 (.ixA 2) [.t 21, .t 23], oo 26 (.ldA 2) [.t 25], oo 6 (.alloc 242 [li 0, li 0]) [], ⟨none, none, (.st 2), [.t 6, .t 26], none⟩]) (.ops 8 [oo 27 (.fldA 1) [.t 4], oo 28 .ld1 [.t 27], oo 29 (.fldA 0) [.t 6], oo 30 .ld1 [.t 29], oo 31 (.mkslB 3 1 1 [li 0] [(0, 1)]) [.t 30], oo 32 (.appM 3 1 8) [.t 28, .t 31], oo 33 (.fldA 1) [.t 4], ⟨none, none, (.st 1), [.t 33, .t 32], none⟩]))) (.ops 0 [oo 34 (.bin .add) [.t 23, kk 1], oo 23 .mv [.t 34]]))))))) (.seq (.ops 0 [oo 35 (.ldA 3) [.t 4], ⟨none, none, (.st 3), [.t 4, .t 35], none⟩]) .ret))) (.seq (.ops 0 [oo 37 (.fldA 5) [.t 3], oo 38 .ld1 [.t 37], oo 39 .len [.t 38], oo 40 (.bin .eql) [.t 39, kk 0], oo 36 .mv [.t 40]]) (.cond (.t 36) (.seq (.ops 0 [oo 41 (.ldA 3) [.t 4], ⟨none, none, (.st 3), [.t 4, .t 41], none⟩]) .ret) .skip))))) (.seq (.seq (.ops 0 [oo 42 (.fldA 2) [.t 2], oo 43 .ld1 [.t 42], oo 44 .len [.t 43], oo 45 .mv [kk 0]]) (.block 3 (.loop (.seq (.ops 0 [oo 46 (.bin .lss) [.t 45, .t 44]]) (.seq (.cond (.t 46) .skip (.exit 3)) (.seq (.block 4 (.seq (.ops 4 [oo 47 (.ixA 1) [.t 43, .t 45], oo 48 .ld1 [.t 47], oo 8 (.alloc 3 [li 0]) [], ⟨none, none, (.st 1), [.t 8, .t 48], none⟩]) (.seq (.ops 0 [oo 49 (.fldA 5) [.t 3], oo 50 .ld1 [.t 49], oo 51 (.mkfn 253) [.t 8], oo 52 (.call 188) [.t 50, .t 51], oo 53 (.un .not) [.t 52]]) (.cond (.t 53) (.ops 7 [oo 54 (.fldA 2) [.t 4], oo 55 .ld1 [.t 54], oo 56 .ld1 [.t 8], oo 57 (.mkslB 3 1 1 [li 0] [(0, 1)]) [.t 56], oo 58 (.appM 3 1 8) [.t 55, .t 57], oo 59 (.fldA 2) [.t 4], ⟨none, none, (.st 1), [.t 59, .t 58], none⟩]) .skip)))) (.ops 0 [oo 60 (.bin .add) [.t 45, kk 1], oo 45 .mv [.t 60]]))))))) (.seq (.seq (.ops 0 [oo 61 (.fldA 5) [.t 3], oo 62 .ld1 [.t 61], oo 63 .len [.t 62], oo 64 .mv [kk 0]]) (.block 5 (.loop (.seq (.ops 0 [oo 65 (.bin .lss) [.t 64, .t 63]]) (.seq (.cond (.t 65) .skip (.exit 5)) (.seq (.block 6 (.seq (.ops 4 [oo 66 (.ixA 5) [.t 62, .t 64], oo 67 (.ldA 5) [.t 66], oo 10 (.alloc 152 [li 0, li 0, li 0, li 0, li 0]) [], ⟨none, none, (.st 5), [.t 10, .t 67], none⟩]) (.seq (.ops 0 [oo 68 (.fldA 1) [.t 10], oo 69 .ld1 [.t 68], oo 70 (.bin .gtr) [.t 69, kk 0]]) (.cond (.t 70) (.ops 11 [oo 71 (.fldA 0) [.t 4], oo 72 .ld1 [.t 71], oo 73 (.fldA 0) [.t 10], oo 74 .ld1 [.t 73], oo 75 (.fldA 1) [.t 10], oo 76 .ld1 [.t 75], oo 77 (.build [li 0, li 0] [(0, 1), (1, 1)]) [.t 74, .t 76], oo 78 (.mkslB 242 1 2 [li 0, li 0] [(0, 2)]) [.t 77], oo 79 (.appM 242 2 16) [.t 72, .t 78], oo 80 (.fldA 0) [.t 4], ⟨none, none, (.st 1), [.t 80, .t 79], none⟩]) (.ops 8 [oo 81 (.fldA 2) [.t 4], oo 82 .ld1 [.t 81], oo 83 (.fldA 0) [.t 10], oo 84 .ld1 [.t 83], oo 85 (.mkslB 3 1 1 [li 0] [(0, 1)]) [.t 84], oo 86 (.appM 3 1 8) [.t 82, .t 85], oo 87 (.fldA 2) [.t 4], ⟨none, none, (.st 1), [.t 87, .t 86], none⟩]))))) (.ops 0 [oo 88 (.bin .add) [.t 64, kk 1], oo 64 .mv [.t 88]]))))))) (.seq (.ops 0 [oo 89 (.fldA 2) [.t 4], oo 90 .ld1 [.t 89], oo 91 (.call 229) [.t 90]]) (.seq (.ops 0 [oo 92 (.ldA 3) [.t 4], ⟨none, none, (.st 3), [.t 4, .t 92], none⟩]) .ret)))))), [(.c 4 3 true)]⟩
theorem dk_209 : callable Tryz.prog 209 = true ∧ ∃ bx, Comp Tryz.prog bx gtab 209 d_209.nt d_209.c d_209.rs := ⟨kr, (fun n => !([1000002, 1000003].contains n)), ⟨⟨Tryz.f209, _, Tryz.func209, rfl, rfl, kr, kr⟩⟩⟩
def d_312 : Fd := ⟨82, (.seq (.ops 4 [oo 3 .boxE [.t 0], oo 4 (.box 102) [.t 1], oo 5 (.box 262) [.t 2], oo 6 .mv [(.c (.lit (.bool false)))]]) (.seq (.seq (.ops 0 [oo 10 (.fldA 0) [.t 5], oo 11 .ld1 [.t 10], oo 12 (.fldA 3) [.t 3], oo 13 .ld1 [.t 12], oo 14 (.call 149) [.t 11, kk 1, .t 13], oo 15 (.un .not) [.t 14], oo 16 .mv [.t 15], og 17 16 false (.fldA 1) [.t 5], og 18 16 false .ld1 [.t 17], og 19 16 false .len [.t 18], og 20 16 false (.fldA 0) [.t 4], og 21 16 false .ld1 [.t 20], og 22 16 false .len [.t 21], og 23 16 false (.bin .neq) [.t 19, .t 22], oo 24 .pick [.t 16, (.c (.lit (.bool true))), .t 23]]) (.cond (.t 24) (.seq (.ops 0 [oo 6 .mv [(.c (.lit (.bool false)))]]) .ret) .skip)) (.seq (.seq (.ops 0 [oo 25 (.fldA 1) [.t 5], oo 26 .ld1 [.t 25], oo 27 .len [.t 26], oo 28 .mv [kk 0]]) (.block 0 (.loop (.seq (.ops 0 [oo 29 (.bin .lss) [.t 28, .t 27]]) (.seq (.cond (.t 29) .skip (.exit 0)) (.seq (.block 1 (.seq (.ops 0 [oo 30 .mv [.t 28], oo 31 (.ixA 1) [.t 26, .t 28], oo 32 .ld1 [.t 31], oo 7 .mv [.t 30], oo 8 .mv [.t 32]]) (.seq (.seq (.ops 0 [oo 33 .mv [.t 8], oo 34 (.fldA 0) [.t 3], oo 35 .ld1 [.t 34], oo 36 .len [.t 35], oo 37 (.call 149) [.t 33, kk 1, .t 36], oo 38 (.un .not) [.t 37], oo 39 .mv [.t 38], ⟨(some 40), (some (39, false)), (.ldA 10), [.t 3], (some [0, 1, 2, 3, 4, 5, 6])⟩, og 41 39 false (.fldA 0) [.t 5], ⟨(some 42), (some (39, false)), .ld1, [.t 41], (some [0, 1, 2, 3, 4, 5, 6, 8])⟩, og 43 39 false .mv [.t 8], og 44 39 false (.fldA 0) [.t 4], ⟨(some 45), (some (39, false)), .ld1, [.t 44], (some [0, 1, 2, 3, 4, 5, 6, 11])⟩, og 46 39 false .mv [.t 7], og 47 39 false (.ixA 2) [.t 45, .t 46], og 48 39 false (.fldA 1) [.t 47], ⟨(some 49), (some (39, false)), .ld1, [.t 48], (some [0, 1, 2, 3, 4, 5, 6, 11, 12, 13, 14, 15])⟩, og 50 39 false (.call 287) [.t 40, .t 42, .t 43, .t 49], og 51 39 false (.un .not) [.t 50], oo 52 .pick [.t 39, (.c (.lit (.bool true))), .t 51]]) (.cond (.t 52) (.seq (.ops 0 [oo 6 .mv [(.c (.lit (.bool false)))]]) .ret) .skip)) (.seq (.ops 0 [oo 53 .mv [.t 7], oo 54 .mv [kk 0]]) (.block 2 (.loop (.seq (.ops 0 [oo 55 (.bin .lss) [.t 54, .t 53]]) (.seq (.cond (.t 55) .skip (.exit 2)) (.seq (.block 3 (.seq (.ops 0 [oo 56 .mv [.t 54], oo 9 .mv [.t 56]]) (.seq (.ops 0 [oo 57 (.fldA 0) [.t 4], od 58 .ld1 [.t 57] [0], oo 59 .mv [.t 9], oo 60 (.ixA 2) [.t 58, .t 59], od 61 (.ldA 2) [.t 60] [0, 1, 2, 3], oo 62 (.fldA 0) [.t 4], od 63 .ld1 [.t 62] [5], oo 64 .mv [.t 7], oo 65 (.ixA 2) [.t 63, .t 64], od 66 (.ldA 2) [.t 65] [5, 6, 7, 8], oo 67 (.fldA 1) [.t 5], od 68 .ld1 [.t 67] [10], oo 69 .mv [.t 9], oo 70 (.ixA 1) [.t 68, .t 69], od 71 .ld1 [.t 70] [10, 11, 12, 13], oo 72 .mv [.t 8], oo 73 (.call 288) [.t 61, .t 66, .t 71, .t 72], oo 74 (.un .not) [.t 73]]) (.cond (.t 74) (.seq (.ops 0 [oo 6 .mv [(.c (.lit (.bool false)))]]) .ret) .skip)))) (.ops 0 [oo 75 (.bin .add) [.t 54, kk 1], oo 54 .mv [.t 75]])))))))))) (.ops 0 [oo 76 (.bin .add) [.t 28, kk 1], oo 28 .mv [.t 76]]))))))) (.seq (.ops 0 [oo 77 (.ldA 10) [.t 3], oo 78 (.ldA 3) [.t 4], oo 79 (.fldA 1) [.t 5], oo 80 .ld1 [.t 79], oo 81 (.call 286) [.t 77, .t 78, .t 80], oo 6 .mv [.t 81]]) .ret)))), [.t 6]⟩
theorem dk_312 : callable Tryz.prog 312 = true ∧ ∃ bx, Comp Tryz.prog bx gtab 312 d_312.nt d_312.c d_312.rs := ⟨kr, (fun n => !([1000004, 1000005].contains n)), ⟨⟨Tryz.f312, _, Tryz.func312, rfl, rfl, kr, kr⟩⟩⟩
def d_285 : Fd := ⟨84, (.scope (.seq (.ops 0 [oo 11 .ld1 [.t 1], oo 12 .len [.t 11], oo 7 .mv [.t 12]]) (.seq (.seq (.ops 0 [oo 13 .mv [.t 7], oo 14 (.fldA 0) [.t 2], oo 15 .ld1 [.t 14], oo 16 .len [.t 15], oo 17 (.bin .eql) [.t 13, .t 16]]) (.cond (.t 17) (.seq (.seq (.ops 0 [oo 18 (.ldA 10) [.t 3], oo 19 (.ldA 3) [.t 2], oo 20 .ld1 [.t 1], oo 21 (.call 286) [.t 18, .t 19, .t 20]]) (.cond (.t 21) (.ops 8 [od 22 .ld1 [.t 4] [], oo 23 .mv [.t 0], od 24 .ld1 [.t 1] [], od 25 (.callB 135) [.t 24] [2], ⟨(some 26), none, (.build [li 0, (.sl 0 [] .exact)] [(0, 1), (1, 1)]), [.t 23, .t 25], none⟩, ⟨(some 27), none, (.mkslB 262 1 2 [li 0, (.sl 0 [] .exact)] [(0, 2)]), [.t 26], (some [1, 2, 3, 4])⟩, oo 28 (.appM 262 2 32) [.t 22, .t 27], ⟨none, none, (.st 1), [.t 4, .t 28], none⟩]) .skip)) .ret) .skip)) (.seq .skip (.seq (.ops 0 [oo 8 .mv [kk 1]]) (.block 0 (.loop (.seq (.seq (.ops 0 [oo 29 .mv [.t 8], oo 30 (.fldA 0) [.t 3], oo 31 .ld1 [.t 30], oo 32 .len [.t 31], oo 33 (.bin .leq) [.t 29, .t 32], oo 34 .mv [.t 33], og 35 34 true .ld1 [.t 4], og 36 34 true .len [.t 35], og 37 34 true (.bin .leq) [.t 36, kk 200], oo 38 .pick [.t 34, .t 37, (.c (.lit (.bool false)))]]) (.cond (.t 38) .skip (.exit 0))) (.seq (.block 1 (.seq (.seq (.ops 0 [od 41 (.ldA 10) [.t 3] [], oo 42 .mv [.t 0], oo 43 .mv [.t 8], oo 44 (.fldA 0) [.t 2], od 45 .ld1 [.t 44] [3], oo 46 .mv [.t 7], oo 47 (.ixA 2) [.t 45, .t 46], oo 48 (.fldA 1) [.t 47], od 49 .ld1 [.t 48] [3, 4, 5, 6, 7], oo 50 (.call 287) [.t 41, .t 42, .t 43, .t 49], oo 51 (.un .not) [.t 50]]) (.cond (.t 51) (.exit 1) .skip)) (.seq (.seq (.ops 0 [oo 52 .ld1 [.t 1], oo 53 .len [.t 52], oo 54 .mv [kk 0]]) (.block 2 (.loop (.seq (.ops 0 [oo 55 (.bin .lss) [.t 54, .t 53]]) (.seq (.cond (.t 55) .skip (.exit 2)) (.seq (.block 3 (.seq (.ops 0 [oo 56 .mv [.t 54], oo 57 (.ixA 1) [.t 52, .t 54], oo 58 .ld1 [.t 57], oo 9 .mv [.t 56], oo 10 .mv [.t 58]]) (.seq (.ops 0 [oo 59 (.fldA 0) [.t 2], od 60 .ld1 [.t 59] [0], oo 61 .mv [.t 9], oo 62 (.ixA 2) [.t 60, .t 61], od 63 (.ldA 2) [.t 62] [0, 1, 2, 3], oo 64 (.fldA 0) [.t 2], od 65 .ld1 [.t 64] [5], oo 66 .mv [.t 7], oo 67 (.ixA 2) [.t 65, .t 66], od 68 (.ldA 2) [.t 67] [5, 6, 7, 8], oo 69 .mv [.t 10], oo 70 .mv [.t 8], oo 71 (.call 288) [.t 63, .t 68, .t 69, .t 70], oo 72 (.un .not) [.t 71]]) (.cond (.t 72) (.exit 1) .skip)))) (.ops 0 [oo 73 (.bin .add) [.t 54, kk 1], oo 54 .mv [.t 73]]))))))) (.seq (.ops 5 [oo 74 .ld1 [.t 1], oo 75 .mv [.t 8], oo 76 (.mkslB 3 1 1 [li 0] [(0, 1)]) [.t 75], oo 77 (.appM 3 1 8) [.t 74, .t 76], ⟨none, none, (.st 1), [.t 1, .t 77], none⟩]) (.seq (.ops 0 [oo 78 .ld1 [.t 5], oo 79 .mv [.t 0], oo 80 .callv [.t 78, .t 79]]) (.ops 0 [oo 81 .ld1 [.t 1], oo 82 .mv [.t 7], oo 83 (.slc 1 false true) [.t 81, .t 82], ⟨none, none, (.st 1), [.t 1, .t 83], none⟩])))))) (.ops 0 [oo 39 .mv [.t 8], oo 40 (.bin .add) [.t 39, kk 1], oo 8 .mv [.t 40]])))))))))), []⟩
theorem dk_285 : callable Tryz.prog 285 = true ∧ ∃ bx, Comp Tryz.prog bx gtab 285 d_285.nt d_285.c d_285.rs := ⟨kr, (fun n => !([1000025].contains n)), ⟨⟨Tryz.f285, _, Tryz.func285, rfl, rfl, kr, kr⟩⟩⟩
def d_154 : Fd := ⟨66, (.seq (.ops 0 [oo 1 .boxE [.t 0], oo 2 .mv [(.c (.lit (.string ⟨#[]⟩)))]]) (.seq (.ops 1 [⟨(some 3), none, (.alloc 270 [(.sl 0 [] .exact)]), [], none⟩]) (.seq (.ops 0 [oo 9 (.mkfn 211) [.t 3], oo 4 .mv [.t 9]]) (.seq (.ops 9 [oo 10 .mv [.t 4], oo 11 (.fldA 0) [.t 1], oo 12 .ld1 [.t 11], oo 13 (.fldA 1) [.t 1], oo 14 (.fldA 0) [.t 13], oo 15 .ld1 [.t 14], oo 16 .len [.t 15], oo 17 (.mkslB 3 2 1 [li 0, li 0] [(0, 1), (1, 1)]) [.t 12, .t 16], oo 18 .callv [.t 10, .t 17]]) (.seq (.seq (.ops 0 [oo 19 (.fldA 1) [.t 1], oo 20 (.fldA 0) [.t 19], oo 21 .ld1 [.t 20], oo 22 .len [.t 21], oo 23 .mv [kk 0]]) (.block 0 (.loop (.seq (.ops 0 [oo 24 (.bin .lss) [.t 23, .t 22]]) (.seq (.cond (.t 24) .skip (.exit 0)) (.seq (.block 1 (.seq (.ops 4 [oo 25 (.ixA 2) [.t 21, .t 23], oo 26 (.ldA 2) [.t 25], oo 6 (.alloc 242 [li 0, li 0]) [], ⟨none, none, (.st 2), [.t 6, .t 26], none⟩]) (.ops 7 [oo 27 .mv [.t 4], oo 28 (.fldA 0) [.t 6], oo 29 .ld1 [.t 28], oo 30 (.fldA 1) [.t 6], oo 31 .ld1 [.t 30], oo 32 (.mkslB 3 2 1 [li 0, li 0] [(0, 1), (1, 1)]) [.t 29, .t 31], oo 33 .callv [.t 27, .t 32]]))) (.ops 0 [oo 34 (.bin .add) [.t 23, kk 1], oo 23 .mv [.t 34]]))))))) (.seq (.ops 7 [oo 35 .mv [.t 4], oo 36 (.fldA 1) [.t 1], oo 37 (.fldA 2) [.t 36], oo 38 .ld1 [.t 37], oo 39 .len [.t 38], oo 40 (.mkslB 3 1 1 [li 0] [(0, 1)]) [.t 39], oo 41 .callv [.t 35, .t 40]]) (.seq (.ops 0 [oo 42 .mv [.t 4], oo 43 (.fldA 1) [.t 1], oo 44 (.fldA 2) [.t 43], oo 45 .ld1 [.t 44], oo 46 .callv [.t 42, .t 45]]) (.seq (.seq (.ops 0 [oo 47 (.fldA 4) [.t 1], oo 48 .ld1 [.t 47], oo 49 .len [.t 48], oo 50 .mv [kk 0]]) (.block 2 (.loop (.seq (.ops 0 [oo 51 (.bin .lss) [.t 50, .t 49]]) (.seq (.cond (.t 51) .skip (.exit 2)) (.seq (.block 3 (.seq (.ops 4 [oo 52 (.ixA 2) [.t 48, .t 50], oo 53 (.ldA 2) [.t 52], ⟨(some 8), none, (.alloc 262 [li 0, (.sl 0 [] .exact)]), [], none⟩, ⟨none, none, (.st 2), [.t 8, .t 53], none⟩]) (.seq (.ops 5 [oo 54 .mv [.t 4], oo 55 (.fldA 0) [.t 8], oo 56 .ld1 [.t 55], oo 57 (.mkslB 3 1 1 [li 0] [(0, 1)]) [.t 56], oo 58 .callv [.t 54, .t 57]]) (.ops 0 [oo 59 .mv [.t 4], oo 60 (.fldA 1) [.t 8], oo 61 .ld1 [.t 60], oo 62 .callv [.t 59, .t 61]])))) (.ops 0 [oo 63 (.bin .add) [.t 50, kk 1], oo 50 .mv [.t 63]]))))))) (.seq (.ops 0 [oo 64 .ld1 [.t 3], oo 65 .runes [.t 64], oo 2 .mv [.t 65]]) .ret))))))))), [.t 2]⟩
theorem dk_154 : callable Tryz.prog 154 = true ∧ ∃ bx, Comp Tryz.prog bx gtab 154 d_154.nt d_154.c d_154.rs := ⟨kr, (fun n => !([1000005].contains n)), ⟨⟨Tryz.f154, _, Tryz.func154, rfl, rfl, kr, kr⟩⟩⟩
def d_257 : Fd := ⟨52, (.seq (.ops 7 [oo 5 .boxE [.t 0], oo 6 (.box 102) [.t 1], oo 7 (.box 262) [.t 2], oo 8 (.box 102) [.t 3], oo 9 (.box 262) [.t 4], oo 10 .mv [kk 0], oo 11 .mv [kk 0]]) (.seq (.seq (.ops 0 [oo 16 (.ldA 10) [.t 5], oo 17 (.call 75) [.t 16], oo 12 .mv [.t 17]]) (.seq (.ops 0 [oo 18 .mv [.t 12], oo 19 (.bin .neq) [.t 18, kk 0]]) (.cond (.t 19) (.seq (.ops 0 [oo 20 .mv [.t 12], oo 10 .mv [kk 0], oo 11 .mv [.t 20]]) .ret) .skip))) (.seq (.seq (.ops 5 [oo 21 (.ldA 3) [.t 6], oo 22 (.ldA 3) [.t 8], ⟨(some 23), none, (.mkslB 102 2 3 [(.sl 0 [] .exact), (.sl 0 [] .exact), (.sl 0 [] .exact), (.sl 0 [] .exact), (.sl 0 [] .exact), (.sl 0 [] .exact)] [(0, 3), (3, 3)]), [.t 21, .t 22], none⟩, oo 24 (.call 284) [.t 23], oo 13 .mv [.t 24]]) (.seq (.ops 0 [oo 25 .mv [.t 13], oo 26 (.bin .neq) [.t 25, kk 0]]) (.cond (.t 26) (.seq (.ops 0 [oo 27 .mv [.t 13], oo 10 .mv [kk 0], oo 11 .mv [.t 27]]) .ret) .skip))) (.seq (.seq (.ops 0 [oo 28 (.ldA 10) [.t 5], oo 29 (.ldA 3) [.t 6], oo 30 (.ldA 2) [.t 7], oo 31 (.call 312) [.t 28, .t 29, .t 30], oo 32 (.un .not) [.t 31], oo 33 .mv [.t 32], og 34 33 false (.ldA 10) [.t 5], og 35 33 false (.ldA 3) [.t 8], og 36 33 false (.ldA 2) [.t 9], og 37 33 false (.call 312) [.t 34, .t 35, .t 36], og 38 33 false (.un .not) [.t 37], oo 39 .pick [.t 33, (.c (.lit (.bool true))), .t 38]]) (.cond (.t 39) (.seq (.ops 0 [oo 10 .mv [kk 0], oo 11 .mv [kk 61]]) .ret) .skip)) (.seq (.ops 0 [oo 41 (.ldA 10) [.t 5], oo 42 (.ldA 3) [.t 6], oo 43 (.ldA 2) [.t 7], oo 44 (.ldA 3) [.t 8], oo 45 (.ldA 2) [.t 9], oo 46 (.call 313) [.t 41, .t 42, .t 43, .t 44, .t 45], oo 40 .mv [.t 46], oo 47 (.ext 0) [.t 40], oo 48 (.ext 1) [.t 40], oo 14 .mv [.t 47], oo 15 .mv [.t 48]]) (.seq (.seq (.ops 0 [oo 49 .mv [.t 15], oo 50 (.un .not) [.t 49]]) (.cond (.t 50) (.seq (.ops 0 [oo 10 .mv [kk 0], oo 11 .mv [kk 61]]) .ret) .skip)) (.seq (.ops 0 [oo 51 .mv [.t 14], oo 10 .mv [.t 51], oo 11 .mv [kk 0]]) .ret))))))), [.t 10, .t 11]⟩
theorem dk_257 : callable Tryz.prog 257 = true ∧ ∃ bx, Comp Tryz.prog bx gtab 257 d_257.nt d_257.c d_257.rs := ⟨kr, (fun n => !([1000006, 1000007, 1000008, 1000009].contains n)), ⟨⟨Tryz.f257, _, Tryz.func257, rfl, rfl, kr, kr⟩⟩⟩
def d_185 : Fd := ⟨46, (.seq (.ops 0 [oo 2 .boxE [.t 0], oo 3 .boxE [.t 1], oo 4 .mv [kk 0], oo 5 .mv [kk 0]]) (.seq (.seq (.ops 0 [oo 8 (.ldA 2) [.t 2], oo 9 (.call 71) [.t 8], oo 6 .mv [.t 9]]) (.seq (.ops 0 [oo 10 .mv [.t 6], oo 11 (.bin .neq) [.t 10, kk 0]]) (.cond (.t 11) (.seq (.ops 0 [oo 12 .mv [.t 6], oo 4 .mv [kk 0], oo 5 .mv [.t 12]]) .ret) .skip))) (.seq (.seq (.ops 0 [oo 13 (.fldA 0) [.t 3], oo 14 .ld1 [.t 13], oo 15 (.bin .lss) [.t 14, kk 1], oo 16 .mv [.t 15], og 17 16 false (.fldA 0) [.t 3], og 18 16 false .ld1 [.t 17], og 19 16 false (.fldA 0) [.t 2], og 20 16 false .ld1 [.t 19], og 21 16 false .len [.t 20], og 22 16 false (.bin .gtr) [.t 18, .t 21], oo 23 .pick [.t 16, (.c (.lit (.bool true))), .t 22]]) (.cond (.t 23) (.seq (.ops 0 [oo 4 .mv [kk 0], oo 5 .mv [kk 12]]) .ret) .skip)) (.seq (.ops 9 [oo 24 (.fldA 0) [.t 2], oo 25 .ld1 [.t 24], oo 26 (.fldA 0) [.t 3], oo 27 .ld1 [.t 26], oo 28 (.bin .sub) [.t 27, kk 1], oo 29 (.ixA 3) [.t 25, .t 28], oo 30 (.ldA 3) [.t 29], oo 7 (.alloc 188 [li 0, li 0, (.lit (.bool false))]) [], ⟨none, none, (.st 3), [.t 7, .t 30], none⟩]) (.seq (.seq (.ops 0 [oo 31 (.fldA 1) [.t 3], oo 32 .ld1 [.t 31], oo 33 (.bin .lss) [.t 32, kk 0], oo 34 .mv [.t 33], og 35 34 false (.fldA 1) [.t 3], og 36 34 false .ld1 [.t 35], og 37 34 false (.fldA 1) [.t 7], og 38 34 false .ld1 [.t 37], og 39 34 false (.bin .gtr) [.t 36, .t 38], oo 40 .pick [.t 34, (.c (.lit (.bool true))), .t 39]]) (.cond (.t 40) (.seq (.ops 0 [oo 4 .mv [kk 0], oo 5 .mv [kk 13]]) .ret) .skip)) (.seq (.ops 0 [oo 41 (.ldA 2) [.t 2], oo 42 (.ldA 3) [.t 7], oo 43 (.fldA 1) [.t 3], oo 44 .ld1 [.t 43], oo 45 (.call 228) [.t 41, .t 42, .t 44], oo 4 .mv [.t 45], oo 5 .mv [kk 0]]) .ret)))))), [.t 4, .t 5]⟩
theorem dk_185 : callable Tryz.prog 185 = true ∧ ∃ bx, Comp Tryz.prog bx gtab 185 d_185.nt d_185.c d_185.rs := ⟨kr, allbx, ⟨⟨Tryz.f185, _, Tryz.func185, rfl, rfl, kr, kr⟩⟩⟩
def d_326 : Fd := ⟨49, (.seq (.ops 0 [oo 8 .mv [.t 1], oo 9 (.bin .add) [.t 8, kk 1], oo 6 .mv [.t 9]]) (.block 0 (.loop (.seq (.seq (.ops 0 [oo 10 .mv [.t 6], oo 11 .mv [.t 2], oo 12 (.bin .lss) [.t 10, .t 11]]) (.cond (.t 12) .skip (.exit 0))) (.seq (.block 1 (.seq (.ops 0 [oo 15 .mv [.t 6], oo 7 .mv [.t 15]]) (.block 2 (.loop (.seq (.seq (.ops 0 [oo 16 .mv [.t 7], oo 17 .mv [.t 1], oo 18 (.bin .gtr) [.t 16, .t 17], oo 19 .mv [.t 18], og 20 19 true .mv [.t 0], og 21 19 true .mv [.t 7], og 22 19 true (.ixA 1) [.t 20, .t 21], ⟨(some 23), (some (19, true)), .ld1, [.t 22], (some [0, 1, 2, 3, 4, 5, 6])⟩, og 24 19 true .mv [.t 0], og 25 19 true .mv [.t 7], og 26 19 true (.bin .sub) [.t 25, kk 1], og 27 19 true (.ixA 1) [.t 24, .t 26], ⟨(some 28), (some (19, true)), .ld1, [.t 27], (some [0, 1, 2, 3, 8, 9, 10, 11])⟩, og 29 19 true (.call 205) [.t 23, .t 28], oo 30 .pick [.t 19, .t 29, (.c (.lit (.bool false)))]]) (.cond (.t 30) .skip (.exit 2))) (.seq (.block 3 (.ops 0 [oo 33 .mv [.t 0], oo 34 .mv [.t 7], oo 35 .mv [.t 0], oo 36 .mv [.t 7], oo 37 (.bin .sub) [.t 36, kk 1], oo 38 .mv [.t 0], oo 39 .mv [.t 7], oo 40 (.bin .sub) [.t 39, kk 1], oo 41 (.ixA 1) [.t 38, .t 40], od 42 .ld1 [.t 41] [5, 6, 7, 8], oo 43 .mv [.t 0], oo 44 .mv [.t 7], oo 45 (.ixA 1) [.t 43, .t 44], od 46 .ld1 [.t 45] [10, 11, 12], oo 47 (.ixA 1) [.t 33, .t 34], ⟨none, none, (.st 1), [.t 47, .t 42], none⟩, oo 48 (.ixA 1) [.t 35, .t 37], ⟨none, none, (.st 1), [.t 48, .t 46], none⟩])) (.ops 0 [oo 31 .mv [.t 7], oo 32 (.bin .sub) [.t 31, kk 1], oo 7 .mv [.t 32]]))))))) (.ops 0 [oo 13 .mv [.t 6], oo 14 (.bin .add) [.t 13, kk 1], oo 6 .mv [.t 14]])))))), []⟩
theorem dk_326 : callable Tryz.prog 326 = true ∧ ∃ bx, Comp Tryz.prog bx gtab 326 d_326.nt d_326.c d_326.rs := ⟨kr, allbx, ⟨⟨Tryz.f326, _, Tryz.func326, rfl, rfl, kr, kr⟩⟩⟩
def d_271 : Fd := ⟨25, (.seq (.ops 0 [oo 2 .mv [kk 0]]) (.seq (.seq (.ops 0 [oo 3 .mv [.t 0], oo 4 (.bin .geq) [.t 3, (.c (.lit (.int .u64 4294967296)))]]) (.cond (.t 4) (.seq (.ops 0 [oo 5 .mv [.t 0], oo 6 (.bin .shr) [.t 5, (.c (.lit (.int .u64 32)))], oo 0 .mv [.t 6]]) (.ops 0 [oo 2 .mv [kk 32]])) .skip)) (.seq (.seq (.ops 0 [oo 7 .mv [.t 0], oo 8 (.bin .geq) [.t 7, (.c (.lit (.int .u64 65536)))]]) (.cond (.t 8) (.seq (.ops 0 [oo 9 .mv [.t 0], oo 10 (.bin .shr) [.t 9, (.c (.lit (.int .u64 16)))], oo 0 .mv [.t 10]]) (.ops 0 [oo 11 .mv [.t 2], oo 12 (.bin .add) [.t 11, kk 16], oo 2 .mv [.t 12]])) .skip)) (.seq (.seq (.ops 0 [oo 13 .mv [.t 0], oo 14 (.bin .geq) [.t 13, (.c (.lit (.int .u64 256)))]]) (.cond (.t 14) (.seq (.ops 0 [oo 15 .mv [.t 0], oo 16 (.bin .shr) [.t 15, (.c (.lit (.int .u64 8)))], oo 0 .mv [.t 16]]) (.ops 0 [oo 17 .mv [.t 2], oo 18 (.bin .add) [.t 17, kk 8], oo 2 .mv [.t 18]])) .skip)) (.seq (.ops 0 [oo 19 .mv [.t 2], oo 20 .mv [.t 0], oo 21 (.cvt .u8) [.t 20], oo 22 .ixS [(.c (.lit (.string ⟨#[0, 1, 2, 2, 3, 3, 3, 3, 4, 4, 4, 4, 4, 4, 4, 4, 5, 5, 5, 5, 5, 5, 5, 5, 5, 5, 5, 5, 5, 5, 5, 5, 6, 6, 6, 6, 6, 6, 6, 6, 6, 6, 6, 6, 6, 6, 6, 6, 6, 6, 6, 6, 6, 6, 6, 6, 6, 6, 6, 6, 6, 6, 6, 6, 7, 7, 7, 7, 7, 7, 7, 7, 7, 7, 7, 7, 7, 7, 7, 7, 7, 7, 7, 7, 7, 7, 7, 7, 7, 7, 7, 7, 7, 7, 7, 7, 7, 7, 7, 7, 7, 7, 7, 7, 7, 7, 7, 7, 7, 7, 7, 7, 7, 7, 7, 7, 7, 7, 7, 7, 7, 7, 7, 7, 7, 7, 7, 7, 8, 8, 8, 8, 8, 8, 8, 8, 8, 8, 8, 8, 8, 8, 8, 8, 8, 8, 8, 8, 8, 8, 8, 8, 8, 8, 8, 8, 8, 8, 8, 8, 8, 8, 8, 8, 8, 8, 8, 8, 8, 8, 8, 8, 8, 8, 8, 8, 8, 8, 8, 8, 8, 8, 8, 8, 8, 8, 8, 8, 8, 8, 8, 8, 8, 8, 8, 8, 8, 8, 8, 8, 8, 8, 8, 8, 8, 8, 8, 8, 8, 8, 8, 8, 8, 8, 8, 8, 8, 8, 8, 8, 8, 8, 8, 8, 8, 8, 8, 8, 8, 8, 8, 8, 8, 8, 8, 8, 8, 8, 8, 8, 8, 8, 8, 8, 8, 8, 8, 8, 8, 8, 8, 8, 8, 8, 8, 8]⟩))), .t 21], oo 23 (.cvt .i64) [.t 22], oo 24 (.bin .add) [.t 19, .t 23], oo 2 .mv [.t 24]]) .ret))))), [.t 2]⟩
theorem dk_271 : callable Tryz.prog 271 = true ∧ ∃ bx, Comp Tryz.prog bx gtab 271 d_271.nt d_271.c d_271.rs := ⟨kr, allbx, ⟨⟨Tryz.f271, _, Tryz.func271, rfl, rfl, kr, kr⟩⟩⟩
def d_212 : Fd := ⟨42, (.seq (.ops 0 [oo 4 .mv [(.c (.sl 0 [] .exact))]]) (.seq (.ops 0 [oo 8 .mv [.t 0], oo 9 .mv [.t 1], oo 10 (.call 258) [.t 8, .t 9], oo 5 .mv [.t 10]]) (.seq (.seq (.ops 0 [oo 11 .mv [.t 5], oo 12 (.bin .eql) [.t 11, kk (-1)]]) (.cond (.t 12) (.seq (.ops 0 [oo 13 .mv [.t 0], oo 4 .mv [.t 13]]) .ret) .skip)) (.seq (.seq (.ops 0 [oo 14 .mv [.t 5], oo 15 (.bin .add) [.t 14, kk 1], oo 6 .mv [.t 15]]) (.block 0 (.loop (.seq (.seq (.ops 0 [oo 16 .mv [.t 6], oo 17 .mv [.t 0], oo 18 .len [.t 17], oo 19 (.bin .lss) [.t 16, .t 18]]) (.cond (.t 19) .skip (.exit 0))) (.seq (.block 1 (.seq (.ops 6 [oo 22 .mv [.t 0], oo 23 .mv [.t 6], oo 24 (.ixA 5) [.t 22, .t 23], oo 25 (.ldA 5) [.t 24], ⟨(some 7), none, (.alloc 114 [li 0, (.lit (.bool false)), (.lit (.bool false)), (.sl 0 [] .exact), li 0]), [], none⟩, ⟨none, none, (.st 5), [.t 7, .t 25], none⟩]) (.seq (.ops 0 [oo 26 .mv [.t 1], oo 27 (.ldA 5) [.t 7], oo 28 .callv [.t 26, .t 27], oo 29 (.un .not) [.t 28]]) (.cond (.t 29) (.seq (.ops 0 [oo 30 .mv [.t 0], oo 31 .mv [.t 5], oo 32 (.ldA 5) [.t 7], oo 33 (.ixA 5) [.t 30, .t 31], ⟨none, none, (.st 5), [.t 33, .t 32], none⟩]) (.ops 0 [oo 34 .mv [.t 5], oo 35 (.bin .add) [.t 34, kk 1], oo 5 .mv [.t 35]])) .skip)))) (.ops 0 [oo 20 .mv [.t 6], oo 21 (.bin .add) [.t 20, kk 1], oo 6 .mv [.t 21]])))))) (.seq (.ops 0 [oo 36 .mv [.t 0], oo 37 .mv [.t 5], oo 38 (.slc 5 true false) [.t 36, .t 37], ⟨none, none, (.clr 5 [li 0, (.lit (.bool false)), (.lit (.bool false)), (.sl 0 [] .exact), li 0]), [.t 38], none⟩]) (.seq (.ops 0 [oo 39 .mv [.t 0], oo 40 .mv [.t 5], oo 41 (.slc 5 false true) [.t 39, .t 40], oo 4 .mv [.t 41]]) .ret)))))), [.t 4]⟩
theorem dk_212 : callable Tryz.prog 212 = true ∧ ∃ bx, Comp Tryz.prog bx gtab 212 d_212.nt d_212.c d_212.rs := ⟨kr, allbx, ⟨⟨Tryz.f212, _, Tryz.func212, rfl, rfl, kr, kr⟩⟩⟩
def d_125 : Fd := ⟨36, (.seq (.ops 3 [oo 2 (.box 25) [.t 0], oo 3 (.box 136) [.t 1], oo 4 .mv [(.c (.lit (.bool false)))]]) (.seq (.ops 0 [oo 5 .mv [(.c (.sl 0 [] .exact))]]) (.seq (.seq (.ops 0 [oo 10 (.fldA 5) [.t 3], oo 11 .ld1 [.t 10], oo 12 .len [.t 11], oo 13 .mv [kk 0]]) (.block 0 (.loop (.seq (.ops 0 [oo 14 (.bin .lss) [.t 13, .t 12]]) (.seq (.cond (.t 14) .skip (.exit 0)) (.seq (.block 1 (.seq (.ops 4 [oo 15 (.ixA 5) [.t 11, .t 13], oo 16 (.ldA 5) [.t 15], oo 7 (.alloc 152 [li 0, li 0, li 0, li 0, li 0]) [], ⟨none, none, (.st 5), [.t 7, .t 16], none⟩]) (.seq (.ops 0 [oo 18 (.ldA 2) [.t 2], oo 19 (.fldA 0) [.t 7], oo 20 .ld1 [.t 19], oo 21 (.fldA 1) [.t 7], oo 22 .ld1 [.t 21], oo 23 (.build [li 0, li 0] [(0, 1), (1, 1)]) [.t 20, .t 22], oo 24 (.call 185) [.t 18, .t 23], oo 17 .mv [.t 24], oo 25 (.ext 0) [.t 17], oo 26 (.ext 1) [.t 17], oo 8 .mv [.t 25], oo 9 .mv [.t 26]]) (.seq (.seq (.ops 0 [oo 27 .mv [.t 9], oo 28 (.bin .neq) [.t 27, kk 0]]) (.cond (.t 28) (.seq (.ops 0 [oo 4 .mv [(.c (.lit (.bool false)))]]) .ret) .skip)) (.ops 5 [oo 29 .mv [.t 5], oo 30 .mv [.t 8], oo 31 (.mkslB 3 1 1 [li 0] [(0, 1)]) [.t 30], oo 32 (.appM 3 1 8) [.t 29, .t 31], oo 5 .mv [.t 32]]))))) (.ops 0 [oo 33 (.bin .add) [.t 13, kk 1], oo 13 .mv [.t 33]]))))))) (.seq (.ops 0 [oo 34 .mv [.t 5], oo 35 (.call 186) [.t 34], oo 4 .mv [.t 35]]) .ret)))), [.t 4]⟩
theorem dk_125 : callable Tryz.prog 125 = true ∧ ∃ bx, Comp Tryz.prog bx gtab 125 d_125.nt d_125.c d_125.rs := ⟨kr, (fun n => !([1000002, 1000003].contains n)), ⟨⟨Tryz.f125, _, Tryz.func125, rfl, rfl, kr, kr⟩⟩⟩
def d_289 : Fd := ⟨30, (.seq (.ops 3 [oo 3 (.box 102) [.t 0], oo 4 (.box 262) [.t 1], oo 6 .mv [(.c (.sl 0 [] .exact))]]) (.seq (.seq (.ops 0 [oo 9 (.fldA 1) [.t 4], oo 10 .ld1 [.t 9], oo 11 .len [.t 10], oo 12 .mv [kk 0]]) (.block 0 (.loop (.seq (.ops 0 [oo 13 (.bin .lss) [.t 12, .t 11]]) (.seq (.cond (.t 13) .skip (.exit 0)) (.seq (.block 1 (.seq (.ops 0 [oo 14 .mv [.t 12], oo 15 (.ixA 1) [.t 10, .t 12], oo 16 .ld1 [.t 15], oo 7 .mv [.t 14], oo 8 .mv [.t 16]]) (.seq (.ops 0 [oo 17 .mv [.t 8], oo 18 .mv [.t 2], oo 19 (.bin .eql) [.t 17, .t 18]]) (.cond (.t 19) (.ops 9 [oo 20 .mv [.t 6], oo 21 (.fldA 0) [.t 3], oo 22 .ld1 [.t 21], oo 23 .mv [.t 7], oo 24 (.ixA 2) [.t 22, .t 23], oo 25 (.ldA 2) [.t 24], oo 26 (.mkslB 242 1 2 [li 0, li 0] [(0, 2)]) [.t 25], oo 27 (.appM 242 2 16) [.t 20, .t 26], oo 6 .mv [.t 27]]) .skip)))) (.ops 0 [oo 28 (.bin .add) [.t 12, kk 1], oo 12 .mv [.t 28]]))))))) (.seq (.ops 0 [oo 29 .mv [.t 6], oo 6 .mv [.t 29]]) .ret))), [.t 6]⟩
theorem dk_289 : callable Tryz.prog 289 = true ∧ ∃ bx, Comp Tryz.prog bx gtab 289 d_289.nt d_289.c d_289.rs := ⟨kr, (fun n => !([1000003, 1000004].contains n)), ⟨⟨Tryz.f289, _, Tryz.func289, rfl, rfl, kr, kr⟩⟩⟩
def d_61 : Fd := ⟨26, (.seq (.ops 0 [oo 4 .mv [(.c (.lit (.bool false)))]]) (.seq (.seq (.ops 0 [oo 6 .mv [.t 0], oo 7 .len [.t 6], oo 8 .mv [.t 1], oo 9 .len [.t 8], oo 10 (.bin .neq) [.t 7, .t 9]]) (.cond (.t 10) (.seq (.ops 0 [oo 4 .mv [(.c (.lit (.bool false)))]]) .ret) .skip)) (.seq (.seq (.ops 0 [oo 5 .mv [kk 0]]) (.block 0 (.loop (.seq (.seq (.ops 0 [oo 11 .mv [.t 5], oo 12 .mv [.t 0], oo 13 .len [.t 12], oo 14 (.bin .lss) [.t 11, .t 13]]) (.cond (.t 14) .skip (.exit 0))) (.seq (.block 1 (.seq (.ops 0 [oo 17 .mv [.t 0], oo 18 .mv [.t 5], oo 19 (.ixA 1) [.t 17, .t 18], od 20 .ld1 [.t 19] [0, 1, 2], oo 21 .mv [.t 1], oo 22 .mv [.t 5], oo 23 (.ixA 1) [.t 21, .t 22], od 24 .ld1 [.t 23] [4, 5, 6], oo 25 (.bin .neq) [.t 20, .t 24]]) (.cond (.t 25) (.seq (.ops 0 [oo 4 .mv [(.c (.lit (.bool false)))]]) .ret) .skip))) (.ops 0 [oo 15 .mv [.t 5], oo 16 (.bin .add) [.t 15, kk 1], oo 5 .mv [.t 16]])))))) (.seq (.ops 0 [oo 4 .mv [(.c (.lit (.bool true)))]]) .ret)))), [.t 4]⟩
theorem dk_61 : callable Tryz.prog 61 = true ∧ ∃ bx, Comp Tryz.prog bx gtab 61 d_61.nt d_61.c d_61.rs := ⟨kr, allbx, ⟨⟨Tryz.f61, _, Tryz.func61, rfl, rfl, kr, kr⟩⟩⟩
def d_62 : Fd := ⟨23, (.seq (.ops 0 [oo 2 .boxE [.t 0], oo 3 .boxE [.t 1], oo 4 .mv [(.c (.lit (.pointer none)))], oo 5 .mv [kk 0]]) (.seq (.seq (.ops 0 [oo 8 (.ldA 3) [.t 2], oo 9 (.call 27) [.t 8], oo 6 .mv [.t 9]]) (.seq (.ops 0 [oo 10 .mv [.t 6], oo 11 (.bin .neq) [.t 10, kk 0]]) (.cond (.t 11) (.seq (.ops 0 [oo 12 .mv [.t 6], oo 4 .mv [(.c (.lit (.pointer none)))], oo 5 .mv [.t 12]]) .ret) .skip))) (.seq (.seq (.ops 0 [oo 13 (.ldA 12) [.t 3], oo 14 (.call 29) [.t 13], oo 7 .mv [.t 14]]) (.seq (.ops 0 [oo 15 .mv [.t 7], oo 16 (.bin .neq) [.t 15, kk 0]]) (.cond (.t 16) (.seq (.ops 0 [oo 17 .mv [.t 7], oo 4 .mv [(.c (.lit (.pointer none)))], oo 5 .mv [.t 17]]) .ret) .skip))) (.seq (.ops 0 [oo 18 (.ldA 3) [.t 2], oo 19 (.ldA 12) [.t 3], oo 20 (.call 83) [.t 18, .t 19], oo 21 (.ext 0) [.t 20], oo 22 (.ext 1) [.t 20], oo 4 .mv [.t 21], oo 5 .mv [.t 22]]) .ret)))), [.t 4, .t 5]⟩
theorem dk_62 : callable Tryz.prog 62 = true ∧ ∃ bx, Comp Tryz.prog bx gtab 62 d_62.nt d_62.c d_62.rs := ⟨kr, allbx, ⟨⟨Tryz.f62, _, Tryz.func62, rfl, rfl, kr, kr⟩⟩⟩
def d_150 : Fd := ⟨21, (.seq (.ops 0 [oo 2 .mv [(.c (.lit (.bool false)))]]) (.seq (.seq (.ops 0 [oo 4 .mv [.t 0], oo 5 .len [.t 4], oo 6 (.bin .sub) [.t 5, kk 1], oo 3 .mv [.t 6]]) (.block 0 (.loop (.seq (.seq (.ops 0 [oo 7 .mv [.t 3], oo 8 (.bin .gtr) [.t 7, kk 0]]) (.cond (.t 8) .skip (.exit 0))) (.seq (.block 1 (.seq (.ops 0 [oo 11 .mv [.t 0], oo 12 .mv [.t 3], oo 13 (.ixA 1) [.t 11, .t 12], od 14 .ld1 [.t 13] [0, 1, 2], oo 15 .mv [.t 0], oo 16 .mv [.t 3], oo 17 (.bin .sub) [.t 16, kk 1], oo 18 (.ixA 1) [.t 15, .t 17], od 19 .ld1 [.t 18] [4, 5, 6, 7], oo 20 (.call 205) [.t 14, .t 19]]) (.cond (.t 20) (.seq (.ops 0 [oo 2 .mv [(.c (.lit (.bool false)))]]) .ret) .skip))) (.ops 0 [oo 9 .mv [.t 3], oo 10 (.bin .sub) [.t 9, kk 1], oo 3 .mv [.t 10]])))))) (.seq (.ops 0 [oo 2 .mv [(.c (.lit (.bool true)))]]) .ret))), [.t 2]⟩
theorem dk_150 : callable Tryz.prog 150 = true ∧ ∃ bx, Comp Tryz.prog bx gtab 150 d_150.nt d_150.c d_150.rs := ⟨kr, allbx, ⟨⟨Tryz.f150, _, Tryz.func150, rfl, rfl, kr, kr⟩⟩⟩
def d_355 : Fd := ⟨19, (.seq (.ops 2 [oo 3 (.box 242) [.t 1], oo 4 .mv [kk 0]]) (.seq (.seq (.ops 0 [oo 6 .mv [.t 0], oo 7 .len [.t 6], oo 8 .mv [kk 0]]) (.block 0 (.loop (.seq (.ops 0 [oo 9 (.bin .lss) [.t 8, .t 7]]) (.seq (.cond (.t 9) .skip (.exit 0)) (.seq (.block 1 (.seq (.ops 0 [oo 10 .mv [.t 8], oo 5 .mv [.t 10]]) (.seq (.ops 0 [od 11 (.ldA 2) [.t 3] [], oo 12 .mv [.t 0], oo 13 .mv [.t 5], oo 14 (.ixA 2) [.t 12, .t 13], od 15 (.ldA 2) [.t 14] [1, 2, 3], oo 16 (.eqP [(0, 0), (1, 0)] false) [.t 11, .t 15]]) (.cond (.t 16) (.seq (.ops 0 [oo 17 .mv [.t 5], oo 4 .mv [.t 17]]) .ret) .skip)))) (.ops 0 [oo 18 (.bin .add) [.t 8, kk 1], oo 8 .mv [.t 18]]))))))) (.seq (.ops 0 [oo 4 .mv [kk (-1)]]) .ret))), [.t 4]⟩
theorem dk_355 : callable Tryz.prog 355 = true ∧ ∃ bx, Comp Tryz.prog bx gtab 355 d_355.nt d_355.c d_355.rs := ⟨kr, (fun n => !([1000003].contains n)), ⟨⟨Tryz.f355, _, Tryz.func355, rfl, rfl, kr, kr⟩⟩⟩
def d_218 : Fd := ⟨19, (.seq (.ops 0 [oo 4 .mv [kk 0]]) (.seq (.seq (.ops 0 [oo 6 .mv [.t 0], oo 7 .len [.t 6], oo 8 .mv [kk 0]]) (.block 0 (.loop (.seq (.ops 0 [oo 9 (.bin .lss) [.t 8, .t 7]]) (.seq (.cond (.t 9) .skip (.exit 0)) (.seq (.block 1 (.seq (.ops 0 [oo 10 .mv [.t 8], oo 5 .mv [.t 10]]) (.seq (.ops 0 [oo 11 .mv [.t 1], oo 12 .mv [.t 0], oo 13 .mv [.t 5], oo 14 (.ixA 1) [.t 12, .t 13], oo 15 .ld1 [.t 14], oo 16 (.bin .eql) [.t 11, .t 15]]) (.cond (.t 16) (.seq (.ops 0 [oo 17 .mv [.t 5], oo 4 .mv [.t 17]]) .ret) .skip)))) (.ops 0 [oo 18 (.bin .add) [.t 8, kk 1], oo 8 .mv [.t 18]]))))))) (.seq (.ops 0 [oo 4 .mv [kk (-1)]]) .ret))), [.t 4]⟩
theorem dk_218 : callable Tryz.prog 218 = true ∧ ∃ bx, Comp Tryz.prog bx gtab 218 d_218.nt d_218.c d_218.rs := ⟨kr, allbx, ⟨⟨Tryz.f218, _, Tryz.func218, rfl, rfl, kr, kr⟩⟩⟩
def d_258 : Fd := ⟨19, (.seq (.ops 0 [oo 4 .mv [kk 0]]) (.seq (.seq (.ops 0 [oo 6 .mv [.t 0], oo 7 .len [.t 6], oo 8 .mv [kk 0]]) (.block 0 (.loop (.seq (.ops 0 [oo 9 (.bin .lss) [.t 8, .t 7]]) (.seq (.cond (.t 9) .skip (.exit 0)) (.seq (.block 1 (.seq (.ops 0 [oo 10 .mv [.t 8], oo 5 .mv [.t 10]]) (.seq (.ops 0 [oo 11 .mv [.t 1], oo 12 .mv [.t 0], oo 13 .mv [.t 5], oo 14 (.ixA 5) [.t 12, .t 13], oo 15 (.ldA 5) [.t 14], oo 16 .callv [.t 11, .t 15]]) (.cond (.t 16) (.seq (.ops 0 [oo 17 .mv [.t 5], oo 4 .mv [.t 17]]) .ret) .skip)))) (.ops 0 [oo 18 (.bin .add) [.t 8, kk 1], oo 8 .mv [.t 18]]))))))) (.seq (.ops 0 [oo 4 .mv [kk (-1)]]) .ret))), [.t 4]⟩
theorem dk_258 : callable Tryz.prog 258 = true ∧ ∃ bx, Comp Tryz.prog bx gtab 258 d_258.nt d_258.c d_258.rs := ⟨kr, allbx, ⟨⟨Tryz.f258, _, Tryz.func258, rfl, rfl, kr, kr⟩⟩⟩
def d_29 : Fd := ⟨14, (.seq (.ops 0 [oo 1 .boxE [.t 0], oo 2 .mv [kk 0]]) (.seq (.seq (.ops 0 [oo 4 (.fldA 0) [.t 1], oo 5 (.ldA 10) [.t 4], oo 6 (.call 75) [.t 5], oo 3 .mv [.t 6]]) (.seq (.ops 0 [oo 7 .mv [.t 3], oo 8 (.bin .neq) [.t 7, kk 0]]) (.cond (.t 8) (.seq (.ops 0 [oo 9 .mv [.t 3], oo 2 .mv [.t 9]]) .ret) .skip))) (.seq (.seq (.ops 0 [oo 10 (.fldA 10) [.t 1], oo 11 .ld1 [.t 10], oo 12 (.call 76) [.t 11, kk 0, kk 4608], oo 13 (.un .not) [.t 12]]) (.cond (.t 13) (.seq (.ops 0 [oo 2 .mv [kk 1]]) .ret) .skip)) (.seq (.ops 0 [oo 2 .mv [kk 0]]) .ret)))), [.t 2]⟩
theorem dk_29 : callable Tryz.prog 29 = true ∧ ∃ bx, Comp Tryz.prog bx gtab 29 d_29.nt d_29.c d_29.rs := ⟨kr, allbx, ⟨⟨Tryz.f29, _, Tryz.func29, rfl, rfl, kr, kr⟩⟩⟩
def d_213 : Fd := ⟨21, (.seq (.ops 2 [oo 3 (.box 114) [.t 0], oo 4 .mv [(.c (.lit (.bool false)))]]) (.seq (.ops 0 [od 5 .ld1 [.t 1] [], oo 6 .nilck [.t 5], oo 7 (.fldA 15) [.t 6], od 8 .ld1 [.t 7] [0, 1, 2], od 9 .ld1 [.t 2] [], oo 10 (.bin .add) [.t 9, kk 1], oo 11 (.ixA 1) [.t 8, .t 10], od 12 .ld1 [.t 11] [0, 1, 2, 3, 4, 5, 6], oo 13 (.fldA 4) [.t 3], od 14 .ld1 [.t 13] [8], oo 15 (.ixA 1) [.t 12, .t 14], oo 16 .ld1 [.t 15], oo 17 .nilck [.t 16], oo 18 (.fldA 7) [.t 17], oo 19 .ld1 [.t 18], oo 20 (.un .not) [.t 19], oo 4 .mv [.t 20]]) .ret)), [.t 4]⟩
theorem dk_213 : callable Tryz.prog 213 = true ∧ ∃ bx, Comp Tryz.prog bx gtab 213 d_213.nt d_213.c d_213.rs := ⟨kr, (fun n => !([1000003].contains n)), ⟨⟨Tryz.f213, _, Tryz.func213, rfl, rfl, kr, kr⟩⟩⟩
def d_76 : Fd := ⟨15, (.seq (.ops 0 [oo 6 .mv [(.c (.lit (.bool false)))]]) (.seq (.ops 0 [oo 7 .mv [.t 0], oo 8 .mv [.t 1], oo 9 (.bin .geq) [.t 7, .t 8], oo 10 .mv [.t 9], og 11 10 true .mv [.t 0], og 12 10 true .mv [.t 2], og 13 10 true (.bin .leq) [.t 11, .t 12], oo 14 .pick [.t 10, .t 13, (.c (.lit (.bool false)))], oo 6 .mv [.t 14]]) .ret)), [.t 6]⟩
theorem dk_76 : callable Tryz.prog 76 = true ∧ ∃ bx, Comp Tryz.prog bx gtab 76 d_76.nt d_76.c d_76.rs := ⟨kr, allbx, ⟨⟨Tryz.f76, _, Tryz.func76, rfl, rfl, kr, kr⟩⟩⟩
def d_135 : Fd := ⟨8, (.seq (.ops 0 [oo 2 .mv [(.c (.sl 0 [] .exact))]]) (.seq (.seq (.ops 0 [oo 3 .mv [.t 0], oo 4 (.eqN false) [.t 3]]) (.cond (.t 4) (.seq (.ops 0 [oo 2 .mv [(.c (.sl 0 [] .exact))]]) .ret) .skip)) (.seq (.ops 4 [oo 5 (.mkslB 3 0 1 [] []) [], oo 6 .mv [.t 0], oo 7 (.appM 3 1 8) [.t 5, .t 6], oo 2 .mv [.t 7]]) .ret))), [.t 2]⟩
theorem dk_135 : callable Tryz.prog 135 = true ∧ ∃ bx, Comp Tryz.prog bx gtab 135 d_135.nt d_135.c d_135.rs := ⟨kr, allbx, ⟨⟨Tryz.f135, _, Tryz.func135, rfl, rfl, kr, kr⟩⟩⟩
def d_229 : Fd := ⟨11, (.seq (.ops 0 [oo 3 .mv [.t 0], oo 4 .len [.t 3], oo 2 .mv [.t 4]]) (.ops 0 [oo 5 .mv [.t 0], oo 6 .mv [.t 2], oo 7 .mv [.t 2], oo 8 (.cvt .u64) [.t 7], oo 9 (.call 225) [.t 8], oo 10 (.call 280) [.t 5, kk 0, .t 6, .t 9]])), []⟩
theorem dk_229 : callable Tryz.prog 229 = true ∧ ∃ bx, Comp Tryz.prog bx gtab 229 d_229.nt d_229.c d_229.rs := ⟨kr, allbx, ⟨⟨Tryz.f229, _, Tryz.func229, rfl, rfl, kr, kr⟩⟩⟩
def d_253 : Fd := ⟨8, (.seq (.ops 2 [oo 2 (.box 152) [.t 0], oo 3 .mv [(.c (.lit (.bool false)))]]) (.seq (.ops 0 [oo 4 (.fldA 0) [.t 2], oo 5 .ld1 [.t 4], oo 6 .ld1 [.t 1], oo 7 (.bin .eql) [.t 5, .t 6], oo 3 .mv [.t 7]]) .ret)), [.t 3]⟩
theorem dk_253 : callable Tryz.prog 253 = true ∧ ∃ bx, Comp Tryz.prog bx gtab 253 d_253.nt d_253.c d_253.rs := ⟨kr, (fun n => !([1000002].contains n)), ⟨⟨Tryz.f253, _, Tryz.func253, rfl, rfl, kr, kr⟩⟩⟩
def d_188 : Fd := ⟨9, (.seq (.ops 0 [oo 4 .mv [(.c (.lit (.bool false)))]]) (.seq (.ops 0 [oo 5 .mv [.t 0], oo 6 .mv [.t 1], oo 7 (.call 232) [.t 5, .t 6], oo 8 (.bin .geq) [.t 7, kk 0], oo 4 .mv [.t 8]]) .ret)), [.t 4]⟩
theorem dk_188 : callable Tryz.prog 188 = true ∧ ∃ bx, Comp Tryz.prog bx gtab 188 d_188.nt d_188.c d_188.rs := ⟨kr, allbx, ⟨⟨Tryz.f188, _, Tryz.func188, rfl, rfl, kr, kr⟩⟩⟩
def d_145 : Fd := ⟨6, (.seq (.ops 0 [oo 1 .boxE [.t 0], oo 2 .mv [(.c (.lit (.bool false)))]]) (.seq (.ops 0 [oo 3 (.ldA 3) [.t 1], oo 4 (.call 146) [.t 3], oo 5 (.bin .eql) [.t 4, kk 0], oo 2 .mv [.t 5]]) .ret)), [.t 2]⟩
theorem dk_145 : callable Tryz.prog 145 = true ∧ ∃ bx, Comp Tryz.prog bx gtab 145 d_145.nt d_145.c d_145.rs := ⟨kr, allbx, ⟨⟨Tryz.f145, _, Tryz.func145, rfl, rfl, kr, kr⟩⟩⟩
def d_152 : Fd := ⟨4, (.seq (.ops 0 [oo 1 .boxE [.t 0], oo 2 .mv [(.c (.lit .nilFunc))]]) (.seq (.ops 0 [oo 3 (.mkfn 206) [.t 1], oo 2 .mv [.t 3]]) .ret)), [.t 2]⟩
theorem dk_152 : callable Tryz.prog 152 = true ∧ ∃ bx, Comp Tryz.prog bx gtab 152 d_152.nt d_152.c d_152.rs := ⟨kr, allbx, ⟨⟨Tryz.f152, _, Tryz.func152, rfl, rfl, kr, kr⟩⟩⟩
end Go.Proofs.YtdefefeifcdogaaGreat
namespace Go.Proofs.YtdefefeifcdogaaGreat
open Go.RowKit
set_option maxRecDepth 100000

abbrev c_slices_Clone_int_int_b_p1 : VC := (.seq (.ops 0 [oo 2 .mv [(.c (.sl 0 [] .exact))]]) .ret)
abbrev c_slices_Clone_int_int_b_p2 : VC := (.seq (.ops 4 [oo 5 (.mksl 0 1 [] []) [], oo 6 .mv [.t 0], oo 7 (.appB 3 1 8) [.t 5, .t 6], oo 2 .mv [.t 7]]) .ret)
abbrev c_slices_Clone_int_int_b_p3 : VC := (.seq (.seq (.ops 0 [oo 3 .mv [.t 0], oo 4 (.eqN false) [.t 3]]) (.cond (.t 4) c_slices_Clone_int_int_b_p1 .skip)) c_slices_Clone_int_int_b_p2)
def c_slices_Clone_int_int_b : VC := (.seq (.ops 0 [oo 2 .mv [(.c (.sl 0 [] .exact))]]) c_slices_Clone_int_int_b_p3)
theorem k_slices_Clone_int_int_b : Comp Tryz.prog (fun n => [7].contains n) gtab 135 8 c_slices_Clone_int_int_b [.t 2] := ⟨⟨Tryz.f135, _, Tryz.func135, rfl, rfl, kr, kr⟩⟩
end Go.Proofs.YtdefefeifcdogaaGreat
namespace Go.Proofs.YtdefefeifcdogaaGreat
open Go.RowKit
set_option linter.unusedSimpArgs false
set_option linter.unusedVariables false

section
variable {P : Program} {G : Ground}
theorem x_appBr {base i : Nat} {d : Option Nat} {e : TypeId} {size bytes : Nat} {x y : Opd} {l : List VI} {s : St} {K : St → Prop} {j : Nat} {ys : List V} (hx : s.ev x = .sl 0 [] .exact) (hy : rdS s.m size (s.ev y) = some (j, ys)) (h3 : j * bytes ≤ 140737488355328) (h4 : j ≤ maxLen)
    (h : goR P G base (some (if j = 0 then ⟨putT s.t d (.sl 0 [] .exact), s.m⟩ else ⟨putT s.t d (.bsl (base + i) 0 j j), s.m.put (base + i) (.box ys e)⟩)) l (i + 1) K) : vrun P G base i (⟨d, none, .appB e size bytes, [x, y], none⟩ :: l) s K := by
  rw [vrun]
  unfold vstep VI.on
  simp only [if_true, List.map_cons, List.map_nil, hx, sem, hy]
  refine ⟨by simp, by rw [Nat.zero_add]; exact h3, by rw [Nat.zero_add]; exact h4, trivial, ?_⟩
  have hk := goR_vrun l (i + 1) _ h
  split
  · rename_i h0; rw [if_pos h0] at hk; exact hk
  · rename_i h0; rw [if_neg h0] at hk; rw [Nat.zero_add, List.nil_append]; exact hk
theorem x_eqNr {base i : Nat} {d : Option Nat} {neg : Bool} {x : Opd} {l : List VI} {s : St} {K : St → Prop} {size n : Nat} {xs : List V} (hx : rdS s.m size (s.ev x) = some (n, xs)) (h : ∀ b, (n ≠ 0 → 0 < size → b = neg) → (b = neg ∨ n = 0 ∨ size = 0) → goR P G base (some ⟨putT s.t d (vbool b), s.m⟩) l (i + 1) K) :
    vrun P G base i (⟨d, none, .eqN neg, [x], none⟩ :: l) s K := by
  rw [vrun]
  unfold vstep VI.on
  simp only [if_true, List.map_cons, List.map_nil]
  generalize s.ev x = y at hx
  unfold rdS at hx
  split at hx
  · split at hx
    · rename_i j ys k hl
      injection hx with hx
      injection hx with hx1 hx2
      subst hx1; subst hx2
      rw [sem]
      intro b hb
      refine goR_vrun l (i + 1) _ (h b (fun h1 h2 => hb fun e => ?_) ?_)
      · subst e
        have h9 := Nat.mul_pos (Nat.pos_of_ne_zero h1) h2
        simp at hl; omega
      · by_cases e : ys = []
        · subst e
          have hl : (0 : Nat) = j * size := hl
          rcases Nat.mul_eq_zero.1 hl.symm with h9 | h9
          · exact .inr (.inl h9)
          · exact .inr (.inr h9)
        · exact .inl (hb e)
    · cases hx
  · rw [sem]
    exact goR_vrun l (i + 1) _ (h neg (fun _ _ => rfl) (.inl rfl))
  · rw [sem]
    exact goR_vrun l (i + 1) _ (h neg (fun _ _ => rfl) (.inl rfl))
  · cases hx
end

theorem clone_cln (m : Mm) (y : V) (n : Nat) (xs : List V) (hr : rdS m 1 y = some (n, xs)) (hc : V.clean xs = true) (hn : n ≤ 1000000) : SFn Tryz.prog Gd 135 [y] m (BPost n xs 3 m) := by
  refine SFn.of_vxS k_slices_Clone_int_int_b (by simp) ?_
  unfold c_slices_Clone_int_int_b
  have hlen : n = 0 → xs = [] := fun e => by
    subst e
    unfold rdS at hr
    split at hr
    · split at hr
      · rename_i hl; cases hr; simpa using hl
      · cases hr
    · split at hr
      · split at hr
        · cases hr; simp
        · cases hr
      · cases hr
    · split at hr
      · split at hr
        · cases hr; simp
        · cases hr
      · cases hr
    · cases hr
  repeat' (with_reducible first | refine x_ops ?_ | refine wk ?_ | ((first | refine gd1 ?_ ?_ | refine gd2 ?_ ?_ | refine gd3 ?_ ?_) <;> (first | exact @False.elim _ | intro hc)))
  refine x_eqNr (size := 1) (n := n) (xs := xs) (by ((refine ve ?_; try exact True.intro)); exact hr) ?_
  intro b h1 h2
  cases b
  · repeat' (with_reducible first | refine x_ops ?_ | refine wk ?_ | ((first | refine gd1 ?_ ?_ | refine gd2 ?_ ?_ | refine gd3 ?_ ?_) <;> (first | exact @False.elim _ | intro hc)))
    refine x_appBr (j := n) (ys := xs) vw (by ((refine ve ?_; try exact True.intro)); exact hr) (by omega) (by unfold Go.maxLen; omega) ?_
    by_cases h0 : n = 0
    · rw [if_pos h0]
      repeat' (with_reducible first | refine x_ops ?_ | refine wk ?_ | ((first | refine gd1 ?_ ?_ | refine gd2 ?_ ?_ | refine gd3 ?_ ?_) <;> (first | exact @False.elim _ | intro hc)))
      exact finS_ret vv ⟨fun _ _ => rfl, .inl ⟨by omega, rfl⟩⟩
    · rw [if_neg h0]
      repeat' (with_reducible first | refine x_ops ?_ | refine wk ?_ | ((first | refine gd1 ?_ ?_ | refine gd2 ?_ ?_ | refine gd3 ?_ ?_) <;> (first | exact @False.elim _ | intro hc)))
      refine finS_ret vv ⟨fun q hq => ?_, .inr ⟨h0, hc, _, ?_, rfl, ?_⟩⟩
      · exact put_other _ _ (by omega)
      · omega
      · exact put_same _ _ _
  · have h0 : n = 0 := by
      rcases h2 with h2 | h2 | h2
      · cases h2
      · exact h2
      · cases h2
    repeat' (with_reducible first | refine x_ops ?_ | refine wk ?_ | ((first | refine gd1 ?_ ?_ | refine gd2 ?_ ?_ | refine gd3 ?_ ?_) <;> (first | exact @False.elim _ | intro hc)))
    exact finS_ret vv ⟨fun _ _ => rfl, .inl ⟨by omega, rfl⟩⟩
end Go.Proofs.YtdefefeifcdogaaGreat
namespace Go.Proofs.YtdefefeifcdogaaGreat
open Go.RowKit

theorem TabOk.rounds {P : Program} {G : Ground} {T : Nat → Option Fe} (hT : TabOk P G T) (bx : Nat → Bool) : TabOk P G (fun f => bif Nat.beq f yk then some (.rnd (cvCode P bx G.tab)) else T f) := by
  have key : ∀ {f x}, (bif Nat.beq f yk then some (.rnd (cvCode P bx G.tab)) else T f) = some x → x = .rnd (cvCode P bx G.tab) ∨ T f = some x := fun {f x} h => by
    cases hb : Nat.beq f yk with
    | true => rw [hb, cond_true] at h; cases h; exact .inl rfl
    | false => rw [hb, cond_false] at h; exact .inr h
  constructor
  · intro f x hx h1 h2
    rcases key hx with rfl | hx
    · exact absurd rfl (h1 _)
    · exact hT.call f x hx h1 h2
  · intro f C hx
    rcases key hx with e | hx
    · cases e; exact ⟨bx, fun _ _ => rfl⟩
    · exact hT.rnd f C hx
  · intro f d hx
    rcases key hx with e | hx
    · cases e
    · exact hT.code f d hx
  · intro f size e hx
    rcases key hx with e | hx
    · cases e
    · exact hT.cln f size e hx
  · intro f g hx
    rcases key hx with e | hx
    · cases e
    · exact hT.prim f g hx
/-- The functions' texts. -/
def wL : List (Nat × Fd) := [(149, d_149), (287, d_287), (218, d_218), (211, d_211), (182, d_182), (205, d_205), (285, d_285), (286, d_286), (342, d_342), (150, d_150), (310, d_310), (207, d_207), (75, d_75), (142, d_142), (312, d_312), (289, d_289), (154, d_154), (229, d_229), (225, d_225), (271, d_271), (280, d_280), (326, d_326), (352, d_352), (343, d_343), (153, d_153), (208, d_208), (78, d_78), (71, d_71), (212, d_212), (258, d_258), (147, d_147), (209, d_209), (210, d_210), (254, d_254), (234, d_234), (255, d_255), (311, d_311), (256, d_256), (257, d_257), (284, d_284), (334, d_334), (313, d_313), (290, d_290), (213, d_213), (185, d_185), (228, d_228), (188, d_188), (232, d_232), (253, d_253), (125, d_125), (186, d_186), (152, d_152), (206, d_206), (72, d_72), (143, d_143), (144, d_144), (203, d_203), (145, d_145), (146, d_146), (121, d_121), (151, d_151), (354, d_354), (60, d_60), (62, d_62), (27, d_27), (29, d_29), (76, d_76), (83, d_83), (155, d_155), (23, d_23), (19, d_19), (59, d_59), (336, d_336), (344, d_344), (345, d_345), (355, d_355), (20, d_20), (63, d_63), (134, d_134), (135, d_135), (61, d_61)]
theorem wL_ok : Okl Tryz.prog gtab wL := ⟨dk_149, dk_287, dk_218, dk_211, dk_182, dk_205, dk_285, dk_286, dk_342, dk_150, dk_310, dk_207, dk_75, dk_142, dk_312, dk_289, dk_154, dk_229, dk_225, dk_271, dk_280, dk_326, dk_352, dk_343, dk_153, dk_208, dk_78, dk_71, dk_212, dk_258, dk_147, dk_209, dk_210, dk_254, dk_234, dk_255, dk_311, dk_256, dk_257, dk_284, dk_334, dk_313, dk_290, dk_213, dk_185, dk_228, dk_188, dk_232, dk_253, dk_125, dk_186, dk_152, dk_206, dk_72, dk_143, dk_144, dk_203, dk_145, dk_146, dk_121, dk_151, dk_354, dk_60, dk_62, dk_27, dk_29, dk_76, dk_83, dk_155, dk_23, dk_19, dk_59, dk_336, dk_344, dk_345, dk_355, dk_20, dk_63, dk_134, dk_135, dk_61, trivial⟩
noncomputable def tabW : Nat → Option Fe := cloned [(135, 1, 3)] (fun f => bif Nat.beq f yk then some (.rnd (cvCode Tryz.prog (fun n => !([1000095].contains n)) gtab)) else lkp wL f)
theorem tabW_ok : TabOk Tryz.prog Gd tabW := TabOk.cloned ((TabOk.of_list (P := Tryz.prog) (G := Gd) (l := wL) wL_ok).rounds _) (by
  intro p hp m y n xs h1 h2 h3
  rw [List.mem_singleton] at hp
  subst hp
  exact clone_cln m y n xs h1 h2 h3)
/-- The chapter's example. -/
def exF : Lf := ⟨⟨[⟨67, 5, false⟩, ⟨62, 5, false⟩], [1, 2, 3, 4, 5]⟩, [⟨false, false, [⟨3, false, false⟩], [[0], [-1, 3]]⟩, ⟨true, false, [⟨4, false, false⟩], [[1, 2], [-1]]⟩]⟩
def exR (b : Bool) : Rls := ⟨⟨[0, 1, 2, 3], [0, 2, 3, 4], [true, false, false, false], 12, 7, 2, 3, 4, 2, 1⟩, 0, b⟩
end Go.Proofs.YtdefefeifcdogaaGreat
namespace Go.Proofs.YtdefefeifcdogaaGreat
open Go.RowKit
/-- The example, narrowed. -/
def exN : Lf := ⟨⟨[⟨67, 5, false⟩, ⟨62, 5, false⟩], [1, 2, 3, 4, 5]⟩, [⟨false, false, [⟨3, false, false⟩], [[0], [-1]]⟩, ⟨true, false, [⟨4, false, false⟩], [[1, 2], [-1]]⟩]⟩
set_option maxRecDepth 100000 in
theorem wc1 : Fn Tryz.prog Gd 23 [exF.val, (exR false).val] (.tup [vint 4, vint 0]) := Fn.of_evX tabW_ok 400 rfl rfl (by kernel_rfl)
set_option maxRecDepth 100000 in
theorem wc2 : Fn Tryz.prog Gd 23 [exF.val, (exR true).val] (.tup [vint 2, vint 0]) := Fn.of_evX tabW_ok 400 rfl rfl (by kernel_rfl)
set_option maxRecDepth 100000 in
theorem wn1 : Fn Tryz.prog Gd 20 [exF.val, (exR true).val] (.tup [exN.val, vint 0]) := Fn.of_evV tabW_ok 400 rfl (by kernel_rfl)
end Go.Proofs.YtdefefeifcdogaaGreat
namespace Go.Proofs.YtdefefeifcdogaaGreat
open Go.RowKit
set_option maxRecDepth 100000

abbrev c_theorbolaw10_works_p1 : VC := (.seq (.ops 0 [oo 29 .mv [.t 2], oo 30 (.bin .eql) [.t 29, kk 4], oo 31 .mv [.t 30], og 32 31 true .mv [.t 4], og 33 31 true (.bin .eql) [.t 32, kk 2], oo 34 .pick [.t 31, .t 33, (.c (.lit (.bool false)))], oo 35 .mv [.t 34], og 36 35 true .mv [.t 3], og 37 35 true (.bin .eql) [.t 36, kk 0], oo 38 .pick [.t 35, .t 37, (.c (.lit (.bool false)))], oo 39 .mv [.t 38], og 40 39 true .mv [.t 5], og 41 39 true (.bin .eql) [.t 40, kk 0], oo 42 .pick [.t 39, .t 41, (.c (.lit (.bool false)))], oo 43 .mv [.t 42], og 44 43 true .mv [.t 7], og 45 43 true (.bin .eql) [.t 44, kk 0], oo 46 .pick [.t 43, .t 45, (.c (.lit (.bool false)))], oo 47 .mv [.t 46], og 48 47 true (.fldA 2) [.t 6], og 49 47 true .ld1 [.t 48], og 50 47 true .len [.t 49], og 51 47 true (.bin .eql) [.t 50, kk 2], oo 52 .pick [.t 47, .t 51, (.c (.lit (.bool false)))], oo 53 .mv [.t 52], og 54 53 true (.fldA 2) [.t 6], og 55 53 true .ld1 [.t 54], og 56 53 true (.ixA 4) [.t 55, kk 0], og 57 53 true (.fldA 3) [.t 56], og 58 53 true .ld1 [.t 57], og 59 53 true .len [.t 58], og 60 53 true (.bin .eql) [.t 59, kk 2], oo 61 .pick [.t 53, .t 60, (.c (.lit (.bool false)))], oo 62 .mv [.t 61], og 63 62 true (.fldA 2) [.t 6], og 64 62 true .ld1 [.t 63], og 65 62 true (.ixA 4) [.t 64, kk 0], og 66 62 true (.fldA 3) [.t 65], og 67 62 true .ld1 [.t 66], og 68 62 true (.ixA 1) [.t 67, kk 1], og 69 62 true .ld1 [.t 68], og 70 62 true (.mksl 1 1 [li 0] [(0, 1)]) [kk (-1)], og 71 62 true (.call 61) [.t 69, .t 70], oo 72 .pick [.t 62, .t 71, (.c (.lit (.bool false)))], oo 0 .mv [.t 72]]) .ret)
abbrev c_theorbolaw10_works_p2 : VC := (.seq (.ops 9 [od 24 (.call 60) [] [], od 25 (.ldA 12) [.t 1] [], oo 26 (.callL 20 [6]) [.t 24, .t 25], oo 23 .mv [.t 26], oo 27 (.ext 0) [.t 23], oo 28 (.ext 1) [.t 23], ⟨(some 6), none, (.alloc 28 [(.sl 0 [] .exact), (.sl 0 [] .exact), (.sl 0 [] .exact)]), [], (some [])⟩, ⟨none, none, (.st 3), [.t 6, .t 27], none⟩, oo 7 .mv [.t 28]]) c_theorbolaw10_works_p1)
abbrev c_theorbolaw10_works_p3 : VC := (.seq (.ops 0 [od 18 (.call 60) [] [], od 19 (.ldA 12) [.t 1] [], oo 20 (.call 23) [.t 18, .t 19], oo 17 .mv [.t 20], oo 21 (.ext 0) [.t 17], oo 22 (.ext 1) [.t 17], oo 4 .mv [.t 21], oo 5 .mv [.t 22]]) c_theorbolaw10_works_p2)
abbrev c_theorbolaw10_works_p4 : VC := (.seq (.ops 0 [oo 16 (.fldA 11) [.t 1], ⟨none, none, (.st 1), [.t 16, (.c (.lit (.bool true)))], none⟩]) c_theorbolaw10_works_p3)
abbrev c_theorbolaw10_works_p5 : VC := (.seq (.ops 0 [od 11 (.call 60) [] [], od 12 (.ldA 12) [.t 1] [], oo 13 (.call 23) [.t 11, .t 12], oo 10 .mv [.t 13], oo 14 (.ext 0) [.t 10], oo 15 (.ext 1) [.t 10], oo 2 .mv [.t 14], oo 3 .mv [.t 15]]) c_theorbolaw10_works_p4)
abbrev c_theorbolaw10_works_p6 : VC := (.seq (.ops 4 [oo 8 (.call 59) [], ⟨(some 9), none, (.build [(.sl 0 [] .exact), (.sl 0 [] .exact), (.sl 0 [] .exact), li 0, li 0, li 0, li 0, li 0, li 0, li 0, li 0, (.lit (.bool false))] [(0, 10)]), [.t 8], none⟩, ⟨(some 1), none, (.alloc 33 [(.sl 0 [] .exact), (.sl 0 [] .exact), (.sl 0 [] .exact), li 0, li 0, li 0, li 0, li 0, li 0, li 0, li 0, (.lit (.bool false))]), [], none⟩, ⟨none, none, (.st 12), [.t 1, .t 9], none⟩]) c_theorbolaw10_works_p5)
def c_theorbolaw10_works : VC := (.seq (.ops 0 [oo 0 .mv [(.c (.lit (.bool false)))]]) c_theorbolaw10_works_p6)
theorem k_theorbolaw10_works : Comp Tryz.prog nobx gtab 19 73 c_theorbolaw10_works [.t 0] := ⟨⟨Tryz.f19, _, Tryz.func19, rfl, rfl, kr, kr⟩⟩
end Go.Proofs.YtdefefeifcdogaaGreat
namespace Go.Proofs.YtdefefeifcdogaaGreat
open Go.RowKit
set_option linter.unusedSimpArgs false
set_option linter.unusedVariables false

def hdV : V := .agg [.sl 4 [vint 0, vint 1, vint 2, vint 3] .no, .sl 4 [vint 0, vint 2, vint 3, vint 4] .no, .sl 4 [vbool true, vbool false, vbool false, vbool false] .no, vint 12, vint 7, vint 2, vint 3, vint 4, vint 2, vint 1]
def rlV (b : Bool) : V := .agg [.sl 4 [vint 0, vint 1, vint 2, vint 3] .no, .sl 4 [vint 0, vint 2, vint 3, vint 4] .no, .sl 4 [vbool true, vbool false, vbool false, vbool false] .no, vint 12, vint 7, vint 2, vint 3, vint 4, vint 2, vint 1, vint 0, vbool b]
def exNV : V := .agg [.sl 2 [vint 67, vint 5, vbool false, vint 62, vint 5, vbool false] .no, .sl 5 [vint 1, vint 2, vint 3, vint 4, vint 5] .no, .sl 2 [vbool false, vbool false, .sl 1 [vint 3, vbool false, vbool false] .no, .sl 2 [.sl 1 [vint 0] .no, .sl 1 [vint (-1)] .no] .no, vbool true, vbool false, .sl 1 [vint 4, vbool false, vbool false] .no, .sl 2 [.sl 2 [vint 1, vint 2] .no, .sl 1 [vint (-1)] .no] .no] .no]
attribute [go_sem] hdV rlV exNV
theorem ex_fn : Fn Tryz.prog Gd 60 [] exF.val := Fn.of_evV tabW_ok 400 rfl (by kernel_rfl)
theorem std_fn : Fn Tryz.prog Gd 59 [] hdV := Fn.of_evV tabW_ok 400 rfl (by kernel_rfl)
theorem si_fn : Fn Tryz.prog Gd 61 [.sl 1 [vint (-1)] .no, .sl 1 [vint (-1)] .no] (vbool true) := Fn.of_evX tabW_ok 400 rfl rfl (by kernel_rfl)
theorem works_fn : Fn Tryz.prog Gd 19 [] (vbool true) := by
  refine Fn.of_vx0 k_theorbolaw10_works (by simp) rfl ?_
  have E := ex_fn
  have S := std_fn
  have C1 : Fn Tryz.prog Gd 23 [exF.val, rlV false] (.tup [vint 4, vint 0]) := wc1
  have C2 : Fn Tryz.prog Gd 23 [exF.val, rlV true] (.tup [vint 2, vint 0]) := wc2
  have N1 : Fn Tryz.prog Gd 20 [exF.val, rlV true] (.tup [exNV, vint 0]) := wn1
  have I := si_fn
  have hn : V.norm exF.val = exF.val := rfl
  generalize exF.val = e at *
  unfold c_theorbolaw10_works
  repeat' (with_reducible first | refine x_ops ?_ | refine wk ?_ | (with_reducible refine xc (E) ?_) | (with_reducible refine xc (S) ?_) | (with_reducible refine xc (C1) ?_) | (with_reducible refine xc (C2) ?_) | (with_reducible refine xc (I) ?_) | ((first | refine gd1 ?_ ?_ | refine gd2 ?_ ?_ | refine gd3 ?_ ?_) <;> (first | exact @False.elim _ | intro hc)))
  refine x_callLF N1 vw ?_
  have a1 : (0 : Int) ≤ 1 := by decide
  have a2 : Int.toNat 1 = 1 := rfl
  have a3 : (1 : Int) < ((2 : Nat) : Int) := by decide
  have a4 : (0 : Int) < ((2 : Nat) : Int) := by decide
  have a5 : (1 : Int) < 2 := by decide
  have a6 : (0 : Int) < 2 := by decide
  repeat' (with_reducible first | refine x_ops ?_ | refine wk ?_ | (with_reducible refine xc (E) ?_) | (with_reducible refine xc (I) ?_) | ((first | refine gd1 ?_ ?_ | refine gd2 ?_ ?_ | refine gd3 ?_ ?_) <;> (first | exact @False.elim _ | intro hc)))
  exact finV_lit vv rfl
end Go.Proofs.YtdefefeifcdogaaGreat
namespace Go.Proofs.YtdefefeifcdogaaGreat
open Go.RowKit
set_option linter.unusedSimpArgs false
set_option linter.unusedVariables false

theorem cmb_sm {S : List Sg → List Sg → List Sg} {C : List Int → List Int → List Int} {f g : Lf} (hn : f.cols.length ≤ 400) (hl : ∀ i, i < f.cols.length → (f.cols.getD i default).ce.length ≤ 14)
    (hS : ∀ i, i < f.cols.length → (S (f.cols.getD i default).sgs (g.cols.getD i default).sgs).length ≤ 1000) (hC : ∀ i j, i < f.cols.length → j < (f.cols.getD i default).ce.length → (C ((f.cols.getD i default).ce.getD j []) ((g.cols.getD i default).ce.getD j [])).length ≤ 1000) : LfSm (cmbL S C f g) := by
  refine ⟨by rw [cmbL_len]; omega, fun i hi => ?_⟩
  rw [cmbL_len] at hi
  rw [cmbL_at S C f g hi]
  have h1 := hS i hi
  have h2 := hl i hi
  refine ⟨?_, ?_, fun j hj => ?_⟩
  · show (S _ _).length ≤ _
    omega
  · show (ceK _ _ _ _).length ≤ _
    rw [ceK_len]
    omega
  · have hj2 : j < (f.cols.getD i default).ce.length := by
      have : j < (ceK C (f.cols.getD i default).ce (g.cols.getD i default).ce (f.cols.getD i default).ce.length).length := hj
      rwa [ceK_len] at this
    show ((ceK _ _ _ _).getD j []).length ≤ _
    rw [ceK_at C _ _ hj2]
    have := hC i j hi hj2
    omega
theorem metR_sm {f g : Lf} (hf : LfSm f) (hg : LfSm g) : LfSm (metR f g).1 := by
  by_cases h : twoE f g = 0
  · have K := TwoOk.of hf hg h
    rw [metR, if_neg (by omega)]
    split
    · exact noL_sm
    · refine cmb_sm K.n (fun i hi => (K.l i hi).1) (fun i hi => ?_) fun i j hi hj => ?_
      · have := (two_bd hf hg h hi).1
        have h2 : (meetS (f.cols.getD i default).sgs (g.cols.getD i default).sgs).length ≤ (f.cols.getD i default).sgs.length := List.length_filter_le ..
        omega
      · have := ((two_bd hf hg h hi).2.2 j hj).1
        have h2 : (meetI ((f.cols.getD i default).ce.getD j []) ((g.cols.getD i default).ce.getD j [])).length ≤ ((f.cols.getD i default).ce.getD j []).length := List.length_filter_le ..
        omega
  · rw [metR, if_pos h]
    exact noL_sm
theorem joiR_sm {f g : Lf} (hf : LfSm f) (hg : LfSm g) : LfSm (joiR (mxS false) (mxI false) f g).1 := by
  by_cases h : twoE f g = 0
  · have K := TwoOk.of hf hg h
    rw [joiR, if_neg (by omega)]
    exact cmb_sm K.n (fun i hi => (K.l i hi).1) (fun i hi => Nat.le_trans (mS_len _) (by omega)) fun i j hi hj => Nat.le_trans (mI_len _) (by omega)
  · rw [joiR, if_pos h]
    exact noL_sm
theorem joinP_fn (f g : Lf) (hf : LfSm f) (hg : LfSm g) : Fn Tryz.prog Gd 51 [f.val, g.val] (.tup [(joiR (mxS false) (mxI false) f g).1.val, vint (joiR (mxS false) (mxI false) f g).2]) := by
  refine join_fn f g hf hg _ _ (fun h i hi => ?_) fun h i j hi hj => ?_
  · have T := TwoRows.of hf hg h
    have b := two_bd hf hg h hi
    exact join1_fn _ _ (T.n1 i hi).1 (T.n1 i hi).2 (by omega) (by omega) (T.s1 i hi).2 (T.s2 i hi).2
  · have T := TwoRows.of hf hg h
    have b := (two_bd hf hg h hi).2.2 j hj
    exact join2_fn _ _ (T.n2 i j hi hj).1 (T.n2 i j hi hj).2 (by omega) (by omega) (T.c1 i j hi hj).2 (T.c2 i j hi hj).2
end Go.Proofs.YtdefefeifcdogaaGreat
namespace Go.Proofs.YtdefefeifcdogaaGreat
open Go.RowKit
set_option linter.unusedSimpArgs false
set_option linter.unusedVariables false

set_option maxHeartbeats 1000000 in
theorem leafmeets_fn (W : Fn Tryz.prog Gd 19 [] (vbool true)) (f g : Lf) (hf : LfSm f) (hg : LfSm g) (S : List Sg → List Sg → List Sg) (C : List Int → List Int → List Int)
    (M1 : Fn Tryz.prog Gd 50 [f.val, g.val] (.tup [(metR f g).1.val, vint (metR f g).2]))
    (J1 : Fn Tryz.prog Gd 51 [f.val, g.val] (.tup [(joiR S C f g).1.val, vint (joiR S C f g).2]))
    (J2 : Fn Tryz.prog Gd 52 [f.val, g.val] (.tup [(joiR S C f g).1.val, vint (joiR S C f g).2]))
    (SM : Fn Tryz.prog Gd 22 [(metR f g).1.val, (metR f g).1.val] (vbool true)) (SJ : Fn Tryz.prog Gd 22 [(joiR S C f g).1.val, (joiR S C f g).1.val] (vbool true)) :
    Fn Tryz.prog Gd 12 [f.val, g.val] (vbool true) := by
  refine Fn.of_vx0 k_theorbolaw10_LeafMeets (by simp) (by rw [V.pures, pure_lf, V.pures, pure_lf]; rfl) ?_
  have A := wthn_fn f g hf hg
  have B := rwthn_fn f g hf hg
  have M := meet_fn f g hf hg
  unfold c_theorbolaw10_LeafMeets
  generalize wthR f g = w at *
  generalize metR f g = m at *
  generalize joiR S C f g = j at *
  obtain ⟨wb, we⟩ := w
  obtain ⟨⟨⟨mc, mst⟩, ml⟩, me⟩ := m
  obtain ⟨⟨⟨jc, jst⟩, jl⟩, je⟩ := j
  clear hf hg
  obtain ⟨⟨fc, fst⟩, fl⟩ := f
  obtain ⟨⟨gc, gst⟩, gl⟩ := g
  repeat' (with_reducible first | refine x_ops ?_ | refine wk ?_ | (with_reducible refine xc (A) ?_) | (with_reducible refine xc (B) ?_) | (with_reducible refine xc (M) ?_) | (with_reducible refine xc (M1) ?_) | (with_reducible refine xc (J1) ?_) | (with_reducible refine xc (J2) ?_) | (with_reducible refine xc (SM) ?_) | (with_reducible refine xc (SJ) ?_) | (with_reducible refine xc (W) ?_) | ((first | refine gd1 ?_ ?_ | refine gd2 ?_ ?_ | refine gd3 ?_ ?_) <;> (first | exact @False.elim _ | intro hc)))
  exact finV_lit vv rfl
end Go.Proofs.YtdefefeifcdogaaGreat
namespace Go.Proofs.YtdefefeifcdogaaGreat
open Go.RowKit
set_option linter.unusedSimpArgs false
set_option linter.unusedVariables false

theorem mixed_two (b : Bool) (f g : Lf) (hf : LfSm f) (hg : LfSm g) (h : twoE f g = 0) : Fn Tryz.prog Gd 69 [f.val, g.val, vbool b] (cmbL (mxS b) (mxI b) f g).val :=
  rmixed_fn b f g (TwoOk.of hf hg h) fun i hi => by
    have B := two_bd hf hg h hi
    exact ⟨⟨by omega, by omega⟩, fun j hj => by have := B.2.2 j hj; exact ⟨by omega, by omega⟩⟩
theorem rmeet_all (f g : Lf) (hf : LfSm f) (hg : LfSm g) : Fn Tryz.prog Gd 50 [f.val, g.val] (.tup [(metR f g).1.val, vint (metR f g).2]) :=
  rmeet_fn f g hf hg fun h => by
    have := mixed_two true f g hf hg h
    rw [mix_meet (TwoRows.of hf hg h)] at this
    exact this
theorem metR_ins {f g : Lf} (hf : LfSm f) (hg : LfSm g) : (metR f g).1.ins.cs.length ≤ 17592186044416 ∧ (metR f g).1.ins.st.length ≤ 17592186044416 := by
  by_cases h : twoE f g = 0
  · have K := TwoOk.of hf hg h
    have e1 := K.c
    have e2 := K.s
    rw [metR, if_neg (by omega)]
    split
    · exact ⟨Nat.zero_le _, Nat.zero_le _⟩
    · exact ⟨by show f.ins.cs.length ≤ _; omega, by show f.ins.st.length ≤ _; omega⟩
  · rw [metR, if_pos h]
    exact ⟨Nat.zero_le _, Nat.zero_le _⟩
theorem joiR_ins {S : List Sg → List Sg → List Sg} {C : List Int → List Int → List Int} {f g : Lf} (hf : LfSm f) (hg : LfSm g) : (joiR S C f g).1.ins.cs.length ≤ 17592186044416 ∧ (joiR S C f g).1.ins.st.length ≤ 17592186044416 := by
  by_cases h : twoE f g = 0
  · have K := TwoOk.of hf hg h
    have e1 := K.c
    have e2 := K.s
    rw [joiR, if_neg (by omega)]
    exact ⟨by show f.ins.cs.length ≤ _; omega, by show f.ins.st.length ≤ _; omega⟩
  · rw [joiR, if_pos h]
    exact ⟨Nat.zero_le _, Nat.zero_le _⟩
/-- The law. -/
theorem leafmeets_all (f g : Lf) (hf : LfSm f) (hg : LfSm g) : Fn Tryz.prog Gd 12 [f.val, g.val] (vbool true) :=
  leafmeets_fn works_fn f g hf hg (mxS false) (mxI false) (rmeet_all f g hf hg) (joinP_fn f g hf hg) (rjoin_fn f g hf hg _ _ fun h => mixed_two false f g hf hg h)
    (sameleaf_refl _ (metR_sm hf hg) (metR_ins hf hg).1 (metR_ins hf hg).2) (sameleaf_refl _ (joiR_sm hf hg) (joiR_ins hf hg).1 (joiR_ins hf hg).2)
end Go.Proofs.YtdefefeifcdogaaGreat
