/- Functions of the program, as code on values by numbers: printed by a program from the program that was given, and held against it here. Small functions of the hand, on values. Hands and chords, on values; what a valid hand is. Chords of the program: where a course lies, and what a right chord is, on values. What a right chord is: the program, on values. Sequences of chords: the program, on values. What every row of this seat wants: arguments of the hand's types read, and the post of a law that answers true. Small functions on fingers: reach, agree, spans' closures, searches with a function value; on values. reach, agree, spans of the program, on values. spans of the program, on values. fits of the program, on values. Fits of the reference, on values; and that both say the same. -/
import Derived.Test.YtojjdkoglhecbaaG0
import Derived.Test.YtojjdkoglhecbaaWk
import Derived.Test.YtojjdkoglhecbaaRows
import Derived.Test.YtojjdkoglhecbaaOp
import Derived.WalkKit
import Derived.ProofKit
import Derived.OpenShut
import Derived.SizedLaws
import Derived.KernelRfl
set_option linter.unusedSimpArgs false
set_option linter.unusedVariables false
namespace Go.Proofs.Ytojjdkoglhecbaa
open Go.RowKit
set_option maxRecDepth 100000

abbrev c_hand_Check_p1 : VC := (.seq (.ops 0 [oo 2 .mv [kk 60]]) .ret)
abbrev c_hand_Check_p2 : VC := (.seq (.ops 0 [oo 2 .mv [kk 60]]) .ret)
abbrev c_hand_Check_p3 : VC := (.seq (.ops 0 [oo 31 (.fldA 0) [.t 1], oo 32 .ld1 [.t 31], oo 33 .mv [.t 4], oo 34 (.ixA 1) [.t 32, .t 33], oo 35 .ld1 [.t 34], oo 36 (.bin .lss) [.t 35, kk 0], oo 37 .mv [.t 36], og 38 37 false (.fldA 0) [.t 1], ⟨(some 39), (some (37, false)), .ld1, [.t 38], (some [0, 1, 2, 3, 4, 5, 6, 7])⟩, og 40 37 false .mv [.t 4], og 41 37 false (.ixA 1) [.t 39, .t 40], ⟨(some 42), (some (37, false)), .ld1, [.t 41], (some [0, 1, 2, 3, 4, 5, 6, 7, 8, 9, 10])⟩, og 43 37 false (.fldA 1) [.t 1], ⟨(some 44), (some (37, false)), .ld1, [.t 43], (some [0, 1, 2, 3, 4, 5, 6, 12])⟩, og 45 37 false .mv [.t 4], og 46 37 false (.ixA 1) [.t 44, .t 45], ⟨(some 47), (some (37, false)), .ld1, [.t 46], (some [0, 1, 2, 3, 4, 5, 6, 12, 13, 14, 15])⟩, og 48 37 false (.bin .gtr) [.t 42, .t 47], oo 49 .pick [.t 37, (.c (.lit (.bool true))), .t 48], oo 50 .mv [.t 49], og 51 50 false (.fldA 1) [.t 1], og 52 50 false .ld1 [.t 51], og 53 50 false .mv [.t 4], og 54 50 false (.ixA 1) [.t 52, .t 53], og 55 50 false .ld1 [.t 54], og 56 50 false (.bin .gtr) [.t 55, kk 8], oo 57 .pick [.t 50, (.c (.lit (.bool true))), .t 56]]) (.cond (.t 57) c_hand_Check_p2 .skip))
abbrev c_hand_Check_p4 : VC := (.ops 0 [oo 58 (.bin .add) [.t 28, kk 1], oo 28 .mv [.t 58]])
abbrev c_hand_Check_p5 : VC := (.seq (.block 1 (.seq (.ops 0 [oo 30 .mv [.t 28], oo 4 .mv [.t 30]]) c_hand_Check_p3)) c_hand_Check_p4)
abbrev c_hand_Check_p6 : VC := (.seq (.ops 0 [oo 29 (.bin .lss) [.t 28, .t 27]]) (.seq (.cond (.t 29) .skip (.exit 0)) c_hand_Check_p5))
@[go_sem] abbrev w_hand_Check_p6 : Nat := 576460752034988052
abbrev c_hand_Check_p8 : VC := (.seq (.ops 0 [oo 2 .mv [kk 60]]) .ret)
abbrev c_hand_Check_p9 : VC := (.seq (.ops 0 [oo 2 .mv [kk 60]]) .ret)
abbrev c_hand_Check_p10 : VC := (.seq (.ops 0 [oo 97 .mv [.t 6], oo 98 (.call 63) [.t 97, kk 0, kk 1000], oo 99 (.un .not) [.t 98]]) (.cond (.t 99) c_hand_Check_p9 .skip))
abbrev c_hand_Check_p11 : VC := (.ops 0 [oo 100 (.bin .add) [.t 93, kk 1], oo 93 .mv [.t 100]])
abbrev c_hand_Check_p12 : VC := (.seq (.block 3 (.seq (.ops 0 [oo 95 (.ixA 1) [.t 91, .t 93], oo 96 .ld1 [.t 95], oo 6 .mv [.t 96]]) c_hand_Check_p10)) c_hand_Check_p11)
abbrev c_hand_Check_p13 : VC := (.seq (.ops 0 [oo 94 (.bin .lss) [.t 93, .t 92]]) (.seq (.cond (.t 94) .skip (.exit 2)) c_hand_Check_p12))
@[go_sem] abbrev w_hand_Check_p13 : Nat := 2525397680142175760794213417028
abbrev c_hand_Check_p15 : VC := (.seq (.ops 0 [oo 2 .mv [kk 0]]) .ret)
abbrev c_hand_Check_p16 : VC := (.seq (.seq (.ops 0 [oo 81 (.fldA 5) [.t 1], oo 82 .ld1 [.t 81], oo 83 (.fldA 6) [.t 1], oo 84 .ld1 [.t 83], oo 85 (.fldA 7) [.t 1], oo 86 .ld1 [.t 85], oo 87 (.fldA 8) [.t 1], oo 88 .ld1 [.t 87], oo 89 (.fldA 9) [.t 1], oo 90 .ld1 [.t 89], oo 91 (.mksl 5 1 [li 0, li 0, li 0, li 0, li 0] [(0, 1), (1, 1), (2, 1), (3, 1), (4, 1)]) [.t 82, .t 84, .t 86, .t 88, .t 90], oo 92 .len [.t 91], oo 93 .mv [kk 0]]) (.block 2 (.loop c_hand_Check_p13))) c_hand_Check_p15)
abbrev c_hand_Check_p17 : VC := (.seq (.seq (.ops 0 [oo 59 (.fldA 0) [.t 1], oo 60 .ld1 [.t 59], oo 61 (.call 64) [.t 60], oo 62 (.un .not) [.t 61], oo 63 .mv [.t 62], og 64 63 false (.fldA 1) [.t 1], og 65 63 false .ld1 [.t 64], og 66 63 false (.call 64) [.t 65], og 67 63 false (.un .not) [.t 66], oo 68 .pick [.t 63, (.c (.lit (.bool true))), .t 67], oo 69 .mv [.t 68], og 70 69 false (.fldA 3) [.t 1], og 71 69 false .ld1 [.t 70], og 72 69 false (.call 63) [.t 71, kk 1, kk 18], og 73 69 false (.un .not) [.t 72], oo 74 .pick [.t 69, (.c (.lit (.bool true))), .t 73], oo 75 .mv [.t 74], og 76 75 false (.fldA 4) [.t 1], og 77 75 false .ld1 [.t 76], og 78 75 false (.call 63) [.t 77, kk 0, kk 18], og 79 75 false (.un .not) [.t 78], oo 80 .pick [.t 75, (.c (.lit (.bool true))), .t 79]]) (.cond (.t 80) c_hand_Check_p8 .skip)) c_hand_Check_p16)
abbrev c_hand_Check_p18 : VC := (.seq (.seq (.ops 0 [oo 27 .mv [.t 3], oo 28 .mv [kk 0]]) (.block 0 (.loop c_hand_Check_p6))) c_hand_Check_p17)
abbrev c_hand_Check_p19 : VC := (.seq (.seq (.ops 0 [oo 10 .mv [.t 3], oo 11 (.call 63) [.t 10, kk 1, kk 4], oo 12 (.un .not) [.t 11], oo 13 .mv [.t 12], og 14 13 false (.fldA 1) [.t 1], og 15 13 false .ld1 [.t 14], og 16 13 false .len [.t 15], og 17 13 false .mv [.t 3], og 18 13 false (.bin .neq) [.t 16, .t 17], oo 19 .pick [.t 13, (.c (.lit (.bool true))), .t 18], oo 20 .mv [.t 19], og 21 20 false (.fldA 2) [.t 1], og 22 20 false .ld1 [.t 21], og 23 20 false .len [.t 22], og 24 20 false .mv [.t 3], og 25 20 false (.bin .neq) [.t 23, .t 24], oo 26 .pick [.t 20, (.c (.lit (.bool true))), .t 25]]) (.cond (.t 26) c_hand_Check_p1 .skip)) c_hand_Check_p18)
abbrev c_hand_Check_p20 : VC := (.seq (.ops 0 [oo 7 (.fldA 0) [.t 1], oo 8 .ld1 [.t 7], oo 9 .len [.t 8], oo 3 .mv [.t 9]]) c_hand_Check_p19)
def c_hand_Check : VC := (.seq (.ops 2 [oo 1 (.box 25) [.t 0], oo 2 .mv [kk 0]]) c_hand_Check_p20)
theorem k_hand_Check : Comp Try.prog nobx gtab 24 101 c_hand_Check [.t 2] := ⟨⟨Try.f24, _, Try.func24, rfl, rfl, kr, kr⟩⟩
abbrev c_hand_within_p1 : VC := (.seq (.ops 0 [oo 7 .mv [.t 0], oo 8 .mv [.t 1], oo 9 (.bin .geq) [.t 7, .t 8], oo 10 .mv [.t 9], og 11 10 true .mv [.t 0], og 12 10 true .mv [.t 2], og 13 10 true (.bin .leq) [.t 11, .t 12], oo 14 .pick [.t 10, .t 13, (.c (.lit (.bool false)))], oo 6 .mv [.t 14]]) .ret)
def c_hand_within : VC := (.seq (.ops 0 [oo 6 .mv [(.c (.lit (.bool false)))]]) c_hand_within_p1)
theorem k_hand_within : Comp Try.prog nobx gtab 63 15 c_hand_within [.t 6] := ⟨⟨Try.f63, _, Try.func63, rfl, rfl, kr, kr⟩⟩
abbrev c_slices_IsSorted_int_int_p1 : VC := (.seq (.ops 0 [oo 2 .mv [(.c (.lit (.bool false)))]]) .ret)
abbrev c_slices_IsSorted_int_int_p2 : VC := (.ops 0 [oo 9 .mv [.t 3], oo 10 (.bin .sub) [.t 9, kk 1], oo 3 .mv [.t 10]])
abbrev c_slices_IsSorted_int_int_p3 : VC := (.seq (.block 1 (.seq (.ops 0 [oo 11 .mv [.t 0], oo 12 .mv [.t 3], oo 13 (.ixA 1) [.t 11, .t 12], od 14 .ld1 [.t 13] [0, 1, 2], oo 15 .mv [.t 0], oo 16 .mv [.t 3], oo 17 (.bin .sub) [.t 16, kk 1], oo 18 (.ixA 1) [.t 15, .t 17], od 19 .ld1 [.t 18] [4, 5, 6, 7], oo 20 (.call 98) [.t 14, .t 19]]) (.cond (.t 20) c_slices_IsSorted_int_int_p1 .skip))) c_slices_IsSorted_int_int_p2)
abbrev c_slices_IsSorted_int_int_p4 : VC := (.seq (.seq (.ops 0 [oo 7 .mv [.t 3], oo 8 (.bin .gtr) [.t 7, kk 0]]) (.cond (.t 8) .skip (.exit 0))) c_slices_IsSorted_int_int_p3)
@[go_sem] abbrev w_slices_IsSorted_int_int_p4 : Nat := 2097036
abbrev c_slices_IsSorted_int_int_p6 : VC := (.seq (.ops 0 [oo 2 .mv [(.c (.lit (.bool true)))]]) .ret)
abbrev c_slices_IsSorted_int_int_p7 : VC := (.seq (.seq (.ops 0 [oo 4 .mv [.t 0], oo 5 .len [.t 4], oo 6 (.bin .sub) [.t 5, kk 1], oo 3 .mv [.t 6]]) (.block 0 (.loop c_slices_IsSorted_int_int_p4))) c_slices_IsSorted_int_int_p6)
def c_slices_IsSorted_int_int : VC := (.seq (.ops 0 [oo 2 .mv [(.c (.lit (.bool false)))]]) c_slices_IsSorted_int_int_p7)
theorem k_slices_IsSorted_int_int : Comp Try.prog nobx gtab 64 21 c_slices_IsSorted_int_int [.t 2] := ⟨⟨Try.f64, _, Try.func64, rfl, rfl, kr, kr⟩⟩
abbrev c_cmp_Less_int_p1 : VC := (.seq (.ops 0 [oo 5 .mv [.t 0], oo 6 (.call 128) [.t 5], oo 7 .mv [.t 6], og 8 7 true .mv [.t 1], og 9 7 true (.call 128) [.t 8], og 10 7 true (.un .not) [.t 9], oo 11 .pick [.t 7, .t 10, (.c (.lit (.bool false)))], oo 12 .mv [.t 11], og 13 12 false .mv [.t 0], og 14 12 false .mv [.t 1], og 15 12 false (.bin .lss) [.t 13, .t 14], oo 16 .pick [.t 12, (.c (.lit (.bool true))), .t 15], oo 4 .mv [.t 16]]) .ret)
def c_cmp_Less_int : VC := (.seq (.ops 0 [oo 4 .mv [(.c (.lit (.bool false)))]]) c_cmp_Less_int_p1)
theorem k_cmp_Less_int : Comp Try.prog nobx gtab 98 17 c_cmp_Less_int [.t 4] := ⟨⟨Try.f98, _, Try.func98, rfl, rfl, kr, kr⟩⟩
abbrev c_cmp_isNaN_int_p1 : VC := (.seq (.ops 0 [oo 3 .mv [.t 0], oo 4 .mv [.t 0], oo 5 (.bin .neq) [.t 3, .t 4], oo 2 .mv [.t 5]]) .ret)
def c_cmp_isNaN_int : VC := (.seq (.ops 0 [oo 2 .mv [(.c (.lit (.bool false)))]]) c_cmp_isNaN_int_p1)
theorem k_cmp_isNaN_int : Comp Try.prog nobx gtab 128 6 c_cmp_isNaN_int [.t 2] := ⟨⟨Try.f128, _, Try.func128, rfl, rfl, kr, kr⟩⟩
abbrev c_hand_rising_p1 : VC := (.seq (.ops 0 [oo 2 .mv [(.c (.lit (.bool false)))]]) .ret)
abbrev c_hand_rising_p2 : VC := (.ops 0 [oo 8 .mv [.t 3], oo 9 (.bin .add) [.t 8, kk 1], oo 3 .mv [.t 9]])
abbrev c_hand_rising_p3 : VC := (.seq (.block 1 (.seq (.ops 0 [oo 10 .mv [.t 0], oo 11 .mv [.t 3], oo 12 (.ixA 1) [.t 10, .t 11], od 13 .ld1 [.t 12] [0, 1, 2], oo 14 .mv [.t 0], oo 15 .mv [.t 3], oo 16 (.bin .sub) [.t 15, kk 1], oo 17 (.ixA 1) [.t 14, .t 16], od 18 .ld1 [.t 17] [4, 5, 6, 7], oo 19 (.bin .leq) [.t 13, .t 18]]) (.cond (.t 19) c_hand_rising_p1 .skip))) c_hand_rising_p2)
abbrev c_hand_rising_p4 : VC := (.seq (.seq (.ops 0 [oo 4 .mv [.t 3], oo 5 .mv [.t 0], oo 6 .len [.t 5], oo 7 (.bin .lss) [.t 4, .t 6]]) (.cond (.t 7) .skip (.exit 0))) c_hand_rising_p3)
@[go_sem] abbrev w_hand_rising_p4 : Nat := 1048572
abbrev c_hand_rising_p6 : VC := (.seq (.ops 0 [oo 2 .mv [(.c (.lit (.bool true)))]]) .ret)
abbrev c_hand_rising_p7 : VC := (.seq (.seq (.ops 0 [oo 3 .mv [kk 1]]) (.block 0 (.loop c_hand_rising_p4))) c_hand_rising_p6)
def c_hand_rising : VC := (.seq (.ops 0 [oo 2 .mv [(.c (.lit (.bool false)))]]) c_hand_rising_p7)
theorem k_hand_rising : Comp Try.prog nobx gtab 99 20 c_hand_rising [.t 2] := ⟨⟨Try.f99, _, Try.func99, rfl, rfl, kr, kr⟩⟩
abbrev c_theorboref06_Check_p1 : VC := (.seq (.ops 0 [oo 2 .mv [kk 60]]) .ret)
abbrev c_theorboref06_Check_p2 : VC := (.seq (.ops 0 [oo 2 .mv [kk 60]]) .ret)
abbrev c_theorboref06_Check_p3 : VC := (.ops 0 [oo 33 .mv [.t 4], oo 34 (.bin .add) [.t 33, kk 1], oo 4 .mv [.t 34]])
abbrev c_theorboref06_Check_p4 : VC := (.seq (.block 1 (.seq (.ops 0 [oo 35 (.fldA 0) [.t 1], oo 36 .ld1 [.t 35], oo 37 .mv [.t 4], oo 38 (.ixA 1) [.t 36, .t 37], oo 39 .ld1 [.t 38], oo 40 (.bin .lss) [.t 39, kk 0], oo 41 .mv [.t 40], og 42 41 false (.fldA 0) [.t 1], ⟨(some 43), (some (41, false)), .ld1, [.t 42], (some [0, 1, 2, 3, 4, 5, 6, 7])⟩, og 44 41 false .mv [.t 4], og 45 41 false (.ixA 1) [.t 43, .t 44], ⟨(some 46), (some (41, false)), .ld1, [.t 45], (some [0, 1, 2, 3, 4, 5, 6, 7, 8, 9, 10])⟩, og 47 41 false (.fldA 1) [.t 1], ⟨(some 48), (some (41, false)), .ld1, [.t 47], (some [0, 1, 2, 3, 4, 5, 6, 12])⟩, og 49 41 false .mv [.t 4], og 50 41 false (.ixA 1) [.t 48, .t 49], ⟨(some 51), (some (41, false)), .ld1, [.t 50], (some [0, 1, 2, 3, 4, 5, 6, 12, 13, 14, 15])⟩, og 52 41 false (.bin .gtr) [.t 46, .t 51], oo 53 .pick [.t 41, (.c (.lit (.bool true))), .t 52], oo 54 .mv [.t 53], og 55 54 false (.fldA 1) [.t 1], og 56 54 false .ld1 [.t 55], og 57 54 false .mv [.t 4], og 58 54 false (.ixA 1) [.t 56, .t 57], og 59 54 false .ld1 [.t 58], og 60 54 false (.bin .gtr) [.t 59, kk 8], oo 61 .pick [.t 54, (.c (.lit (.bool true))), .t 60], oo 62 .mv [.t 61], og 63 62 false .mv [.t 4], og 64 62 false (.bin .gtr) [.t 63, kk 0], og 65 62 false .mv [.t 64], og 66 65 true (.fldA 0) [.t 1], ⟨(some 67), (some (65, true)), .ld1, [.t 66], (some [0, 1, 2, 3, 4, 5, 6, 7, 8, 9, 10, 11, 12, 13, 14, 15, 16, 17, 18, 19, 20, 21, 22, 23, 24, 25, 26, 27, 28, 29, 30, 31])⟩, og 68 65 true .mv [.t 4], og 69 65 true (.ixA 1) [.t 67, .t 68], ⟨(some 70), (some (65, true)), .ld1, [.t 69], (some [0, 1, 2, 3, 4, 5, 6, 7, 8, 9, 10, 11, 12, 13, 14, 15, 16, 17, 18, 19, 20, 21, 22, 23, 24, 25, 26, 27, 28, 29, 30, 31, 32, 33, 34])⟩, og 71 65 true (.fldA 0) [.t 1], ⟨(some 72), (some (65, true)), .ld1, [.t 71], (some [0, 1, 2, 3, 4, 5, 6, 7, 8, 9, 10, 11, 12, 13, 14, 15, 16, 17, 18, 19, 20, 21, 22, 23, 24, 25, 26, 27, 28, 29, 30, 36])⟩, og 73 65 true .mv [.t 4], og 74 65 true (.bin .sub) [.t 73, kk 1], og 75 65 true (.ixA 1) [.t 72, .t 74], ⟨(some 76), (some (65, true)), .ld1, [.t 75], (some [0, 1, 2, 3, 4, 5, 6, 7, 8, 9, 10, 11, 12, 13, 14, 15, 16, 17, 18, 19, 20, 21, 22, 23, 24, 25, 26, 27, 28, 29, 30, 36, 37, 38, 39, 40])⟩, og 77 65 true (.bin .lss) [.t 70, .t 76], og 78 65 true .mv [.t 77], og 79 78 false (.fldA 1) [.t 1], ⟨(some 80), (some (78, false)), .ld1, [.t 79], (some [0, 1, 2, 3, 4, 5, 6, 7, 8, 9, 10, 11, 12, 13, 14, 15, 16, 17, 18, 19, 20, 21, 22, 23, 24, 25, 26, 27, 28, 29, 30, 31, 32, 33, 34, 35, 36, 37, 38, 39, 40, 41, 42, 43, 44])⟩, og 81 78 false .mv [.t 4], og 82 78 false (.ixA 1) [.t 80, .t 81], ⟨(some 83), (some (78, false)), .ld1, [.t 82], (some [0, 1, 2, 3, 4, 5, 6, 7, 8, 9, 10, 11, 12, 13, 14, 15, 16, 17, 18, 19, 20, 21, 22, 23, 24, 25, 26, 27, 28, 29, 30, 31, 32, 33, 34, 35, 36, 37, 38, 39, 40, 41, 42, 43, 44, 45, 46, 47])⟩, og 84 78 false (.fldA 1) [.t 1], ⟨(some 85), (some (78, false)), .ld1, [.t 84], (some [0, 1, 2, 3, 4, 5, 6, 7, 8, 9, 10, 11, 12, 13, 14, 15, 16, 17, 18, 19, 20, 21, 22, 23, 24, 25, 26, 27, 28, 29, 30, 31, 32, 33, 34, 35, 36, 37, 38, 39, 40, 41, 42, 43, 49])⟩, og 86 78 false .mv [.t 4], og 87 78 false (.bin .sub) [.t 86, kk 1], og 88 78 false (.ixA 1) [.t 85, .t 87], ⟨(some 89), (some (78, false)), .ld1, [.t 88], (some [0, 1, 2, 3, 4, 5, 6, 7, 8, 9, 10, 11, 12, 13, 14, 15, 16, 17, 18, 19, 20, 21, 22, 23, 24, 25, 26, 27, 28, 29, 30, 31, 32, 33, 34, 35, 36, 37, 38, 39, 40, 41, 42, 43, 49, 50, 51, 52, 53])⟩, og 90 78 false (.bin .lss) [.t 83, .t 89], og 91 65 true .pick [.t 78, (.c (.lit (.bool true))), .t 90], og 92 62 false .pick [.t 65, .t 91, (.c (.lit (.bool false)))], oo 93 .pick [.t 62, (.c (.lit (.bool true))), .t 92]]) (.cond (.t 93) c_theorboref06_Check_p2 .skip))) c_theorboref06_Check_p3)
abbrev c_theorboref06_Check_p5 : VC := (.seq (.seq (.ops 0 [oo 30 .mv [.t 4], oo 31 .mv [.t 3], oo 32 (.bin .lss) [.t 30, .t 31]]) (.cond (.t 32) .skip (.exit 0))) c_theorboref06_Check_p4)
@[go_sem] abbrev w_theorboref06_Check_p5 : Nat := 19807040628566084397312245780
abbrev c_theorboref06_Check_p7 : VC := (.seq (.ops 0 [oo 2 .mv [kk 60]]) .ret)
abbrev c_theorboref06_Check_p8 : VC := (.seq (.ops 0 [oo 2 .mv [kk 60]]) .ret)
abbrev c_theorboref06_Check_p9 : VC := (.seq (.ops 0 [oo 128 .mv [.t 6], oo 129 (.bin .lss) [.t 128, kk 0], oo 130 .mv [.t 129], og 131 130 false .mv [.t 6], og 132 130 false (.bin .gtr) [.t 131, kk 1000], oo 133 .pick [.t 130, (.c (.lit (.bool true))), .t 132]]) (.cond (.t 133) c_theorboref06_Check_p8 .skip))
abbrev c_theorboref06_Check_p10 : VC := (.ops 0 [oo 134 (.bin .add) [.t 124, kk 1], oo 124 .mv [.t 134]])
abbrev c_theorboref06_Check_p11 : VC := (.seq (.block 3 (.seq (.ops 0 [oo 126 (.ixA 1) [.t 122, .t 124], oo 127 .ld1 [.t 126], oo 6 .mv [.t 127]]) c_theorboref06_Check_p9)) c_theorboref06_Check_p10)
abbrev c_theorboref06_Check_p12 : VC := (.seq (.cond (.t 125) .skip (.exit 2)) c_theorboref06_Check_p11)
abbrev c_theorboref06_Check_p13 : VC := (.seq (.ops 0 [oo 125 (.bin .lss) [.t 124, .t 123]]) c_theorboref06_Check_p12)
@[go_sem] abbrev w_theorboref06_Check_p13 : Nat := 43534875317947564669345488838301845553220
abbrev c_theorboref06_Check_p15 : VC := (.seq (.ops 0 [oo 2 .mv [kk 0]]) .ret)
abbrev c_theorboref06_Check_p16 : VC := (.seq (.seq (.ops 0 [oo 112 (.fldA 5) [.t 1], oo 113 .ld1 [.t 112], oo 114 (.fldA 6) [.t 1], oo 115 .ld1 [.t 114], oo 116 (.fldA 7) [.t 1], oo 117 .ld1 [.t 116], oo 118 (.fldA 8) [.t 1], oo 119 .ld1 [.t 118], oo 120 (.fldA 9) [.t 1], oo 121 .ld1 [.t 120], oo 122 (.mksl 5 1 [li 0, li 0, li 0, li 0, li 0] [(0, 1), (1, 1), (2, 1), (3, 1), (4, 1)]) [.t 113, .t 115, .t 117, .t 119, .t 121], oo 123 .len [.t 122], oo 124 .mv [kk 0]]) (.block 2 (.loop c_theorboref06_Check_p13))) c_theorboref06_Check_p15)
abbrev c_theorboref06_Check_p17 : VC := (.seq (.seq (.ops 0 [oo 94 (.fldA 3) [.t 1], oo 95 .ld1 [.t 94], oo 96 (.bin .lss) [.t 95, kk 1], oo 97 .mv [.t 96], og 98 97 false (.fldA 3) [.t 1], og 99 97 false .ld1 [.t 98], og 100 97 false (.bin .gtr) [.t 99, kk 18], oo 101 .pick [.t 97, (.c (.lit (.bool true))), .t 100], oo 102 .mv [.t 101], og 103 102 false (.fldA 4) [.t 1], og 104 102 false .ld1 [.t 103], og 105 102 false (.bin .lss) [.t 104, kk 0], oo 106 .pick [.t 102, (.c (.lit (.bool true))), .t 105], oo 107 .mv [.t 106], og 108 107 false (.fldA 4) [.t 1], og 109 107 false .ld1 [.t 108], og 110 107 false (.bin .gtr) [.t 109, kk 18], oo 111 .pick [.t 107, (.c (.lit (.bool true))), .t 110]]) (.cond (.t 111) c_theorboref06_Check_p7 .skip)) c_theorboref06_Check_p16)
abbrev c_theorboref06_Check_p18 : VC := (.seq (.seq (.ops 0 [oo 4 .mv [kk 0]]) (.block 0 (.loop c_theorboref06_Check_p5))) c_theorboref06_Check_p17)
abbrev c_theorboref06_Check_p19 : VC := (.seq (.seq (.ops 0 [oo 10 .mv [.t 3], oo 11 (.bin .lss) [.t 10, kk 1], oo 12 .mv [.t 11], og 13 12 false .mv [.t 3], og 14 12 false (.bin .gtr) [.t 13, kk 4], oo 15 .pick [.t 12, (.c (.lit (.bool true))), .t 14], oo 16 .mv [.t 15], og 17 16 false (.fldA 1) [.t 1], og 18 16 false .ld1 [.t 17], og 19 16 false .len [.t 18], og 20 16 false .mv [.t 3], og 21 16 false (.bin .neq) [.t 19, .t 20], oo 22 .pick [.t 16, (.c (.lit (.bool true))), .t 21], oo 23 .mv [.t 22], og 24 23 false (.fldA 2) [.t 1], og 25 23 false .ld1 [.t 24], og 26 23 false .len [.t 25], og 27 23 false .mv [.t 3], og 28 23 false (.bin .neq) [.t 26, .t 27], oo 29 .pick [.t 23, (.c (.lit (.bool true))), .t 28]]) (.cond (.t 29) c_theorboref06_Check_p1 .skip)) c_theorboref06_Check_p18)
abbrev c_theorboref06_Check_p20 : VC := (.seq (.ops 0 [oo 7 (.fldA 0) [.t 1], oo 8 .ld1 [.t 7], oo 9 .len [.t 8], oo 3 .mv [.t 9]]) c_theorboref06_Check_p19)
def c_theorboref06_Check : VC := (.seq (.ops 2 [oo 1 (.box 25) [.t 0], oo 2 .mv [kk 0]]) c_theorboref06_Check_p20)
theorem k_theorboref06_Check : Comp Try.prog nobx gtab 25 135 c_theorboref06_Check [.t 2] := ⟨⟨Try.f25, _, Try.func25, rfl, rfl, kr, kr⟩⟩
abbrev c_theorboref06_ascend_p1 : VC := (.seq (.ops 0 [oo 2 .mv [(.c (.lit (.bool false)))]]) .ret)
abbrev c_theorboref06_ascend_p2 : VC := (.ops 0 [oo 8 .mv [.t 3], oo 9 (.bin .add) [.t 8, kk 1], oo 3 .mv [.t 9]])
abbrev c_theorboref06_ascend_p3 : VC := (.seq (.block 1 (.seq (.ops 0 [oo 10 .mv [.t 0], oo 11 .mv [.t 3], oo 12 (.ixA 1) [.t 10, .t 11], oo 13 .ld1 [.t 12], oo 14 (.bin .lss) [.t 13, kk 1], oo 15 .mv [.t 14], og 16 15 false .mv [.t 0], og 17 15 false .mv [.t 3], og 18 15 false (.ixA 1) [.t 16, .t 17], og 19 15 false .ld1 [.t 18], og 20 15 false (.bin .gtr) [.t 19, kk 14], oo 21 .pick [.t 15, (.c (.lit (.bool true))), .t 20], oo 22 .mv [.t 21], og 23 22 false .mv [.t 3], og 24 22 false (.bin .gtr) [.t 23, kk 0], og 25 22 false .mv [.t 24], og 26 25 true .mv [.t 0], og 27 25 true .mv [.t 3], og 28 25 true (.ixA 1) [.t 26, .t 27], ⟨(some 29), (some (25, true)), .ld1, [.t 28], (some [0, 1, 2, 3, 4, 5, 6, 7, 8, 9, 10, 11, 12, 13, 14, 15, 16, 17, 18])⟩, og 30 25 true .mv [.t 0], og 31 25 true .mv [.t 3], og 32 25 true (.bin .sub) [.t 31, kk 1], og 33 25 true (.ixA 1) [.t 30, .t 32], ⟨(some 34), (some (25, true)), .ld1, [.t 33], (some [0, 1, 2, 3, 4, 5, 6, 7, 8, 9, 10, 11, 12, 13, 14, 15, 20, 21, 22, 23])⟩, og 35 25 true (.bin .leq) [.t 29, .t 34], og 36 22 false .pick [.t 25, .t 35, (.c (.lit (.bool false)))], oo 37 .pick [.t 22, (.c (.lit (.bool true))), .t 36]]) (.cond (.t 37) c_theorboref06_ascend_p1 .skip))) c_theorboref06_ascend_p2)
abbrev c_theorboref06_ascend_p4 : VC := (.seq (.seq (.ops 0 [oo 4 .mv [.t 3], oo 5 .mv [.t 0], oo 6 .len [.t 5], oo 7 (.bin .lss) [.t 4, .t 6]]) (.cond (.t 7) .skip (.exit 0))) c_theorboref06_ascend_p3)
@[go_sem] abbrev w_theorboref06_ascend_p4 : Nat := 274877906940
abbrev c_theorboref06_ascend_p6 : VC := (.seq (.ops 0 [oo 2 .mv [(.c (.lit (.bool true)))]]) .ret)
abbrev c_theorboref06_ascend_p7 : VC := (.seq (.seq (.ops 0 [oo 3 .mv [kk 0]]) (.block 0 (.loop c_theorboref06_ascend_p4))) c_theorboref06_ascend_p6)
def c_theorboref06_ascend : VC := (.seq (.ops 0 [oo 2 .mv [(.c (.lit (.bool false)))]]) c_theorboref06_ascend_p7)
theorem k_theorboref06_ascend : Comp Try.prog nobx gtab 101 38 c_theorboref06_ascend [.t 2] := ⟨⟨Try.f101, _, Try.func101, rfl, rfl, kr, kr⟩⟩
abbrev c_theorbolaw06_SameInts_p1 : VC := (.seq (.ops 0 [oo 4 .mv [(.c (.lit (.bool false)))]]) .ret)
abbrev c_theorbolaw06_SameInts_p2 : VC := (.seq (.ops 0 [oo 4 .mv [(.c (.lit (.bool false)))]]) .ret)
abbrev c_theorbolaw06_SameInts_p3 : VC := (.ops 0 [oo 15 .mv [.t 5], oo 16 (.bin .add) [.t 15, kk 1], oo 5 .mv [.t 16]])
abbrev c_theorbolaw06_SameInts_p4 : VC := (.seq (.block 1 (.seq (.ops 0 [oo 17 .mv [.t 0], oo 18 .mv [.t 5], oo 19 (.ixA 1) [.t 17, .t 18], od 20 .ld1 [.t 19] [0, 1, 2], oo 21 .mv [.t 1], oo 22 .mv [.t 5], oo 23 (.ixA 1) [.t 21, .t 22], od 24 .ld1 [.t 23] [4, 5, 6], oo 25 (.bin .neq) [.t 20, .t 24]]) (.cond (.t 25) c_theorbolaw06_SameInts_p2 .skip))) c_theorbolaw06_SameInts_p3)
abbrev c_theorbolaw06_SameInts_p5 : VC := (.seq (.seq (.ops 0 [oo 11 .mv [.t 5], oo 12 .mv [.t 0], oo 13 .len [.t 12], oo 14 (.bin .lss) [.t 11, .t 13]]) (.cond (.t 14) .skip (.exit 0))) c_theorbolaw06_SameInts_p4)
@[go_sem] abbrev w_theorbolaw06_SameInts_p5 : Nat := 67106864
abbrev c_theorbolaw06_SameInts_p7 : VC := (.seq (.ops 0 [oo 4 .mv [(.c (.lit (.bool true)))]]) .ret)
abbrev c_theorbolaw06_SameInts_p8 : VC := (.seq (.seq (.ops 0 [oo 5 .mv [kk 0]]) (.block 0 (.loop c_theorbolaw06_SameInts_p5))) c_theorbolaw06_SameInts_p7)
abbrev c_theorbolaw06_SameInts_p9 : VC := (.seq (.seq (.ops 0 [oo 6 .mv [.t 0], oo 7 .len [.t 6], oo 8 .mv [.t 1], oo 9 .len [.t 8], oo 10 (.bin .neq) [.t 7, .t 9]]) (.cond (.t 10) c_theorbolaw06_SameInts_p1 .skip)) c_theorbolaw06_SameInts_p8)
def c_theorbolaw06_SameInts : VC := (.seq (.ops 0 [oo 4 .mv [(.c (.lit (.bool false)))]]) c_theorbolaw06_SameInts_p9)
theorem k_theorbolaw06_SameInts : Comp Try.prog nobx gtab 23 26 c_theorbolaw06_SameInts [.t 4] := ⟨⟨Try.f23, _, Try.func23, rfl, rfl, kr, kr⟩⟩
abbrev c_theorboref06_place_p1 : VC := (.seq (.ops 0 [oo 21 (.fldA 0) [.t 2], oo 22 .ld1 [.t 21], oo 23 .mv [.t 5], oo 24 (.ixA 2) [.t 22, .t 23], oo 25 (.ldA 2) [.t 24], ⟨none, none, (.st 2), [.t 4, .t 25], none⟩]) .ret)
abbrev c_theorboref06_place_p2 : VC := (.ops 0 [oo 11 .mv [.t 5], oo 12 (.bin .add) [.t 11, kk 1], oo 5 .mv [.t 12]])
abbrev c_theorboref06_place_p3 : VC := (.seq (.block 1 (.seq (.ops 0 [oo 13 (.fldA 0) [.t 2], oo 14 .ld1 [.t 13], oo 15 .mv [.t 5], oo 16 (.ixA 2) [.t 14, .t 15], oo 17 (.fldA 0) [.t 16], oo 18 .ld1 [.t 17], oo 19 .mv [.t 1], oo 20 (.bin .eql) [.t 18, .t 19]]) (.cond (.t 20) c_theorboref06_place_p1 .skip))) c_theorboref06_place_p2)
abbrev c_theorboref06_place_p4 : VC := (.seq (.seq (.ops 0 [oo 6 .mv [.t 5], oo 7 (.fldA 0) [.t 2], oo 8 .ld1 [.t 7], oo 9 .len [.t 8], oo 10 (.bin .lss) [.t 6, .t 9]]) (.cond (.t 10) .skip (.exit 0))) c_theorboref06_place_p3)
@[go_sem] abbrev w_theorboref06_place_p4 : Nat := 67108832
abbrev c_theorboref06_place_p6 : VC := (.seq (.ops 0 [oo 26 (.build [li 0, li 0] []) [], ⟨none, none, (.st 2), [.t 4, .t 26], none⟩]) .ret)
abbrev c_theorboref06_place_p7 : VC := (.seq (.seq (.ops 0 [oo 5 .mv [kk 0]]) (.block 0 (.loop c_theorboref06_place_p4))) c_theorboref06_place_p6)
def c_theorboref06_place : VC := (.seq (.ops 2 [oo 2 (.box 47) [.t 0], oo 4 (.alloc 92 [li 0, li 0]) []]) c_theorboref06_place_p7)
theorem k_theorboref06_place : Comp Try.prog nobx gtab 68 27 c_theorboref06_place [(.c 4 2 true)] := ⟨⟨Try.f68, _, Try.func68, rfl, rfl, kr, kr⟩⟩
end Go.Proofs.Ytojjdkoglhecbaa
namespace Go.Proofs.Ytojjdkoglhecbaa
open Go.RowKit
set_option linter.unusedSimpArgs false
set_option linter.unusedVariables false

theorem within_fn (n a b : Int) : Fn Try.prog Gd 63 [vint n, vint a, vint b] (vbool (decide (a ≤ n) && decide (n ≤ b))) := by
  refine Fn.of_vx0 k_hand_within (by simp) rfl ?_
  unfold c_hand_within
  repeat' (with_reducible first | refine x_ops ?_ | refine wk ?_ | ((first | refine gd1 ?_ ?_ | refine gd2 ?_ ?_ | refine gd3 ?_ ?_) <;> (first | exact @False.elim _ | intro hc)))
  all_goals refine finV_lit vv ?_
  all_goals simp only [Bool.true_and, Bool.false_and]
theorem isnan_fn (n : Int) : Fn Try.prog Gd 128 [vint n] (vbool false) := by
  refine Fn.of_vx0 k_cmp_isNaN_int (by simp) rfl ?_
  unfold c_cmp_isNaN_int
  repeat' (with_reducible first | refine x_ops ?_ | refine wk ?_ | ((first | refine gd1 ?_ ?_ | refine gd2 ?_ ?_ | refine gd3 ?_ ?_) <;> (first | exact @False.elim _ | intro hc)))
  exact finV_lit vv (by simp)
theorem less_fn (a b : Int) : Fn Try.prog Gd 98 [vint a, vint b] (vbool (decide (a < b))) := by
  refine Fn.of_vx0 k_cmp_Less_int (by simp) rfl ?_
  unfold c_cmp_Less_int
  repeat' (with_reducible first | refine x_ops ?_ | refine wk ?_ | (with_reducible refine xc (isnan_fn a) ?_) | ((first | refine gd1 ?_ ?_ | refine gd2 ?_ ?_ | refine gd3 ?_ ?_) <;> (first | exact @False.elim _ | intro hc)))
  all_goals exact finV_lit vv (by simp)

theorem pure_tIs (l : List Int) : (tIs l).pure = true := by rw [tIs, V.pure]; intro t h; cases h
theorem ints_at {l : List Int} {k : Nat} (h : k < l.length) : (l.map vint)[k]? = some (V.lit (.int .i64 (l.getD k 0))) := by
  rw [List.getElem?_map, List.getD_eq_getElem?_getD, List.getElem?_eq_getElem h]; rfl
/-- Of all numbers below n. -/
def allB (n : Nat) (p : Nat → Bool) : Bool := (List.range n).all p
theorem allB_true {n : Nat} {p : Nat → Bool} (h : ∀ i, i < n → p i = true) : allB n p = true := by
  rw [allB, List.all_eq_true]; exact fun i hi => h i (List.mem_range.1 hi)
theorem allB_false {n : Nat} {p : Nat → Bool} {i : Nat} (hi : i < n) (h : p i = false) : allB n p = false := by
  rw [allB, List.all_eq_false]; exact ⟨i, List.mem_range.2 hi, by simp [h]⟩
theorem allB_iff {n : Nat} {p : Nat → Bool} : allB n p = true ↔ ∀ i, i < n → p i = true := by
  rw [allB, List.all_eq_true]; exact ⟨fun h i hi => h i (List.mem_range.2 hi), fun h i hi => h i (List.mem_range.1 hi)⟩
/-- It does not fall. -/
def ascB (l : List Int) : Bool := allB (l.length - 1) fun i => decide (l.getD i 0 ≤ l.getD (i + 1) 0)
/-- It rises. -/
def risB (l : List Int) : Bool := allB (l.length - 1) fun i => decide (l.getD i 0 < l.getD (i + 1) 0)

theorem issorted_fn (l : List Int) (hl : l.length ≤ 4611686018427387904) : Fn Try.prog Gd 64 [tIs l] (vbool (ascB l)) := by
  refine Fn.of_vx0 k_slices_IsSorted_int_int (by simp) (by rw [V.pures, pure_tIs]; rfl) ?_
  unfold c_slices_IsSorted_int_int tIs
  repeat' (with_reducible first | refine x_ops ?_ | refine wk ?_ | ((first | refine gd1 ?_ ?_ | refine gd2 ?_ ?_ | refine gd3 ?_ ?_) <;> (first | exact @False.elim _ | intro hc)))
  refine x_loopW w_slices_IsSorted_int_int_p4 (by kernel_rfl) l.length (fun k t m => t 3 = vint ((l.length : Int) - 1 - k) ∧ ∀ i, l.length - 1 - k ≤ i → i + 1 < l.length → l.getD i 0 ≤ l.getD (i + 1) 0) ?_ ?_
  · refine ⟨?_, fun i h1 h2 => by omega⟩
    (refine ve ?_; try exact True.intro)
    rw [w_in (by omega)]; simp
  · rintro k t m hk ⟨h3, hI⟩
    by_cases hlt : k + 1 < l.length
    · obtain ⟨j, hj⟩ : ∃ j : Nat, ((l.length : Int) - 1 - k) = ((j + 1 : Nat) : Int) := ⟨l.length - 2 - k, by omega⟩
      rw [hj] at h3
      have g1 := ints_at (l := l) (k := j + 1) (by omega)
      have g2 := ints_at (l := l) (k := j) (by omega)
      have c1 : (0 : Int) < ((j + 1 : Nat) : Int) := by omega
      have c2 : ((j + 1 : Nat) : Int) < (l.length : Int) := by omega
      have c3 : (j : Int) < (l.length : Int) := by omega
      have w1 : IntKind.i64.wrap (((j + 1 : Nat) : Int) - 1) = (j : Int) := by rw [w_in (by omega)]; omega
      repeat' (with_reducible first | refine x_ops ?_ | refine wk ?_ | (with_reducible refine xc (less_fn _ _) ?_) | ((first | refine gd1 ?_ ?_ | refine gd2 ?_ ?_ | refine gd3 ?_ ?_) <;> (first | exact @False.elim _ | intro hc)))
      · refine finV_lit vv ?_
        rw [ascB, allB_false (i := j) (by omega)]
        rw [decide_eq_false_iff_not]; omega
      · refine nx (by omega) ⟨by ((refine ve ?_; try exact True.intro)); congr 2; omega, fun i h1 h2 => ?_⟩
        by_cases hi : i = j
        · subst hi; omega
        · exact hI i (by omega) h2
    · have c1 : ¬ ((0 : Int) < (l.length : Int) - 1 - k) := by omega
      repeat' (with_reducible first | refine x_ops ?_ | refine wk ?_ | ((first | refine gd1 ?_ ?_ | refine gd2 ?_ ?_ | refine gd3 ?_ ?_) <;> (first | exact @False.elim _ | intro hc)))
      refine finV_lit vv ?_
      rw [ascB, allB_true]
      intro i hi
      simp
      exact hI i (by omega) (by omega)

theorem rising_fn (l : List Int) (hl : l.length ≤ 4611686018427387904) : Fn Try.prog Gd 99 [tIs l] (vbool (risB l)) := by
  refine Fn.of_vx0 k_hand_rising (by simp) (by rw [V.pures, pure_tIs]; rfl) ?_
  unfold c_hand_rising tIs
  repeat' (with_reducible first | refine x_ops ?_ | refine wk ?_ | ((first | refine gd1 ?_ ?_ | refine gd2 ?_ ?_ | refine gd3 ?_ ?_) <;> (first | exact @False.elim _ | intro hc)))
  refine x_loopF w_hand_rising_p4 (by kernel_rfl) (l.length - 1) (fun k t => t 3 = vint ((k + 1 : Nat) : Int) ∧ ∀ i, i < k → l.getD i 0 < l.getD (i + 1) 0) ?_ ?_
  · exact ⟨vv, fun i h => by omega⟩
  · rintro k t hk ⟨h3, hI⟩
    by_cases hlt : k + 1 < l.length
    · have g1 := ints_at (l := l) (k := k + 1) (by omega)
      have g2 := ints_at (l := l) (k := k) (by omega)
      have c2 : ((k + 1 : Nat) : Int) < (l.length : Int) := by omega
      have c3 : (k : Int) < (l.length : Int) := by omega
      have w1 : IntKind.i64.wrap (((k + 1 : Nat) : Int) - 1) = (k : Int) := by rw [w_in (by omega)]; omega
      have w2 := w_add1 (k := k + 1) (by omega)
      repeat' (with_reducible first | refine x_ops ?_ | refine wk ?_ | ((first | refine gd1 ?_ ?_ | refine gd2 ?_ ?_ | refine gd3 ?_ ?_) <;> (first | exact @False.elim _ | intro hc)))
      · refine finV_lit vv ?_
        rw [risB, allB_false (i := k) (by omega)]
        rw [decide_eq_false_iff_not]; omega
      · refine nf (by omega) ⟨vv, fun i h => ?_⟩ rfl
        by_cases hi : i = k
        · subst hi; omega
        · exact hI i (by omega)
    · have c1 : ¬ (((k + 1 : Nat) : Int) < (l.length : Int)) := by omega
      repeat' (with_reducible first | refine x_ops ?_ | refine wk ?_ | ((first | refine gd1 ?_ ?_ | refine gd2 ?_ ?_ | refine gd3 ?_ ?_) <;> (first | exact @False.elim _ | intro hc)))
      refine finV_lit vv ?_
      rw [risB, allB_true]
      intro i hi
      simp only [decide_eq_true_eq]
      exact hI i (by omega)

theorem sameints_fn (a b : List Int) (hl : a.length ≤ 4611686018427387904) : Fn Try.prog Gd 23 [tIs a, tIs b] (vbool (decide (a = b))) := by
  refine Fn.of_vx0 k_theorbolaw06_SameInts (by simp) (by rw [V.pures, pure_tIs, V.pures, pure_tIs]; rfl) ?_
  unfold c_theorbolaw06_SameInts tIs
  by_cases hab : a.length = b.length
  · have hab' : ((a.length : Int) == (a.length : Int)) = true := by simp
    have hab2 := hab.symm
    clear hab
    repeat' (with_reducible first | refine x_ops ?_ | refine wk ?_ | ((first | refine gd1 ?_ ?_ | refine gd2 ?_ ?_ | refine gd3 ?_ ?_) <;> (first | exact @False.elim _ | intro hc)))
    refine x_loopF w_theorbolaw06_SameInts_p5 (by kernel_rfl) a.length (fun k t => t 5 = vint (k : Int) ∧ ∀ i, i < k → a.getD i 0 = b.getD i 0) ?_ ?_
    · exact ⟨vv, fun i h => by omega⟩
    · rintro k t hk ⟨h3, hI⟩
      by_cases hlt : k < a.length
      · have g1 := ints_at (l := a) (k := k) (by omega)
        have g2 := ints_at (l := b) (k := k) (by omega)
        have c2 : (k : Int) < (a.length : Int) := by omega
        have c3 : (k : Int) < (b.length : Int) := by omega
        have w2 := w_add1 (k := k) (by omega)
        repeat' (with_reducible first | refine x_ops ?_ | simp only [go_sem, Nat.reduceAdd, Nat.reduceEqDiff, Nat.reduceLT, Nat.reduceLeDiff, Nat.reduceMul, Nat.reduceSub, Nat.reducePow, Nat.reduceDiv, Nat.reduceMod, Nat.reduceBEq, Int.reduceBEq, Int.reduceLT, reduceIte, tIs, tBs, tPs, bne_iff_ne, *] | ((first | refine gd1 ?_ ?_ | refine gd2 ?_ ?_ | refine gd3 ?_ ?_) <;> (first | exact @False.elim _ | intro hc)))
        · refine finV_lit vv ?_
          rw [decide_eq_false]
          rintro rfl
          simp at hc
        · refine nf (by omega) ⟨vv, fun i h => ?_⟩ rfl
          by_cases hi : i = k
          · subst hi; simpa using hc
          · exact hI i (by omega)
      · have c1 : ¬ ((k : Int) < (a.length : Int)) := by omega
        repeat' (with_reducible first | refine x_ops ?_ | refine wk ?_ | ((first | refine gd1 ?_ ?_ | refine gd2 ?_ ?_ | refine gd3 ?_ ?_) <;> (first | exact @False.elim _ | intro hc)))
        refine finV_lit vv ?_
        rw [decide_eq_true]
        refine List.ext_getElem hab2.symm fun i h1 h2 => ?_
        have := hI i (by omega)
        simpa [List.getD_eq_getElem?_getD, h1, h2] using this
  · have hab' : ((a.length : Int) == (b.length : Int)) = false := by simp; omega
    repeat' (with_reducible first | refine x_ops ?_ | refine wk ?_ | ((first | refine gd1 ?_ ?_ | refine gd2 ?_ ?_ | refine gd3 ?_ ?_) <;> (first | exact @False.elim _ | intro hc)))
    refine finV_lit vv ?_
    rw [decide_eq_false]
    rintro rfl
    exact hab rfl

/-- Numbers from 1 to 14 that rise. -/
def crsB (l : List Int) : Bool := risB l && allB l.length fun i => decide (1 ≤ l.getD i 0 ∧ l.getD i 0 ≤ 14)
theorem ascend_fn (l : List Int) (hl : l.length ≤ 4611686018427387904) : Fn Try.prog Gd 101 [tIs l] (vbool (crsB l)) := by
  refine Fn.of_vx0 k_theorboref06_ascend (by simp) (by rw [V.pures, pure_tIs]; rfl) ?_
  unfold c_theorboref06_ascend tIs
  repeat' (with_reducible first | refine x_ops ?_ | refine wk ?_ | ((first | refine gd1 ?_ ?_ | refine gd2 ?_ ?_ | refine gd3 ?_ ?_) <;> (first | exact @False.elim _ | intro hc)))
  refine x_loopF w_theorboref06_ascend_p4 (by kernel_rfl) l.length (fun k t => t 3 = vint (k : Int) ∧ ∀ i, i < k → (1 ≤ l.getD i 0 ∧ l.getD i 0 ≤ 14) ∧ (0 < i → l.getD (i - 1) 0 < l.getD i 0)) ?_ ?_
  · exact ⟨vv, fun i h => by omega⟩
  · rintro k t hk ⟨h3, hI⟩
    by_cases hlt : k < l.length
    · have g1 := ints_at (l := l) (k := k) (by omega)
      have c2 : (k : Int) < (l.length : Int) := by omega
      have w2 := w_add1 (k := k) (by omega)
      have bad : ¬ ((1 ≤ l.getD k 0 ∧ l.getD k 0 ≤ 14)) → crsB l = false := fun h => by
        rw [crsB, allB_false (i := k) (n := l.length) (by omega) (by rw [decide_eq_false_iff_not]; exact h), Bool.and_false]
      by_cases hk0 : 0 < k
      · have g2 := ints_at (l := l) (k := k - 1) (by omega)
        have c3 : ((k - 1 : Nat) : Int) < (l.length : Int) := by omega
        have c4 : (0 : Int) < (k : Int) := by omega
        have w1 := w_sub1 hk0 (by omega)
        repeat' (with_reducible first | refine x_ops ?_ | refine wk ?_ | ((first | refine gd1 ?_ ?_ | refine gd2 ?_ ?_ | refine gd3 ?_ ?_) <;> (first | exact @False.elim _ | intro hc)))
        all_goals first
          | (refine nf (by omega) ⟨vv, fun i h => ?_⟩ rfl
             by_cases hi : i = k
             · subst hi; exact ⟨by omega, fun _ => by omega⟩
             · exact hI i (by omega))
          | (refine finV_lit vv ?_
             first
               | (rw [bad (by omega)]; done)
               | (rw [crsB, risB, allB_false (i := k - 1) (by omega), Bool.false_and]
                  rw [decide_eq_false_iff_not, Nat.sub_add_cancel hk0]; omega))
      · have hk1 : ¬ (0 : Int) < (k : Int) := by omega
        repeat' (with_reducible first | refine x_ops ?_ | refine wk ?_ | ((first | refine gd1 ?_ ?_ | refine gd2 ?_ ?_ | refine gd3 ?_ ?_) <;> (first | exact @False.elim _ | intro hc)))
        all_goals first
          | (refine nf (by omega) ⟨vv, fun i h => ?_⟩ rfl
             have hi : i = k := by omega
             subst hi; exact ⟨by omega, fun h => by omega⟩)
          | (refine finV_lit vv ?_
             rw [bad (by omega)]; done)
    · have c1 : ¬ ((k : Int) < (l.length : Int)) := by omega
      repeat' (with_reducible first | refine x_ops ?_ | refine wk ?_ | ((first | refine gd1 ?_ ?_ | refine gd2 ?_ ?_ | refine gd3 ?_ ?_) <;> (first | exact @False.elim _ | intro hc)))
      refine finV_lit vv ?_
      rw [crsB, risB, allB_true, allB_true]
      · rfl
      · intro i hi
        simp only [decide_eq_true_eq]
        exact (hI i (by omega)).1
      · intro i hi
        simp only [decide_eq_true_eq]
        have := (hI (i + 1) (by omega)).2 (by omega)
        simpa using this
end Go.Proofs.Ytojjdkoglhecbaa
namespace Go.Proofs.Ytojjdkoglhecbaa
open Go.RowKit
set_option linter.unusedSimpArgs false
set_option linter.unusedVariables false

theorem pure_tBs (l : List Bool) : (tBs l).pure = true := by rw [tBs, V.pure]; intro t h; cases h
theorem pure_tPs (l : List (Int × Int)) : (tPs l).pure = true := by rw [tPs, V.pure]; intro t h; cases h
theorem bools_at {l : List Bool} {k : Nat} (h : k < l.length) : (l.map vbool)[k]? = some (V.lit (.bool (l.getD k false))) := by
  rw [List.getElem?_map, List.getD_eq_getElem?_getD, List.getElem?_eq_getElem h]; rfl
theorem plE_len (x : Int × Int) : (plE x).length = 2 := rfl
theorem pls_len (l : List (Int × Int)) : (l.flatMap plE).length = l.length * 2 := flat_len plE_len l
theorem pls_at0 {l : List (Int × Int)} {k : Nat} (h : k < l.length) : (l.flatMap plE)[k * 2]? = some (V.lit (.int .i64 (l.getD k (0, 0)).1)) := by
  have := flat_at (j := 0) plE_len (0, 0) h (by decide); rw [Nat.add_zero] at this; rw [this]; rfl
theorem pls_at1 {l : List (Int × Int)} {k : Nat} (h : k < l.length) : (l.flatMap plE)[k * 2 + 1]? = some (V.lit (.int .i64 (l.getD k (0, 0)).2)) := by
  rw [flat_at (j := 1) plE_len (0, 0) h (by decide)]; rfl
theorem pls_take {l : List (Int × Int)} {k : Nat} (h : k < l.length) : ((l.flatMap plE).drop (k * 2)).take 2 = [V.lit (.int .i64 (l.getD k (0, 0)).1), V.lit (.int .i64 (l.getD k (0, 0)).2)] := by
  rw [flat_take plE_len (0, 0) h]; rfl

structure Hand where
  low : List Int
  high : List Int
  barre : List Bool
  top : Int
  jump : Int
  shift : Int
  lift : Int
  bar : Int
  stretch : Int
  slide : Int
def Hand.val (h : Hand) : V := .agg [tIs h.low, tIs h.high, tBs h.barre, vint h.top, vint h.jump, vint h.shift, vint h.lift, vint h.bar, vint h.stretch, vint h.slide]
theorem pure_hand (h : Hand) : h.val.pure = true := by
  rw [Hand.val, V.pure]
  simp only [V.pures, pure_tIs, pure_tBs, vint, V.pure, Bool.and_self]
/-- A valid hand. -/
structure HandOk (h : Hand) : Prop where
  n1 : 1 ≤ h.low.length
  n4 : h.low.length ≤ 4
  nh : h.high.length = h.low.length
  nb : h.barre.length = h.low.length
  each : ∀ i, i < h.low.length → 0 ≤ h.low.getD i 0 ∧ h.low.getD i 0 ≤ h.high.getD i 0 ∧ h.high.getD i 0 ≤ 8
  al : ascB h.low = true
  ah : ascB h.high = true
  top : 1 ≤ h.top ∧ h.top ≤ 18
  jump : 0 ≤ h.jump ∧ h.jump ≤ 18
  shift : 0 ≤ h.shift ∧ h.shift ≤ 1000
  lift : 0 ≤ h.lift ∧ h.lift ≤ 1000
  bar : 0 ≤ h.bar ∧ h.bar ≤ 1000
  stretch : 0 ≤ h.stretch ∧ h.stretch ≤ 1000
  slide : 0 ≤ h.slide ∧ h.slide ≤ 1000
/-- The weights. -/
def Hand.ws (h : Hand) : List Int := [h.shift, h.lift, h.bar, h.stretch, h.slide]
theorem HandOk.ws {h : Hand} (hk : HandOk h) (i : Nat) (hi : i < 5) : 0 ≤ h.ws.getD i 0 ∧ h.ws.getD i 0 ≤ 1000 := by
  have : i = 0 ∨ i = 1 ∨ i = 2 ∨ i = 3 ∨ i = 4 := by omega
  rcases this with rfl | rfl | rfl | rfl | rfl
  · exact hk.shift
  · exact hk.lift
  · exact hk.bar
  · exact hk.stretch
  · exact hk.slide
open Classical in
noncomputable def chkE (h : Hand) : Int := if HandOk h then 0 else 60
theorem chkE_bad {h : Hand} (hn : ¬ HandOk h) : Value.int .i64 60 = Value.int .i64 (chkE h) := by rw [chkE, if_neg hn]
theorem chkE_good {h : Hand} (hn : HandOk h) : Value.int .i64 0 = Value.int .i64 (chkE h) := by rw [chkE, if_pos hn]

set_option maxHeartbeats 1000000 in
theorem check_fn (h : Hand) : Fn Try.prog Gd 24 [h.val] (vint (chkE h)) := by
  refine Fn.of_vx0 k_hand_Check (by simp) (by rw [V.pures, pure_hand]; rfl) ?_
  unfold c_hand_Check Hand.val
  by_cases hn : 1 ≤ h.low.length ∧ h.low.length ≤ 4
  case neg =>
    have d1 : (decide ((1 : Int) ≤ (h.low.length : Int)) && decide ((h.low.length : Int) ≤ 4)) = false := by simp; omega
    repeat' (with_reducible first | refine x_ops ?_ | refine wk ?_ | (with_reducible refine xc (within_fn _ _ _) ?_) | ((first | refine gd1 ?_ ?_ | refine gd2 ?_ ?_ | refine gd3 ?_ ?_) <;> (first | exact @False.elim _ | intro hc)))
    all_goals refine finV_lit vv (chkE_bad fun hk => ?_)
    all_goals exact absurd ⟨hk.n1, hk.n4⟩ hn
  obtain ⟨hn1, hn4⟩ := hn
  have d1 : (decide ((1 : Int) ≤ (h.low.length : Int)) && decide ((h.low.length : Int) ≤ 4)) = true := by simp; omega
  by_cases hh : h.high.length = h.low.length
  case neg =>
    have d2 : ((h.high.length : Int) == (h.low.length : Int)) = false := by simp; omega
    repeat' (with_reducible first | refine x_ops ?_ | refine wk ?_ | (with_reducible refine xc (within_fn _ _ _) ?_) | ((first | refine gd1 ?_ ?_ | refine gd2 ?_ ?_ | refine gd3 ?_ ?_) <;> (first | exact @False.elim _ | intro hc)))
    all_goals refine finV_lit vv (chkE_bad fun hk => ?_)
    all_goals exact absurd hk.nh hh
  have d2 : ((h.high.length : Int) == (h.low.length : Int)) = true := by rw [hh]; simp
  replace hh := Hid.mk hh
  by_cases hb : h.barre.length = h.low.length
  case neg =>
    have d3 : ((h.barre.length : Int) == (h.low.length : Int)) = false := by simp; omega
    repeat' (with_reducible first | refine x_ops ?_ | refine wk ?_ | (with_reducible refine xc (within_fn _ _ _) ?_) | ((first | refine gd1 ?_ ?_ | refine gd2 ?_ ?_ | refine gd3 ?_ ?_) <;> (first | exact @False.elim _ | intro hc)))
    all_goals refine finV_lit vv (chkE_bad fun hk => ?_)
    all_goals exact absurd hk.nb hb
  have d3 : ((h.barre.length : Int) == (h.low.length : Int)) = true := by rw [hb]; simp
  replace hb := Hid.mk hb
  repeat' (with_reducible first | refine x_ops ?_ | refine wk ?_ | (with_reducible refine xc (within_fn _ _ _) ?_) | ((first | refine gd1 ?_ ?_ | refine gd2 ?_ ?_ | refine gd3 ?_ ?_) <;> (first | exact @False.elim _ | intro hc)))
  refine x_loopF w_hand_Check_p6 (by kernel_rfl) h.low.length (fun k t => t 28 = vint (k : Int) ∧ ∀ i, i < k → 0 ≤ h.low.getD i 0 ∧ h.low.getD i 0 ≤ h.high.getD i 0 ∧ h.high.getD i 0 ≤ 8) ?_ ?_
  · exact ⟨vv, fun i h => by omega⟩
  rintro k t hk ⟨h28, hI⟩
  by_cases hlt : k < h.low.length
  · have g1 := ints_at (l := h.low) (k := k) (by omega)
    have hh1 := hh.out
    have g2 := ints_at (l := h.high) (k := k) (by omega)
    have c3 : (k : Int) < (h.high.length : Int) := by omega
    clear hh1
    have c2 : (k : Int) < (h.low.length : Int) := by omega
    have w2 := w_add1 (k := k) (by omega)
    repeat' (with_reducible first | refine x_ops ?_ | refine wk ?_ | ((first | refine gd1 ?_ ?_ | refine gd2 ?_ ?_ | refine gd3 ?_ ?_) <;> (first | exact @False.elim _ | intro hc)))
    all_goals first
      | (refine nf (by omega) ⟨vv, fun i h => ?_⟩ rfl
         by_cases hi : i = k
         · subst hi; exact ⟨by omega, by omega, by omega⟩
         · exact hI i (by omega))
      | (refine finV_lit vv (chkE_bad fun hk => ?_)
         have := hk.each k hlt
         omega)
  have hI : ∀ i, i < h.low.length → 0 ≤ h.low.getD i 0 ∧ h.low.getD i 0 ≤ h.high.getD i 0 ∧ h.high.getD i 0 ≤ 8 := fun i hi => hI i (by omega)
  have c1 : ¬ ((k : Int) < (h.low.length : Int)) := by omega
  have I1 := issorted_fn h.low (by omega)
  have I2 := issorted_fn h.high (by rw [hh.out]; omega)
  clear hlt hk
  cases al : ascB h.low <;> cases ah : ascB h.high <;> cases d4 : (decide (1 ≤ h.top) && decide (h.top ≤ 18)) <;> cases d5 : (decide (0 ≤ h.jump) && decide (h.jump ≤ 18))
  case true.true.true.true =>
    repeat' (with_reducible first | refine x_ops ?_ | refine wk ?_ | (with_reducible refine xc (within_fn _ _ _) ?_) | (with_reducible refine xc (I1) ?_) | (with_reducible refine xc (I2) ?_) | ((first | refine gd1 ?_ ?_ | refine gd2 ?_ ?_ | refine gd3 ?_ ?_) <;> (first | exact @False.elim _ | intro hc)))
    refine x_loopF w_hand_Check_p13 (by kernel_rfl) 5 (fun k t => t 93 = vint (k : Int) ∧ ∀ i, i < k → 0 ≤ (Hand.ws h).getD i 0 ∧ (Hand.ws h).getD i 0 ≤ 1000) ?_ ?_
    · exact ⟨vv, fun i h => by omega⟩
    rintro q t' hq ⟨h93, hJ⟩
    by_cases hlt : q < 5
    · have g1 : [V.lit (.int .i64 h.shift), V.lit (.int .i64 h.lift), V.lit (.int .i64 h.bar), V.lit (.int .i64 h.stretch), V.lit (.int .i64 h.slide)][q]? = some (V.lit (.int .i64 ((Hand.ws h).getD q 0))) := ints_at (l := Hand.ws h) (k := q) hlt
      have c2 : (q : Int) < 5 := by omega
      have w2 := w_add1 (k := q) (by omega)
      cases d6 : (decide (0 ≤ (Hand.ws h).getD q 0) && decide ((Hand.ws h).getD q 0 ≤ 1000))
      · repeat' (with_reducible first | refine x_ops ?_ | refine wk ?_ | (with_reducible refine xc (within_fn _ _ _) ?_) | ((first | refine gd1 ?_ ?_ | refine gd2 ?_ ?_ | refine gd3 ?_ ?_) <;> (first | exact @False.elim _ | intro hc)))
        refine finV_lit vv (chkE_bad fun hk => ?_)
        have := hk.ws q hlt
        rw [decide_eq_true this.1, decide_eq_true this.2] at d6
        cases d6
      · repeat' (with_reducible first | refine x_ops ?_ | refine wk ?_ | (with_reducible refine xc (within_fn _ _ _) ?_) | ((first | refine gd1 ?_ ?_ | refine gd2 ?_ ?_ | refine gd3 ?_ ?_) <;> (first | exact @False.elim _ | intro hc)))
        refine nf (by omega) ⟨vv, fun i h => ?_⟩ rfl
        by_cases hi : i = q
        · subst hi; simpa only [Bool.and_eq_true, decide_eq_true_eq] using d6
        · exact hJ i (by omega)
    · have c3 : ¬ ((q : Int) < 5) := by omega
      repeat' (with_reducible first | refine x_ops ?_ | refine wk ?_ | (with_reducible refine xc (within_fn _ _ _) ?_) | ((first | refine gd1 ?_ ?_ | refine gd2 ?_ ?_ | refine gd3 ?_ ?_) <;> (first | exact @False.elim _ | intro hc)))
      have hq5 : q = 5 := by omega
      refine finV_lit vv (chkE_good ?_)
      simp only [Bool.and_eq_true, decide_eq_true_eq] at d4 d5
      have hJ := fun i (hi : i < 5) => hJ i (by omega)
      exact ⟨hn1, hn4, hh.out, hb.out, hI, al, ah, d4, d5, hJ 0 (by decide), hJ 1 (by decide), hJ 2 (by decide), hJ 3 (by decide), hJ 4 (by decide)⟩
  all_goals
    repeat' (with_reducible first | refine x_ops ?_ | refine wk ?_ | (with_reducible refine xc (within_fn _ _ _) ?_) | (with_reducible refine xc (I1) ?_) | (with_reducible refine xc (I2) ?_) | ((first | refine gd1 ?_ ?_ | refine gd2 ?_ ?_ | refine gd3 ?_ ?_) <;> (first | exact @False.elim _ | intro hc)))
    all_goals refine finV_lit vv (chkE_bad fun hk => ?_)
    all_goals first
      | (have := hk.al; simp_all; done)
      | (have := hk.ah; simp_all; done)
      | (have := hk.top; simp at d4; omega)
      | (have := hk.jump; simp at d5; omega)
end Go.Proofs.Ytojjdkoglhecbaa
namespace Go.Proofs.Ytojjdkoglhecbaa
open Go.RowKit
set_option maxRecDepth 100000

abbrev c_hand_CheckChords_p1 : VC := (.seq (.ops 0 [oo 2 .mv [kk 2]]) .ret)
abbrev c_hand_CheckChords_p2 : VC := (.seq (.ops 0 [oo 2 .mv [kk 1]]) .ret)
abbrev c_hand_CheckChords_p3 : VC := (.seq (.ops 0 [oo 15 (.ldA 3) [.t 4], oo 16 (.call 65) [.t 15], oo 17 (.un .not) [.t 16], oo 18 .mv [.t 17], og 19 18 false .mv [.t 3], og 20 18 false (.bin .gtr) [.t 19, kk 0], og 21 18 false .mv [.t 20], og 22 21 true .mv [.t 0], og 23 21 true .mv [.t 3], og 24 21 true (.bin .sub) [.t 23, kk 1], og 25 21 true (.ixA 3) [.t 22, .t 24], ⟨(some 26), (some (21, true)), (.ldA 3), [.t 25], (some [0, 1, 2, 3, 4, 5, 6, 7, 8, 9, 10])⟩, ⟨(some 27), (some (21, true)), (.ldA 3), [.t 4], (some [0, 1, 2, 3, 4, 5, 6])⟩, og 28 21 true (.call 66) [.t 26, .t 27], og 29 21 true (.un .not) [.t 28], og 30 18 false .pick [.t 21, .t 29, (.c (.lit (.bool false)))], oo 31 .pick [.t 18, (.c (.lit (.bool true))), .t 30]]) (.cond (.t 31) c_hand_CheckChords_p2 .skip))
abbrev c_hand_CheckChords_p4 : VC := (.ops 0 [oo 32 (.bin .add) [.t 10, kk 1], oo 10 .mv [.t 32]])
abbrev c_hand_CheckChords_p5 : VC := (.seq (.block 1 (.seq (.ops 6 [oo 12 .mv [.t 10], oo 13 (.ixA 3) [.t 8, .t 10], oo 14 (.ldA 3) [.t 13], ⟨(some 4), none, (.alloc 47 [(.sl 0 [] .exact), (.sl 0 [] .exact), (.sl 0 [] .exact)]), [], none⟩, oo 3 .mv [.t 12], ⟨none, none, (.st 3), [.t 4, .t 14], none⟩]) c_hand_CheckChords_p3)) c_hand_CheckChords_p4)
abbrev c_hand_CheckChords_p6 : VC := (.seq (.cond (.t 11) .skip (.exit 0)) c_hand_CheckChords_p5)
abbrev c_hand_CheckChords_p7 : VC := (.seq (.ops 0 [oo 11 (.bin .lss) [.t 10, .t 9]]) c_hand_CheckChords_p6)
@[go_sem] abbrev w_hand_CheckChords_p7 : Nat := 8589933596
abbrev c_hand_CheckChords_p9 : VC := (.seq (.ops 0 [oo 2 .mv [kk 0]]) .ret)
abbrev c_hand_CheckChords_p10 : VC := (.seq (.seq (.ops 0 [oo 8 .mv [.t 0], oo 9 .len [.t 8], oo 10 .mv [kk 0]]) (.block 0 (.loop c_hand_CheckChords_p7))) c_hand_CheckChords_p9)
abbrev c_hand_CheckChords_p11 : VC := (.seq (.seq (.ops 0 [oo 5 .mv [.t 0], oo 6 .len [.t 5], oo 7 (.bin .gtr) [.t 6, kk 400]]) (.cond (.t 7) c_hand_CheckChords_p1 .skip)) c_hand_CheckChords_p10)
def c_hand_CheckChords : VC := (.seq (.ops 0 [oo 2 .mv [kk 0]]) c_hand_CheckChords_p11)
theorem k_hand_CheckChords : Comp Try.prog nobx gtab 26 33 c_hand_CheckChords [.t 2] := ⟨⟨Try.f26, _, Try.func26, rfl, rfl, kr, kr⟩⟩
abbrev c_hand_right_p1 : VC := (.seq (.ops 0 [oo 2 .mv [(.c (.lit (.bool false)))]]) .ret)
abbrev c_hand_right_p2 : VC := (.ops 0 [oo 32 (.fldA 0) [.t 5], oo 33 .ld1 [.t 32], oo 3 .mv [.t 33]])
abbrev c_hand_right_p3 : VC := (.seq (.seq (.ops 0 [oo 17 (.fldA 0) [.t 5], oo 18 .ld1 [.t 17], oo 19 .mv [.t 3], oo 20 (.bin .leq) [.t 18, .t 19], oo 21 .mv [.t 20], og 22 21 false (.fldA 0) [.t 5], og 23 21 false .ld1 [.t 22], og 24 21 false (.bin .gtr) [.t 23, kk 14], oo 25 .pick [.t 21, (.c (.lit (.bool true))), .t 24], oo 26 .mv [.t 25], og 27 26 false (.fldA 1) [.t 5], og 28 26 false .ld1 [.t 27], og 29 26 false (.call 63) [.t 28, kk 1, kk 18], og 30 26 false (.un .not) [.t 29], oo 31 .pick [.t 26, (.c (.lit (.bool true))), .t 30]]) (.cond (.t 31) c_hand_right_p1 .skip)) c_hand_right_p2)
abbrev c_hand_right_p4 : VC := (.ops 0 [oo 34 (.bin .add) [.t 13, kk 1], oo 13 .mv [.t 34]])
abbrev c_hand_right_p5 : VC := (.seq (.block 1 (.seq (.ops 4 [oo 15 (.ixA 2) [.t 11, .t 13], oo 16 (.ldA 2) [.t 15], oo 5 (.alloc 92 [li 0, li 0]) [], ⟨none, none, (.st 2), [.t 5, .t 16], none⟩]) c_hand_right_p3)) c_hand_right_p4)
abbrev c_hand_right_p6 : VC := (.seq (.ops 0 [oo 14 (.bin .lss) [.t 13, .t 12]]) (.seq (.cond (.t 14) .skip (.exit 0)) c_hand_right_p5))
@[go_sem] abbrev w_hand_right_p6 : Nat := 34359730220
abbrev c_hand_right_p8 : VC := (.seq (.ops 0 [oo 2 .mv [(.c (.lit (.bool false)))]]) .ret)
abbrev c_hand_right_p9 : VC := (.seq (.ops 0 [oo 2 .mv [(.c (.lit (.bool false)))]]) .ret)
abbrev c_hand_right_p10 : VC := (.seq (.ops 0 [oo 52 (.ldA 3) [.t 1], oo 53 .mv [.t 7], oo 54 (.call 100) [.t 52, .t 53], oo 55 (.bin .lss) [.t 54, kk 0]]) (.cond (.t 55) c_hand_right_p9 .skip))
abbrev c_hand_right_p11 : VC := (.ops 0 [oo 56 (.bin .add) [.t 48, kk 1], oo 48 .mv [.t 56]])
abbrev c_hand_right_p12 : VC := (.seq (.block 3 (.seq (.ops 0 [oo 50 (.ixA 1) [.t 46, .t 48], oo 51 .ld1 [.t 50], oo 7 .mv [.t 51]]) c_hand_right_p10)) c_hand_right_p11)
abbrev c_hand_right_p13 : VC := (.seq (.ops 0 [oo 49 (.bin .lss) [.t 48, .t 47]]) (.seq (.cond (.t 49) .skip (.exit 2)) c_hand_right_p12))
@[go_sem] abbrev w_hand_right_p13 : Nat := 143833713099145348
abbrev c_hand_right_p15 : VC := (.seq (.ops 0 [oo 2 .mv [(.c (.lit (.bool false)))]]) .ret)
abbrev c_hand_right_p16 : VC := (.seq (.ops 0 [oo 64 .mv [.t 9], oo 65 (.call 63) [.t 64, kk 1, kk 14], oo 66 (.un .not) [.t 65], oo 67 .mv [.t 66], og 68 67 false (.ldA 3) [.t 1], og 69 67 false .mv [.t 9], og 70 67 false (.call 100) [.t 68, .t 69], og 71 67 false (.bin .geq) [.t 70, kk 0], oo 72 .pick [.t 67, (.c (.lit (.bool true))), .t 71]]) (.cond (.t 72) c_hand_right_p15 .skip))
abbrev c_hand_right_p17 : VC := (.ops 0 [oo 73 (.bin .add) [.t 60, kk 1], oo 60 .mv [.t 73]])
abbrev c_hand_right_p18 : VC := (.seq (.block 5 (.seq (.ops 0 [oo 62 (.ixA 1) [.t 58, .t 60], oo 63 .ld1 [.t 62], oo 9 .mv [.t 63]]) c_hand_right_p16)) c_hand_right_p17)
abbrev c_hand_right_p19 : VC := (.seq (.ops 0 [oo 61 (.bin .lss) [.t 60, .t 59]]) (.seq (.cond (.t 61) .skip (.exit 4)) c_hand_right_p18))
@[go_sem] abbrev w_hand_right_p19 : Nat := 18888313009973974008324
abbrev c_hand_right_p21 : VC := (.seq (.ops 0 [oo 2 .mv [(.c (.lit (.bool true)))]]) .ret)
abbrev c_hand_right_p22 : VC := (.seq (.seq (.ops 0 [oo 57 (.fldA 2) [.t 1], oo 58 .ld1 [.t 57], oo 59 .len [.t 58], oo 60 .mv [kk 0]]) (.block 4 (.loop c_hand_right_p19))) c_hand_right_p21)
abbrev c_hand_right_p23 : VC := (.seq (.seq (.ops 0 [oo 45 (.fldA 1) [.t 1], oo 46 .ld1 [.t 45], oo 47 .len [.t 46], oo 48 .mv [kk 0]]) (.block 2 (.loop c_hand_right_p13))) c_hand_right_p22)
abbrev c_hand_right_p24 : VC := (.seq (.seq (.ops 0 [oo 35 (.fldA 1) [.t 1], oo 36 .ld1 [.t 35], oo 37 (.call 99) [.t 36], oo 38 (.un .not) [.t 37], oo 39 .mv [.t 38], og 40 39 false (.fldA 2) [.t 1], og 41 39 false .ld1 [.t 40], og 42 39 false (.call 99) [.t 41], og 43 39 false (.un .not) [.t 42], oo 44 .pick [.t 39, (.c (.lit (.bool true))), .t 43]]) (.cond (.t 44) c_hand_right_p8 .skip)) c_hand_right_p23)
abbrev c_hand_right_p25 : VC := (.seq (.seq (.ops 0 [oo 10 (.fldA 0) [.t 1], oo 11 .ld1 [.t 10], oo 12 .len [.t 11], oo 13 .mv [kk 0]]) (.block 0 (.loop c_hand_right_p6))) c_hand_right_p24)
abbrev c_hand_right_p26 : VC := (.seq (.ops 0 [oo 3 .mv [kk 0]]) c_hand_right_p25)
def c_hand_right : VC := (.seq (.ops 2 [oo 1 (.box 47) [.t 0], oo 2 .mv [(.c (.lit (.bool false)))]]) c_hand_right_p26)
theorem k_hand_right : Comp Try.prog nobx gtab 65 74 c_hand_right [.t 2] := ⟨⟨Try.f65, _, Try.func65, rfl, rfl, kr, kr⟩⟩
abbrev c_hand_follows_p1 : VC := (.seq (.ops 0 [oo 4 .mv [(.c (.lit (.bool false)))]]) .ret)
abbrev c_hand_follows_p2 : VC := (.seq (.ops 0 [oo 18 .mv [.t 7], oo 19 (.bin .lss) [.t 18, kk 0], oo 20 .mv [.t 19], og 21 20 false (.fldA 0) [.t 2], ⟨(some 22), (some (20, false)), .ld1, [.t 21], (some [0, 1, 2, 3])⟩, og 23 20 false .mv [.t 7], og 24 20 false (.ixA 2) [.t 22, .t 23], ⟨(some 25), (some (20, false)), (.ldA 2), [.t 24], (some [0, 1, 2, 3, 4, 5, 6])⟩, og 26 20 false (.fldA 0) [.t 3], ⟨(some 27), (some (20, false)), .ld1, [.t 26], (some [0, 1, 2, 8])⟩, ⟨(some 28), (some (20, false)), (.ldA 3), [.t 3], (some [0, 1, 2])⟩, og 29 20 false .mv [.t 6], ⟨(some 30), (some (20, false)), (.call 100), [.t 28, .t 29], (some [0, 1, 2, 10, 11])⟩, og 31 20 false (.ixA 2) [.t 27, .t 30], ⟨(some 32), (some (20, false)), (.ldA 2), [.t 31], (some [0, 1, 2, 8, 9, 10, 11, 12, 13])⟩, og 33 20 false (.eqP [(0, 0), (1, 0)] true) [.t 25, .t 32], oo 34 .pick [.t 20, (.c (.lit (.bool true))), .t 33]]) (.cond (.t 34) c_hand_follows_p1 .skip))
abbrev c_hand_follows_p3 : VC := (.seq (.ops 0 [oo 15 (.ldA 3) [.t 2], oo 16 .mv [.t 6], oo 17 (.call 100) [.t 15, .t 16], oo 7 .mv [.t 17]]) c_hand_follows_p2)
abbrev c_hand_follows_p4 : VC := (.ops 0 [oo 35 (.bin .add) [.t 11, kk 1], oo 11 .mv [.t 35]])
abbrev c_hand_follows_p5 : VC := (.seq (.block 1 (.seq (.ops 0 [oo 13 (.ixA 1) [.t 9, .t 11], oo 14 .ld1 [.t 13], oo 6 .mv [.t 14]]) c_hand_follows_p3)) c_hand_follows_p4)
abbrev c_hand_follows_p6 : VC := (.seq (.ops 0 [oo 12 (.bin .lss) [.t 11, .t 10]]) (.seq (.cond (.t 12) .skip (.exit 0)) c_hand_follows_p5))
@[go_sem] abbrev w_hand_follows_p6 : Nat := 68719474896
abbrev c_hand_follows_p8 : VC := (.seq (.ops 0 [oo 4 .mv [(.c (.lit (.bool true)))]]) .ret)
abbrev c_hand_follows_p9 : VC := (.seq (.seq (.ops 0 [oo 8 (.fldA 1) [.t 3], oo 9 .ld1 [.t 8], oo 10 .len [.t 9], oo 11 .mv [kk 0]]) (.block 0 (.loop c_hand_follows_p6))) c_hand_follows_p8)
def c_hand_follows : VC := (.seq (.ops 3 [oo 2 (.box 47) [.t 0], oo 3 (.box 47) [.t 1], oo 4 .mv [(.c (.lit (.bool false)))]]) c_hand_follows_p9)
theorem k_hand_follows : Comp Try.prog nobx gtab 66 36 c_hand_follows [.t 4] := ⟨⟨Try.f66, _, Try.func66, rfl, rfl, kr, kr⟩⟩
abbrev c_hand_down_p1 : VC := (.seq (.ops 0 [oo 5 (.fldA 0) [.t 2], oo 6 .ld1 [.t 5], oo 7 (.mkfn 130) [.t 3], oo 8 (.call 129) [.t 6, .t 7], oo 4 .mv [.t 8]]) .ret)
def c_hand_down : VC := (.seq (.ops 3 [oo 2 (.box 47) [.t 0], oo 3 (.box 3) [.t 1], oo 4 .mv [kk 0]]) c_hand_down_p1)
theorem k_hand_down : Comp Try.prog nobx gtab 100 9 c_hand_down [.t 4] := ⟨⟨Try.f100, _, Try.func100, rfl, rfl, kr, kr⟩⟩
abbrev c_hand_down_1_p1 : VC := (.seq (.ops 0 [oo 4 (.fldA 0) [.t 2], oo 5 .ld1 [.t 4], oo 6 .ld1 [.t 1], oo 7 (.bin .eql) [.t 5, .t 6], oo 3 .mv [.t 7]]) .ret)
def c_hand_down_1 : VC := (.seq (.ops 2 [oo 2 (.box 92) [.t 0], oo 3 .mv [(.c (.lit (.bool false)))]]) c_hand_down_1_p1)
theorem k_hand_down_1 : Comp Try.prog nobx gtab 130 8 c_hand_down_1 [.t 3] := ⟨⟨Try.f130, _, Try.func130, rfl, rfl, kr, kr⟩⟩
abbrev c_slices_IndexFunc_api_Place_api_Place_p1 : VC := (.seq (.ops 0 [oo 17 .mv [.t 5], oo 4 .mv [.t 17]]) .ret)
abbrev c_slices_IndexFunc_api_Place_api_Place_p2 : VC := (.cond (.t 16) c_slices_IndexFunc_api_Place_api_Place_p1 .skip)
abbrev c_slices_IndexFunc_api_Place_api_Place_p3 : VC := (.seq (.ops 0 [oo 11 .mv [.t 1], oo 12 .mv [.t 0], oo 13 .mv [.t 5], oo 14 (.ixA 2) [.t 12, .t 13], oo 15 (.ldA 2) [.t 14], oo 16 .callv [.t 11, .t 15]]) c_slices_IndexFunc_api_Place_api_Place_p2)
abbrev c_slices_IndexFunc_api_Place_api_Place_p4 : VC := (.ops 0 [oo 18 (.bin .add) [.t 8, kk 1], oo 8 .mv [.t 18]])
abbrev c_slices_IndexFunc_api_Place_api_Place_p5 : VC := (.seq (.block 1 (.seq (.ops 0 [oo 10 .mv [.t 8], oo 5 .mv [.t 10]]) c_slices_IndexFunc_api_Place_api_Place_p3)) c_slices_IndexFunc_api_Place_api_Place_p4)
abbrev c_slices_IndexFunc_api_Place_api_Place_p6 : VC := (.seq (.cond (.t 9) .skip (.exit 0)) c_slices_IndexFunc_api_Place_api_Place_p5)
abbrev c_slices_IndexFunc_api_Place_api_Place_p7 : VC := (.seq (.ops 0 [oo 9 (.bin .lss) [.t 8, .t 7]]) c_slices_IndexFunc_api_Place_api_Place_p6)
@[go_sem] abbrev w_slices_IndexFunc_api_Place_api_Place_p7 : Nat := 524080
abbrev c_slices_IndexFunc_api_Place_api_Place_p9 : VC := (.block 0 (.loop c_slices_IndexFunc_api_Place_api_Place_p7))
abbrev c_slices_IndexFunc_api_Place_api_Place_p10 : VC := (.seq (.ops 0 [oo 4 .mv [kk (-1)]]) .ret)
abbrev c_slices_IndexFunc_api_Place_api_Place_p11 : VC := (.seq (.seq (.ops 0 [oo 6 .mv [.t 0], oo 7 .len [.t 6], oo 8 .mv [kk 0]]) c_slices_IndexFunc_api_Place_api_Place_p9) c_slices_IndexFunc_api_Place_api_Place_p10)
def c_slices_IndexFunc_api_Place_api_Place : VC := (.seq (.ops 0 [oo 4 .mv [kk 0]]) c_slices_IndexFunc_api_Place_api_Place_p11)
theorem k_slices_IndexFunc_api_Place_api_Place : Comp Try.prog nobx gtab 129 19 c_slices_IndexFunc_api_Place_api_Place [.t 4] := ⟨⟨Try.f129, _, Try.func129, rfl, rfl, kr, kr⟩⟩
abbrev c_theorboref06_CheckChords_p1 : VC := (.seq (.ops 0 [oo 2 .mv [kk 2]]) .ret)
abbrev c_theorboref06_CheckChords_p2 : VC := (.seq (.ops 0 [oo 2 .mv [kk 1]]) .ret)
abbrev c_theorboref06_CheckChords_p3 : VC := (.seq (.ops 0 [oo 2 .mv [kk 1]]) .ret)
abbrev c_theorboref06_CheckChords_p4 : VC := (.ops 0 [oo 32 .mv [.t 4], oo 33 (.bin .add) [.t 32, kk 1], oo 4 .mv [.t 33]])
abbrev c_theorboref06_CheckChords_p5 : VC := (.seq (.block 3 (.seq (.ops 0 [oo 34 .mv [.t 0], oo 35 .mv [.t 3], oo 36 (.ixA 3) [.t 34, .t 35], od 37 (.ldA 3) [.t 36] [0, 1, 2], oo 38 .mv [.t 0], oo 39 .mv [.t 3], oo 40 (.ixA 3) [.t 38, .t 39], oo 41 (.fldA 1) [.t 40], od 42 .ld1 [.t 41] [4, 5, 6, 7], oo 43 .mv [.t 4], oo 44 (.ixA 1) [.t 42, .t 43], od 45 .ld1 [.t 44] [4, 5, 6, 7, 8, 9, 10], od 46 (.call 68) [.t 37, .t 45] [0, 1, 2, 3, 4, 5, 6, 7, 8, 9, 10, 11], oo 47 .mv [.t 0], oo 48 .mv [.t 3], oo 49 (.bin .sub) [.t 48, kk 1], oo 50 (.ixA 3) [.t 47, .t 49], od 51 (.ldA 3) [.t 50] [13, 14, 15, 16], oo 52 .mv [.t 0], oo 53 .mv [.t 3], oo 54 (.ixA 3) [.t 52, .t 53], oo 55 (.fldA 1) [.t 54], od 56 .ld1 [.t 55] [18, 19, 20, 21], oo 57 .mv [.t 4], oo 58 (.ixA 1) [.t 56, .t 57], od 59 .ld1 [.t 58] [18, 19, 20, 21, 22, 23, 24], oo 60 (.call 68) [.t 51, .t 59], oo 61 (.eqP [(0, 0), (1, 0)] true) [.t 46, .t 60]]) (.cond (.t 61) c_theorboref06_CheckChords_p3 .skip))) c_theorboref06_CheckChords_p4)
abbrev c_theorboref06_CheckChords_p6 : VC := (.seq (.seq (.ops 0 [oo 20 .mv [.t 3], oo 21 (.bin .gtr) [.t 20, kk 0], oo 22 .mv [.t 21], og 23 22 true .mv [.t 4], og 24 22 true .mv [.t 0], og 25 22 true .mv [.t 3], og 26 22 true (.ixA 3) [.t 24, .t 25], og 27 22 true (.fldA 1) [.t 26], og 28 22 true .ld1 [.t 27], og 29 22 true .len [.t 28], og 30 22 true (.bin .lss) [.t 23, .t 29], oo 31 .pick [.t 22, .t 30, (.c (.lit (.bool false)))]]) (.cond (.t 31) .skip (.exit 2))) c_theorboref06_CheckChords_p5)
@[go_sem] abbrev w_theorboref06_CheckChords_p6 : Nat := 4611686018426339348
abbrev c_theorboref06_CheckChords_p8 : VC := (.seq (.ops 0 [oo 4 .mv [kk 0]]) (.block 2 (.loop c_theorboref06_CheckChords_p6)))
abbrev c_theorboref06_CheckChords_p9 : VC := (.ops 0 [oo 12 .mv [.t 3], oo 13 (.bin .add) [.t 12, kk 1], oo 3 .mv [.t 13]])
abbrev c_theorboref06_CheckChords_p10 : VC := (.seq (.block 1 (.seq (.seq (.ops 0 [oo 14 .mv [.t 0], oo 15 .mv [.t 3], oo 16 (.ixA 3) [.t 14, .t 15], oo 17 (.ldA 3) [.t 16], oo 18 (.call 67) [.t 17], oo 19 (.un .not) [.t 18]]) (.cond (.t 19) c_theorboref06_CheckChords_p2 .skip)) c_theorboref06_CheckChords_p8)) c_theorboref06_CheckChords_p9)
abbrev c_theorboref06_CheckChords_p11 : VC := (.seq (.seq (.ops 0 [oo 8 .mv [.t 3], oo 9 .mv [.t 0], oo 10 .len [.t 9], oo 11 (.bin .lss) [.t 8, .t 10]]) (.cond (.t 11) .skip (.exit 0))) c_theorboref06_CheckChords_p10)
@[go_sem] abbrev w_theorboref06_CheckChords_p11 : Nat := 4611686018427387676
abbrev c_theorboref06_CheckChords_p13 : VC := (.seq (.ops 0 [oo 2 .mv [kk 0]]) .ret)
abbrev c_theorboref06_CheckChords_p14 : VC := (.seq (.seq (.ops 0 [oo 3 .mv [kk 0]]) (.block 0 (.loop c_theorboref06_CheckChords_p11))) c_theorboref06_CheckChords_p13)
abbrev c_theorboref06_CheckChords_p15 : VC := (.seq (.seq (.ops 0 [oo 5 .mv [.t 0], oo 6 .len [.t 5], oo 7 (.bin .gtr) [.t 6, kk 400]]) (.cond (.t 7) c_theorboref06_CheckChords_p1 .skip)) c_theorboref06_CheckChords_p14)
def c_theorboref06_CheckChords : VC := (.seq (.ops 0 [oo 2 .mv [kk 0]]) c_theorboref06_CheckChords_p15)
theorem k_theorboref06_CheckChords : Comp Try.prog nobx gtab 27 62 c_theorboref06_CheckChords [.t 2] := ⟨⟨Try.f27, _, Try.func27, rfl, rfl, kr, kr⟩⟩
abbrev c_theorboref06_Good_p1 : VC := (.seq (.ops 0 [oo 2 .mv [(.c (.lit (.bool false)))]]) .ret)
abbrev c_theorboref06_Good_p2 : VC := (.ops 10 [oo 30 .mv [.t 3], oo 31 (.fldA 0) [.t 1], oo 32 .ld1 [.t 31], oo 33 .mv [.t 4], oo 34 (.ixA 2) [.t 32, .t 33], oo 35 (.fldA 0) [.t 34], oo 36 .ld1 [.t 35], oo 37 (.mksl 1 1 [li 0] [(0, 1)]) [.t 36], oo 38 (.app 3 1 8) [.t 30, .t 37], oo 3 .mv [.t 38]])
abbrev c_theorboref06_Good_p3 : VC := (.ops 0 [oo 12 .mv [.t 4], oo 13 (.bin .add) [.t 12, kk 1], oo 4 .mv [.t 13]])
abbrev c_theorboref06_Good_p4 : VC := (.seq (.block 1 (.seq (.seq (.ops 0 [oo 14 (.fldA 0) [.t 1], oo 15 .ld1 [.t 14], oo 16 .mv [.t 4], oo 17 (.ixA 2) [.t 15, .t 16], oo 18 (.fldA 1) [.t 17], oo 19 .ld1 [.t 18], oo 20 (.bin .lss) [.t 19, kk 1], oo 21 .mv [.t 20], og 22 21 false (.fldA 0) [.t 1], og 23 21 false .ld1 [.t 22], og 24 21 false .mv [.t 4], og 25 21 false (.ixA 2) [.t 23, .t 24], og 26 21 false (.fldA 1) [.t 25], og 27 21 false .ld1 [.t 26], og 28 21 false (.bin .gtr) [.t 27, kk 18], oo 29 .pick [.t 21, (.c (.lit (.bool true))), .t 28]]) (.cond (.t 29) c_theorboref06_Good_p1 .skip)) c_theorboref06_Good_p2)) c_theorboref06_Good_p3)
abbrev c_theorboref06_Good_p5 : VC := (.seq (.seq (.ops 0 [oo 7 .mv [.t 4], oo 8 (.fldA 0) [.t 1], oo 9 .ld1 [.t 8], oo 10 .len [.t 9], oo 11 (.bin .lss) [.t 7, .t 10]]) (.cond (.t 11) .skip (.exit 0))) c_theorboref06_Good_p4)
@[go_sem] abbrev w_theorboref06_Good_p5 : Nat := 549755813788
abbrev c_theorboref06_Good_p7 : VC := (.seq (.ops 0 [oo 2 .mv [(.c (.lit (.bool false)))]]) .ret)
abbrev c_theorboref06_Good_p8 : VC := (.seq (.ops 0 [oo 2 .mv [(.c (.lit (.bool false)))]]) .ret)
abbrev c_theorboref06_Good_p9 : VC := (.ops 0 [oo 59 .mv [.t 5], oo 60 (.bin .add) [.t 59, kk 1], oo 5 .mv [.t 60]])
abbrev c_theorboref06_Good_p10 : VC := (.seq (.block 3 (.seq (.ops 0 [od 61 (.ldA 3) [.t 1] [], oo 62 (.fldA 1) [.t 1], od 63 .ld1 [.t 62] [1], oo 64 .mv [.t 5], oo 65 (.ixA 1) [.t 63, .t 64], od 66 .ld1 [.t 65] [1, 2, 3, 4], oo 67 (.call 68) [.t 61, .t 66], oo 68 (.fld 0 1 false) [.t 67], oo 69 (.bin .eql) [.t 68, kk 0]]) (.cond (.t 69) c_theorboref06_Good_p8 .skip))) c_theorboref06_Good_p9)
abbrev c_theorboref06_Good_p11 : VC := (.seq (.seq (.ops 0 [oo 54 .mv [.t 5], oo 55 (.fldA 1) [.t 1], oo 56 .ld1 [.t 55], oo 57 .len [.t 56], oo 58 (.bin .lss) [.t 54, .t 57]]) (.cond (.t 58) .skip (.exit 2))) c_theorboref06_Good_p10)
@[go_sem] abbrev w_theorboref06_Good_p11 : Nat := 1180573606318901821476
abbrev c_theorboref06_Good_p13 : VC := (.seq (.ops 0 [oo 2 .mv [(.c (.lit (.bool false)))]]) .ret)
abbrev c_theorboref06_Good_p14 : VC := (.ops 0 [oo 75 .mv [.t 6], oo 76 (.bin .add) [.t 75, kk 1], oo 6 .mv [.t 76]])
abbrev c_theorboref06_Good_p15 : VC := (.seq (.block 5 (.seq (.ops 0 [od 77 (.ldA 3) [.t 1] [], oo 78 (.fldA 2) [.t 1], od 79 .ld1 [.t 78] [1], oo 80 .mv [.t 6], oo 81 (.ixA 1) [.t 79, .t 80], od 82 .ld1 [.t 81] [1, 2, 3, 4], oo 83 (.call 68) [.t 77, .t 82], oo 84 (.fld 0 1 false) [.t 83], oo 85 (.bin .neq) [.t 84, kk 0]]) (.cond (.t 85) c_theorboref06_Good_p13 .skip))) c_theorboref06_Good_p14)
abbrev c_theorboref06_Good_p16 : VC := (.seq (.seq (.ops 0 [oo 70 .mv [.t 6], oo 71 (.fldA 2) [.t 1], oo 72 .ld1 [.t 71], oo 73 .len [.t 72], oo 74 (.bin .lss) [.t 70, .t 73]]) (.cond (.t 74) .skip (.exit 4))) c_theorboref06_Good_p15)
@[go_sem] abbrev w_theorboref06_Good_p16 : Nat := 77370071863715549769891908
abbrev c_theorboref06_Good_p18 : VC := (.seq (.ops 0 [oo 2 .mv [(.c (.lit (.bool true)))]]) .ret)
abbrev c_theorboref06_Good_p19 : VC := (.seq (.seq (.ops 0 [oo 6 .mv [kk 0]]) (.block 4 (.loop c_theorboref06_Good_p16))) c_theorboref06_Good_p18)
abbrev c_theorboref06_Good_p20 : VC := (.seq (.seq (.ops 0 [oo 5 .mv [kk 0]]) (.block 2 (.loop c_theorboref06_Good_p11))) c_theorboref06_Good_p19)
abbrev c_theorboref06_Good_p21 : VC := (.seq (.seq (.ops 0 [oo 39 .mv [.t 3], oo 40 (.call 101) [.t 39], oo 41 (.un .not) [.t 40], oo 42 .mv [.t 41], og 43 42 false (.fldA 1) [.t 1], og 44 42 false .ld1 [.t 43], og 45 42 false (.call 101) [.t 44], og 46 42 false (.un .not) [.t 45], oo 47 .pick [.t 42, (.c (.lit (.bool true))), .t 46], oo 48 .mv [.t 47], og 49 48 false (.fldA 2) [.t 1], og 50 48 false .ld1 [.t 49], og 51 48 false (.call 101) [.t 50], og 52 48 false (.un .not) [.t 51], oo 53 .pick [.t 48, (.c (.lit (.bool true))), .t 52]]) (.cond (.t 53) c_theorboref06_Good_p7 .skip)) c_theorboref06_Good_p20)
abbrev c_theorboref06_Good_p22 : VC := (.seq (.seq (.ops 0 [oo 4 .mv [kk 0]]) (.block 0 (.loop c_theorboref06_Good_p5))) c_theorboref06_Good_p21)
abbrev c_theorboref06_Good_p23 : VC := (.seq (.ops 0 [oo 3 .mv [(.c (.sl 0 [] .exact))]]) c_theorboref06_Good_p22)
def c_theorboref06_Good : VC := (.seq (.ops 2 [oo 1 (.box 47) [.t 0], oo 2 .mv [(.c (.lit (.bool false)))]]) c_theorboref06_Good_p23)
theorem k_theorboref06_Good : Comp Try.prog nobx gtab 67 86 c_theorboref06_Good [.t 2] := ⟨⟨Try.f67, _, Try.func67, rfl, rfl, kr, kr⟩⟩
end Go.Proofs.Ytojjdkoglhecbaa
namespace Go.Proofs.Ytojjdkoglhecbaa
open Go.RowKit
set_option linter.unusedSimpArgs false
set_option linter.unusedVariables false

/-- The first place on a course; how many there are, if there is none. -/
def fI : List (Int × Int) → Int → Nat
  | [], _ => 0
  | p :: l, c => if p.1 = c then 0 else fI l c + 1
theorem fI_le (l : List (Int × Int)) (c : Int) : fI l c ≤ l.length := by
  induction l with
  | nil => exact Nat.le_refl _
  | cons p l ih => rw [fI]; split <;> simp <;> omega
theorem fI_at {l : List (Int × Int)} {c : Int} (h : fI l c < l.length) : (l.getD (fI l c) (0, 0)).1 = c := by
  induction l with
  | nil => simp at h
  | cons p l ih =>
    rw [fI] at h ⊢
    split
    · rename_i hp; simpa using hp
    · rename_i hp
      rw [if_neg hp] at h
      simpa using ih (by simpa using h)
theorem fI_before {l : List (Int × Int)} {c : Int} {j : Nat} (h : j < fI l c) : (l.getD j (0, 0)).1 ≠ c := by
  induction l generalizing j with
  | nil => simp [fI] at h
  | cons p l ih =>
    rw [fI] at h
    split at h
    · omega
    · rename_i hp
      cases j with
      | zero => simpa using hp
      | succ j => simpa using ih (by omega)
theorem fI_eq {l : List (Int × Int)} {c : Int} {k : Nat} (h : ∀ j, j < k → (l.getD j (0, 0)).1 ≠ c) (hk : k < l.length) (hc : (l.getD k (0, 0)).1 = c) : fI l c = k := by
  rcases Nat.lt_trichotomy (fI l c) k with h1 | h1 | h1
  · exact absurd (fI_at (by omega)) (h _ h1)
  · exact h1
  · exact absurd hc (fI_before h1)
theorem fI_none {l : List (Int × Int)} {c : Int} (h : ∀ j, j < l.length → (l.getD j (0, 0)).1 ≠ c) : fI l c = l.length := by
  rcases Nat.lt_or_ge (fI l c) l.length with h1 | h1
  · exact absurd (fI_at h1) (h _ h1)
  · exact Nat.le_antisymm (fI_le l c) h1
/-- The index as the program has it. -/
def dnI (l : List (Int × Int)) (c : Int) : Int := if fI l c < l.length then (fI l c : Int) else -1

theorem down1_fn (a b c : Int) : Fn Try.prog Gd 130 [.agg [vint a, vint b], .ept [vint c] 0] (vbool (a == c)) := by
  refine Fn.of_vx0 k_hand_down_1 (by simp) rfl ?_
  unfold c_hand_down_1
  repeat' (with_reducible first | refine x_ops ?_ | refine wk ?_ | ((first | refine gd1 ?_ ?_ | refine gd2 ?_ ?_ | refine gd3 ?_ ?_) <;> (first | exact @False.elim _ | intro hc)))
  exact finV_lit vv rfl
theorem call_down1 : callable Try.prog 130 = true := by kernel_rfl
theorem indexfunc_fn (l : List (Int × Int)) (c : Int) (hl : l.length ≤ 4611686018427387904) : Fn Try.prog Gd 129 [tPs l, .fn 130 [.ept [vint c] 0]] (vint (dnI l c)) := by
  refine Fn.of_vx0 k_slices_IndexFunc_api_Place_api_Place (by simp) (by rw [V.pures, pure_tPs]; rfl) ?_
  unfold c_slices_IndexFunc_api_Place_api_Place
  repeat' (with_reducible first | refine x_ops ?_ | refine wk ?_ | ((first | refine gd1 ?_ ?_ | refine gd2 ?_ ?_ | refine gd3 ?_ ?_) <;> (first | exact @False.elim _ | intro hc)))
  refine x_loopF w_slices_IndexFunc_api_Place_api_Place_p7 (by kernel_rfl) l.length (fun k t => t 8 = vint (k : Int) ∧ ∀ i, i < k → (l.getD i (0, 0)).1 ≠ c) ?_ ?_
  · exact ⟨vv, fun i h => by omega⟩
  rintro k t hk ⟨h8, hI⟩
  by_cases hlt : k < l.length
  · have g1 := pls_take hlt
    have g2 := pls_len l
    have c2 : (k : Int) < (l.length : Int) := by omega
    have c3 : k * 2 + 2 ≤ l.length * 2 := by omega
    have w2 := w_add1 (k := k) (by omega)
    repeat' (with_reducible first | refine x_ops ?_ | refine wk ?_ | (with_reducible refine x_callvF (by (simp only [go_sem, Nat.reduceAdd, Nat.reduceEqDiff, Nat.reduceLT, Nat.reduceLeDiff, Nat.reduceMul, Nat.reduceSub, Nat.reducePow, Nat.reduceDiv, Nat.reduceMod, Nat.reduceBEq, Int.reduceBEq, Int.reduceLT, reduceIte, V.norms, V.norm, tIs, tBs, tPs, *]); first | done | rfl) call_down1 (down1_fn _ _ _) (by (simp only [go_sem, Nat.reduceAdd, Nat.reduceEqDiff, Nat.reduceLT, Nat.reduceLeDiff, Nat.reduceMul, Nat.reduceSub, Nat.reducePow, Nat.reduceDiv, Nat.reduceMod, Nat.reduceBEq, Int.reduceBEq, Int.reduceLT, reduceIte, V.norms, V.norm, tIs, tBs, tPs, *]); first | done | rfl) ?_) | ((first | refine gd1 ?_ ?_ | refine gd2 ?_ ?_ | refine gd3 ?_ ?_) <;> (first | exact @False.elim _ | intro hc)))
    · refine finV_lit vv ?_
      have := fI_eq hI hlt (by simpa using hc)
      rw [dnI, this, if_pos hlt]
    · refine nf (by omega) ⟨vv, fun i h => ?_⟩ rfl
      by_cases hi : i = k
      · subst hi; simpa using hc
      · exact hI i (by omega)
  · have c1 : ¬ ((k : Int) < (l.length : Int)) := by omega
    repeat' (with_reducible first | refine x_ops ?_ | refine wk ?_ | ((first | refine gd1 ?_ ?_ | refine gd2 ?_ ?_ | refine gd3 ?_ ?_) <;> (first | exact @False.elim _ | intro hc)))
    refine finV_lit vv ?_
    have hI := fun i (h : i < l.length) => hI i (by omega)
    rw [dnI, fI_none hI, if_neg (by omega)]

structure Chord where
  down : List (Int × Int)
  held : List Int
  opn : List Int
def Chord.cells (c : Chord) : List V := [tPs c.down, tIs c.held, tIs c.opn]
def Chord.val (c : Chord) : V := .agg c.cells
theorem pure_chord (c : Chord) : c.val.pure = true := by
  rw [Chord.val, V.pure, Chord.cells]
  simp only [V.pures, pure_tIs, pure_tPs, Bool.and_self]

theorem down_fn (c : Chord) (co : Int) (hl : c.down.length ≤ 4611686018427387904) : Fn Try.prog Gd 100 [c.val, vint co] (vint (dnI c.down co)) := by
  refine Fn.of_vx0 k_hand_down (by simp) (by rw [V.pures, pure_chord]; rfl) ?_
  unfold c_hand_down Chord.val Chord.cells
  have h1 := indexfunc_fn c.down co hl
  repeat' (with_reducible first | refine x_ops ?_ | refine wk ?_ | ((first | refine gd1 ?_ ?_ | refine gd2 ?_ ?_ | refine gd3 ?_ ?_) <;> (first | exact @False.elim _ | intro hc)))
  refine x_lend allS h1 rfl ?_ ?_
  · (simp only [go_sem, Nat.reduceAdd, Nat.reduceEqDiff, Nat.reduceLT, Nat.reduceLeDiff, Nat.reduceMul, Nat.reduceSub, Nat.reducePow, Nat.reduceDiv, Nat.reduceMod, Nat.reduceBEq, Int.reduceBEq, Int.reduceLT, reduceIte, V.norms, V.norm, tIs, tBs, tPs, *])
    exact .cons (.sl _ _ _) (.cons (.fn (.cons (.ptr rfl vw (.cons (.lit _) .nil) rfl) .nil)) .nil)
  repeat' (with_reducible first | refine x_ops ?_ | refine wk ?_ | ((first | refine gd1 ?_ ?_ | refine gd2 ?_ ?_ | refine gd3 ?_ ?_) <;> (first | exact @False.elim _ | intro hc)))
  exact finV_lit vv rfl
end Go.Proofs.Ytojjdkoglhecbaa
namespace Go.Proofs.Ytojjdkoglhecbaa
open Go.RowKit
set_option linter.unusedSimpArgs false
set_option linter.unusedVariables false

/-- A valid chord. -/
structure ChordOk (c : Chord) : Prop where
  each : ∀ i, i < c.down.length → (1 ≤ (c.down.getD i (0, 0)).1 ∧ (c.down.getD i (0, 0)).1 ≤ 14) ∧ 1 ≤ (c.down.getD i (0, 0)).2 ∧ (c.down.getD i (0, 0)).2 ≤ 18
  rise : ∀ i, i + 1 < c.down.length → (c.down.getD i (0, 0)).1 < (c.down.getD (i + 1) (0, 0)).1
  rh : risB c.held = true
  ro : risB c.opn = true
  held : ∀ i, i < c.held.length → fI c.down (c.held.getD i 0) < c.down.length
  opn : ∀ i, i < c.opn.length → (1 ≤ c.opn.getD i 0 ∧ c.opn.getD i 0 ≤ 14) ∧ fI c.down (c.opn.getD i 0) = c.down.length
noncomputable def rgtB (c : Chord) : Bool := @decide (ChordOk c) (Classical.propDecidable _)
theorem rgt_bad {c : Chord} (hn : ¬ ChordOk c) : Value.bool false = Value.bool (rgtB c) := by unfold rgtB; simp [hn]
theorem rgt_good {c : Chord} (hn : ChordOk c) : Value.bool true = Value.bool (rgtB c) := by unfold rgtB; simp [hn]
/-- The course before. -/
def lastC (l : List (Int × Int)) (k : Nat) : Int := if k = 0 then 0 else (l.getD (k - 1) (0, 0)).1
theorem lastC_succ (l : List (Int × Int)) (k : Nat) : lastC l (k + 1) = (l.getD k (0, 0)).1 := by rw [lastC, if_neg (by omega)]; rfl
theorem lt_len {c : Chord} {co : Int} : dnI c.down co < 0 ↔ ¬ fI c.down co < c.down.length := by
  rw [dnI]
  split
  · rename_i h; exact ⟨fun h' => by omega, fun h' => absurd h h'⟩
  · rename_i h; exact ⟨fun _ => h, fun _ => by omega⟩

set_option maxHeartbeats 1000000 in
theorem right_fn (c : Chord) (hl : c.down.length ≤ 4611686018427387904 ∧ c.held.length ≤ 4611686018427387904 ∧ c.opn.length ≤ 4611686018427387904) : Fn Try.prog Gd 65 [c.val] (vbool (rgtB c)) := by
  refine Fn.of_vx0 k_hand_right (by simp) (by rw [V.pures, pure_chord]; rfl) ?_
  have D1 := fun co => down_fn c co hl.1
  unfold Chord.val Chord.cells at D1
  have R1 := rising_fn c.held hl.2.1
  have R2 := rising_fn c.opn hl.2.2
  obtain ⟨hl1, hl2, hl3⟩ := hl
  unfold c_hand_right Chord.val Chord.cells
  repeat' (with_reducible first | refine x_ops ?_ | refine wk ?_ | ((first | refine gd1 ?_ ?_ | refine gd2 ?_ ?_ | refine gd3 ?_ ?_) <;> (first | exact @False.elim _ | intro hc)))
  refine x_loopW w_hand_right_p6 (by kernel_rfl) c.down.length (fun k t m => t 13 = vint (k : Int) ∧ t 3 = vint (lastC c.down k) ∧ m.obj 0 = some (.box [tPs c.down, tIs c.held, tIs c.opn] 47) ∧ 0 < m.next ∧
    ∀ i, i < k → (lastC c.down i < (c.down.getD i (0, 0)).1 ∧ (c.down.getD i (0, 0)).1 ≤ 14) ∧ 1 ≤ (c.down.getD i (0, 0)).2 ∧ (c.down.getD i (0, 0)).2 ≤ 18) ?_ ?_
  · exact ⟨vv, vv, vv, by ((refine ve ?_; try exact True.intro)); try omega, fun i h => by omega⟩
  rintro k t m hk ⟨h13, h3, hm, hn, hI⟩
  by_cases hlt : k < c.down.length
  · have g1 := pls_take hlt
    have g2 := pls_len c.down
    have c2 : (k : Int) < (c.down.length : Int) := by omega
    have c3 : k * 2 + 2 ≤ c.down.length * 2 := by omega
    have w2 := w_add1 (k := k) (by omega)
    have lst : Hid (ChordOk c → lastC c.down k < (c.down.getD k (0, 0)).1) := ⟨fun hk => by
      rw [lastC]
      split
      · have := hk.each k hlt; omega
      · have := hk.rise (k - 1) (by omega)
        rwa [Nat.sub_add_cancel (by omega)] at this⟩
    cases d1 : (decide (1 ≤ (c.down.getD k (0, 0)).2) && decide ((c.down.getD k (0, 0)).2 ≤ 18))
    all_goals
      repeat' (with_reducible first | refine x_ops ?_ | refine wk ?_ | (with_reducible refine xc (within_fn _ _ _) ?_) | ((first | refine gd1 ?_ ?_ | refine gd2 ?_ ?_ | refine gd3 ?_ ?_) <;> (first | exact @False.elim _ | intro hc)))
      all_goals first
        | (refine nx (by omega) ⟨vv, by ((refine ve ?_; try exact True.intro)); rw [lastC_succ], by exact vw, by ((refine ve ?_; try exact True.intro)); omega, fun i h => ?_⟩
           by_cases hi : i = k
           · subst hi
             simp only [Bool.and_eq_true, decide_eq_true_eq] at d1
             exact ⟨by omega, d1⟩
           · exact hI i (by omega))
        | (refine finV_lit vv (rgt_bad fun hk => ?_)
           have h5 := hk.each k hlt
           first
             | omega
             | (rw [decide_eq_true h5.2.1, decide_eq_true h5.2.2] at d1; cases d1; done)
             | (have := lst.out hk
                omega))
  have hI := fun i (h : i < c.down.length) => hI i (by omega)
  have c1 : ¬ ((k : Int) < (c.down.length : Int)) := by omega
  clear hlt hk
  have e1 : ∀ i, i < c.down.length → (1 ≤ (c.down.getD i (0, 0)).1 ∧ (c.down.getD i (0, 0)).1 ≤ 14) ∧ 1 ≤ (c.down.getD i (0, 0)).2 ∧ (c.down.getD i (0, 0)).2 ≤ 18 := by
    intro i hi
    refine ⟨⟨?_, (hI i hi).1.2⟩, (hI i hi).2⟩
    induction i with
    | zero => have := (hI 0 hi).1.1; rw [lastC, if_pos rfl] at this; omega
    | succ i ih => have := (hI (i + 1) hi).1.1; rw [lastC_succ] at this; have := ih (by omega); omega
  have e2 : ∀ i, i + 1 < c.down.length → (c.down.getD i (0, 0)).1 < (c.down.getD (i + 1) (0, 0)).1 := fun i hi => by
    have := (hI (i + 1) hi).1.1; rwa [lastC_succ] at this
  replace e1 := Hid.mk e1
  replace e2 := Hid.mk e2
  clear hI
  cases rh : risB c.held
  · repeat' (with_reducible first | refine x_ops ?_ | refine wk ?_ | (with_reducible refine xc (R1) ?_) | ((first | refine gd1 ?_ ?_ | refine gd2 ?_ ?_ | refine gd3 ?_ ?_) <;> (first | exact @False.elim _ | intro hc)))
    exact finV_lit vv (rgt_bad fun hk => by rw [hk.rh] at rh; cases rh)
  cases ro : risB c.opn
  · repeat' (with_reducible first | refine x_ops ?_ | refine wk ?_ | (with_reducible refine xc (R1) ?_) | (with_reducible refine xc (R2) ?_) | ((first | refine gd1 ?_ ?_ | refine gd2 ?_ ?_ | refine gd3 ?_ ?_) <;> (first | exact @False.elim _ | intro hc)))
    exact finV_lit vv (rgt_bad fun hk => by rw [hk.ro] at ro; cases ro)
  repeat' (with_reducible first | refine x_ops ?_ | refine wk ?_ | (with_reducible refine xc (R1) ?_) | (with_reducible refine xc (R2) ?_) | ((first | refine gd1 ?_ ?_ | refine gd2 ?_ ?_ | refine gd3 ?_ ?_) <;> (first | exact @False.elim _ | intro hc)))
  refine x_loopF w_hand_right_p13 (by kernel_rfl) c.held.length (fun k t => t 48 = vint (k : Int) ∧ ∀ i, i < k → fI c.down (c.held.getD i 0) < c.down.length) ?_ ?_
  · exact ⟨vv, fun i h => by omega⟩
  rintro q t' hq ⟨h48, hJ⟩
  by_cases hlt : q < c.held.length
  · have g1 := ints_at hlt
    have c2 : (q : Int) < (c.held.length : Int) := by omega
    have w2 := w_add1 (k := q) (by omega)
    repeat' (with_reducible first | refine x_ops ?_ | refine wk ?_ | (with_reducible refine xc (D1 _) ?_) | ((first | refine gd1 ?_ ?_ | refine gd2 ?_ ?_ | refine gd3 ?_ ?_) <;> (first | exact @False.elim _ | intro hc)))
    · refine finV_lit vv (rgt_bad fun hk => ?_)
      exact lt_len.1 hc (hk.held q hlt)
    · refine nf (by omega) ⟨vv, fun i h => ?_⟩ rfl
      by_cases hi : i = q
      · subst hi; exact Decidable.not_not.1 fun h => hc (lt_len.2 h)
      · exact hJ i (by omega)
  have hJ := Hid.mk fun i (h : i < c.held.length) => hJ i (by omega)
  have c4 : ¬ ((q : Int) < (c.held.length : Int)) := by omega
  clear hlt hq
  repeat' (with_reducible first | refine x_ops ?_ | refine wk ?_ | ((first | refine gd1 ?_ ?_ | refine gd2 ?_ ?_ | refine gd3 ?_ ?_) <;> (first | exact @False.elim _ | intro hc)))
  refine x_loopF w_hand_right_p19 (by kernel_rfl) c.opn.length (fun k t => t 60 = vint (k : Int) ∧ ∀ i, i < k → (1 ≤ c.opn.getD i 0 ∧ c.opn.getD i 0 ≤ 14) ∧ ¬ fI c.down (c.opn.getD i 0) < c.down.length) ?_ ?_
  · exact ⟨vv, fun i h => by omega⟩
  rintro p t2 hp ⟨h60, hL⟩
  by_cases hlt : p < c.opn.length
  · have g1 := ints_at hlt
    have c2 : (p : Int) < (c.opn.length : Int) := by omega
    have w2 := w_add1 (k := p) (by omega)
    cases d1 : (decide (1 ≤ c.opn.getD p 0) && decide (c.opn.getD p 0 ≤ 14))
    all_goals
      repeat' (with_reducible first | refine x_ops ?_ | refine wk ?_ | (with_reducible refine xc (within_fn _ _ _) ?_) | (with_reducible refine xc (D1 _) ?_) | ((first | refine gd1 ?_ ?_ | refine gd2 ?_ ?_ | refine gd3 ?_ ?_) <;> (first | exact @False.elim _ | intro hc)))
      all_goals first
        | (refine nf (by omega) ⟨vv, fun i h => ?_⟩ rfl
           by_cases hi : i = p
           · subst hi
             simp only [Bool.and_eq_true, decide_eq_true_eq] at d1
             exact ⟨d1, lt_len.1 (by omega)⟩
           · exact hL i (by omega))
        | (refine finV_lit vv (rgt_bad fun hk => ?_)
           have h5 := hk.opn p hlt
           first
             | (rw [decide_eq_true h5.1.1, decide_eq_true h5.1.2] at d1; cases d1; done)
             | (have := (lt_len (c := c) (co := c.opn.getD p 0)).2 (by omega)
                omega))
  have hL := fun i (h : i < c.opn.length) => hL i (by omega)
  have c5 : ¬ ((p : Int) < (c.opn.length : Int)) := by omega
  clear hlt hp
  repeat' (with_reducible first | refine x_ops ?_ | refine wk ?_ | ((first | refine gd1 ?_ ?_ | refine gd2 ?_ ?_ | refine gd3 ?_ ?_) <;> (first | exact @False.elim _ | intro hc)))
  refine finV_lit vv (rgt_good ⟨e1.out, e2.out, rh, ro, hJ.out, fun i hi => ⟨(hL i hi).1, ?_⟩⟩)
  have := (hL i hi).2
  have := fI_le c.down (c.opn.getD i 0)
  omega
end Go.Proofs.Ytojjdkoglhecbaa
namespace Go.Proofs.Ytojjdkoglhecbaa
open Go.RowKit
set_option linter.unusedSimpArgs false
set_option linter.unusedVariables false

/-- The place on a course. -/
def plA (l : List (Int × Int)) (c : Int) : Int × Int := l.getD (fI l c) (0, 0)
/-- All held courses have the same place in the chord before. -/
def Fol (a b : Chord) : Prop := ∀ k, k < b.held.length → plA a.down (b.held.getD k 0) = plA b.down (b.held.getD k 0)
noncomputable def folB (a b : Chord) : Bool := @decide (Fol a b) (Classical.propDecidable _)
theorem fol_bad {a b : Chord} (hn : ¬ Fol a b) : Value.bool false = Value.bool (folB a b) := by unfold folB; simp [hn]
theorem fol_good {a b : Chord} (hn : Fol a b) : Value.bool true = Value.bool (folB a b) := by unfold folB; simp [hn]
theorem eq_pl (p q : Int × Int) : (p.1 == q.1 && (p.2 == q.2 && true)) = decide (p = q) := by
  rw [Bool.and_true]
  by_cases h : p = q
  · subst h; simp
  · rw [decide_eq_false h]
    obtain ⟨a, b⟩ := p
    obtain ⟨c, d⟩ := q
    by_cases h1 : a = c
    · have : b ≠ d := fun e => h (by rw [h1, e])
      simp [h1, this]
    · simp [h1]
theorem plA_found {l : List (Int × Int)} {c : Int} (h : fI l c < l.length) : (plA l c).1 = c := fI_at h
theorem plA_none {l : List (Int × Int)} {c : Int} (h : ¬ fI l c < l.length) : plA l c = (0, 0) := by
  rw [plA, List.getD_eq_getElem?_getD, List.getElem?_eq_none (by omega)]; rfl

set_option maxHeartbeats 1000000 in
theorem follows_fn (a b : Chord) (hb : ChordOk b) (hl : a.down.length ≤ 4611686018427387904 ∧ b.down.length ≤ 4611686018427387904 ∧ b.held.length ≤ 4611686018427387904) :
    Fn Try.prog Gd 66 [a.val, b.val] (vbool (folB a b)) := by
  refine Fn.of_vx0 k_hand_follows (by simp) (by rw [V.pures, pure_chord, V.pures, pure_chord]; rfl) ?_
  have D1 := fun co => down_fn a co hl.1
  have D2 := fun co => down_fn b co hl.2.1
  obtain ⟨hl1, hl2, hl3⟩ := hl
  unfold Chord.val Chord.cells at D1 D2
  unfold c_hand_follows Chord.val Chord.cells
  repeat' (with_reducible first | refine x_ops ?_ | refine wk ?_ | ((first | refine gd1 ?_ ?_ | refine gd2 ?_ ?_ | refine gd3 ?_ ?_) <;> (first | exact @False.elim _ | intro hc)))
  refine x_loopF w_hand_follows_p6 (by kernel_rfl) b.held.length (fun k t => t 11 = vint (k : Int) ∧ ∀ i, i < k → plA a.down (b.held.getD i 0) = plA b.down (b.held.getD i 0)) ?_ ?_
  · exact ⟨vv, fun i h => by omega⟩
  rintro q t hq ⟨h11, hJ⟩
  by_cases hlt : q < b.held.length
  · have g1 := ints_at hlt
    have c2 : (q : Int) < (b.held.length : Int) := by omega
    have w2 := w_add1 (k := q) (by omega)
    have hfb := hb.held q hlt
    have db : dnI b.down (b.held.getD q 0) = ((fI b.down (b.held.getD q 0) : Nat) : Int) := by rw [dnI, if_pos hfb]
    have gb := pls_take hfb
    have gb2 := pls_len b.down
    have cb : ((fI b.down (b.held.getD q 0) : Nat) : Int) < (b.down.length : Int) := by omega
    have cb2 : fI b.down (b.held.getD q 0) * 2 + 2 ≤ b.down.length * 2 := by omega
    have eb : plA b.down (b.held.getD q 0) = b.down.getD (fI b.down (b.held.getD q 0)) (0, 0) := rfl
    by_cases hfa : fI a.down (b.held.getD q 0) < a.down.length
    · have da : dnI a.down (b.held.getD q 0) = ((fI a.down (b.held.getD q 0) : Nat) : Int) := by rw [dnI, if_pos hfa]
      have ga := pls_take hfa
      have ga2 := pls_len a.down
      have ca : ((fI a.down (b.held.getD q 0) : Nat) : Int) < (a.down.length : Int) := by omega
      have ca2 : fI a.down (b.held.getD q 0) * 2 + 2 ≤ a.down.length * 2 := by omega
      have na : ¬ ((fI a.down (b.held.getD q 0) : Nat) : Int) < 0 := by omega
      have ea : plA a.down (b.held.getD q 0) = a.down.getD (fI a.down (b.held.getD q 0)) (0, 0) := rfl
      rw [← ea] at ga
      rw [← eb] at gb
      clear ea eb hfa hfb
      have eqk := eq_pl (plA a.down (b.held.getD q 0)) (plA b.down (b.held.getD q 0))
      generalize hia : fI a.down (b.held.getD q 0) = ia at *
      generalize hib : fI b.down (b.held.getD q 0) = ib at *
      generalize hpa : plA a.down (b.held.getD q 0) = pa at *
      generalize hpb : plA b.down (b.held.getD q 0) = pb at *
      replace hpa := Hid.mk hpa
      replace hpb := Hid.mk hpb
      clear hia hib
      repeat' (with_reducible first | refine x_ops ?_ | refine wk ?_ | (with_reducible refine xc (D1 _) ?_) | (with_reducible refine xc (D2 _) ?_) | ((first | refine gd1 ?_ ?_ | refine gd2 ?_ ?_ | refine gd3 ?_ ?_) <;> (first | exact @False.elim _ | intro hc)))
      · exact finV_lit vv (fol_bad fun hf => hc (by rw [← hpa.out, ← hpb.out]; exact hf q hlt))
      · refine nf (by omega) ⟨vv, fun i h => ?_⟩ rfl
        by_cases hi : i = q
        · subst hi; rw [hpa.out, hpb.out]; simpa using hc
        · exact hJ i (by omega)
    · have da : dnI a.down (b.held.getD q 0) = -1 := by rw [dnI, if_neg hfa]
      have na : (-1 : Int) < 0 := by omega
      have pn := Hid.mk (plA_none hfa)
      clear eb hfa
      repeat' (with_reducible first | refine x_ops ?_ | refine wk ?_ | (with_reducible refine xc (D1 _) ?_) | (with_reducible refine xc (D2 _) ?_) | ((first | refine gd1 ?_ ?_ | refine gd2 ?_ ?_ | refine gd3 ?_ ?_) <;> (first | exact @False.elim _ | intro hc)))
      refine finV_lit vv (fol_bad fun hf => ?_)
      have h1 := hf q hlt
      rw [pn.out] at h1
      have h2 := (hb.each _ hfb).1.1
      have h3 : (0 : Int) = (plA b.down (b.held.getD q 0)).1 := by rw [← h1]
      have h4 : (plA b.down (b.held.getD q 0)).1 = (b.down.getD (fI b.down (b.held.getD q 0)) (0, 0)).1 := rfl
      omega
  · have c1 : ¬ ((q : Int) < (b.held.length : Int)) := by omega
    repeat' (with_reducible first | refine x_ops ?_ | refine wk ?_ | ((first | refine gd1 ?_ ?_ | refine gd2 ?_ ?_ | refine gd3 ?_ ?_) <;> (first | exact @False.elim _ | intro hc)))
    exact finV_lit vv (fol_good fun i hi => hJ i (by omega))

def noC : Chord := ⟨[], [], []⟩
/-- A sequence of chords. -/
def tCs (l : List Chord) : V := .sl l.length (l.flatMap Chord.cells) .no
theorem pure_tCs (l : List Chord) : (tCs l).pure = true := by rw [tCs, V.pure]; intro t h; cases h
theorem chs_l (x : Chord) : x.cells.length = 3 := rfl
theorem chs_len (l : List Chord) : (l.flatMap Chord.cells).length = l.length * 3 := flat_len chs_l l
theorem chs_take {l : List Chord} {k : Nat} (h : k < l.length) : ((l.flatMap Chord.cells).drop (k * 3)).take 3 = [tPs (l.getD k noC).down, tIs (l.getD k noC).held, tIs (l.getD k noC).opn] := flat_take chs_l noC h
/-- Lists as long as memory allows. -/
def FitC (c : Chord) : Prop := c.down.length ≤ 8796093022208 ∧ c.held.length ≤ 17592186044416 ∧ c.opn.length ≤ 17592186044416
theorem FitC.big {c : Chord} (h : FitC c) : c.down.length ≤ 4611686018427387904 ∧ c.held.length ≤ 4611686018427387904 ∧ c.opn.length ≤ 4611686018427387904 := ⟨Nat.le_trans h.1 (by decide), Nat.le_trans h.2.1 (by decide), Nat.le_trans h.2.2 (by decide)⟩
def Fits (l : List Chord) : Prop := l.length ≤ 4611686018427387904 ∧ ∀ c ∈ l, FitC c
theorem Fits.at {l : List Chord} (h : Fits l) (k : Nat) : FitC (l.getD k noC) := by
  rw [List.getD_eq_getElem?_getD]
  cases e : l[k]? with
  | none => exact ⟨Nat.zero_le _, Nat.zero_le _, Nat.zero_le _⟩
  | some c => exact h.2 c (List.mem_of_getElem? e)
/-- A valid sequence. -/
def SeqOk (l : List Chord) : Prop := ∀ k, k < l.length → ChordOk (l.getD k noC) ∧ (0 < k → Fol (l.getD (k - 1) noC) (l.getD k noC))
noncomputable def seqE (l : List Chord) : Int := if 400 < l.length then 2 else if @decide (SeqOk l) (Classical.propDecidable _) then 0 else 1
theorem seq_many {l : List Chord} (h : 400 < l.length) : Value.int .i64 2 = Value.int .i64 (seqE l) := by rw [seqE, if_pos h]
theorem seq_bad {l : List Chord} (h : ¬ 400 < l.length) (hn : ¬ SeqOk l) : Value.int .i64 1 = Value.int .i64 (seqE l) := by rw [seqE, if_neg h, if_neg (by simp [hn])]
theorem seq_good {l : List Chord} (h : ¬ 400 < l.length) (hn : SeqOk l) : Value.int .i64 0 = Value.int .i64 (seqE l) := by rw [seqE, if_neg h, if_pos (by simp [hn])]
theorem rgt_true {c : Chord} : rgtB c = true ↔ ChordOk c := by unfold rgtB; simp
theorem fol_true {a b : Chord} : folB a b = true ↔ Fol a b := by unfold folB; simp

set_option maxHeartbeats 1000000 in
theorem checkchords_fn (l : List Chord) (hl : Fits l) : Fn Try.prog Gd 26 [tCs l] (vint (seqE l)) := by
  refine Fn.of_vx0 k_hand_CheckChords (by simp) (by rw [V.pures, pure_tCs]; rfl) ?_
  have hl0 := hl.1
  unfold c_hand_CheckChords tCs
  by_cases hm : 400 < l.length
  · have c1 : (400 : Int) < (l.length : Int) := by omega
    repeat' (with_reducible first | refine x_ops ?_ | refine wk ?_ | ((first | refine gd1 ?_ ?_ | refine gd2 ?_ ?_ | refine gd3 ?_ ?_) <;> (first | exact @False.elim _ | intro hc)))
    exact finV_lit vv (seq_many hm)
  have c1 : ¬ (400 : Int) < (l.length : Int) := by omega
  repeat' (with_reducible first | refine x_ops ?_ | refine wk ?_ | ((first | refine gd1 ?_ ?_ | refine gd2 ?_ ?_ | refine gd3 ?_ ?_) <;> (first | exact @False.elim _ | intro hc)))
  refine x_loopW w_hand_CheckChords_p7 (by kernel_rfl) l.length (fun k t m => t 10 = vint (k : Int) ∧ ∀ i, i < k → ChordOk (l.getD i noC) ∧ (0 < i → Fol (l.getD (i - 1) noC) (l.getD i noC))) ?_ ?_
  · exact ⟨vv, fun i h => by omega⟩
  rintro k t m hk ⟨h10, hI⟩
  by_cases hlt : k < l.length
  · have g1 := chs_take hlt
    have g2 := chs_len l
    have c2 : (k : Int) < (l.length : Int) := by omega
    have c3 : k * 3 + 3 ≤ l.length * 3 := by omega
    have w2 := w_add1 (k := k) (by omega)
    have R := right_fn (l.getD k noC) (hl.at k).big
    cases hr : rgtB (l.getD k noC)
    · rw [hr] at R
      unfold Chord.val Chord.cells at R
      repeat' (with_reducible first | refine x_ops ?_ | refine wk ?_ | (with_reducible refine xc (R) ?_) | ((first | refine gd1 ?_ ?_ | refine gd2 ?_ ?_ | refine gd3 ?_ ?_) <;> (first | exact @False.elim _ | intro hc)))
      refine finV_lit vv (seq_bad hm fun hs => ?_)
      rw [rgt_true.2 (hs k hlt).1] at hr
      cases hr
    rw [hr] at R
    have hok := rgt_true.1 hr
    by_cases hk0 : 0 < k
    · have g3 := chs_take (l := l) (k := k - 1) (by omega)
      have c4 : ((k - 1 : Nat) : Int) < (l.length : Int) := by omega
      have c5 : (k - 1) * 3 + 3 ≤ l.length * 3 := by omega
      have c6 : (0 : Int) < (k : Int) := by omega
      have w1 := w_sub1 hk0 (by omega)
      have F := follows_fn (l.getD (k - 1) noC) (l.getD k noC) hok ⟨(hl.at (k - 1)).big.1, (hl.at k).big.1, (hl.at k).big.2.1⟩
      cases hf : folB (l.getD (k - 1) noC) (l.getD k noC)
      · rw [hf] at F
        unfold Chord.val Chord.cells at R F
        repeat' (with_reducible first | refine x_ops ?_ | refine wk ?_ | (with_reducible refine xc (R) ?_) | (with_reducible refine xc (F) ?_) | ((first | refine gd1 ?_ ?_ | refine gd2 ?_ ?_ | refine gd3 ?_ ?_) <;> (first | exact @False.elim _ | intro hc)))
        refine finV_lit vv (seq_bad hm fun hs => ?_)
        rw [fol_true.2 ((hs k hlt).2 hk0)] at hf
        cases hf
      · rw [hf] at F
        unfold Chord.val Chord.cells at R F
        repeat' (with_reducible first | refine x_ops ?_ | refine wk ?_ | (with_reducible refine xc (R) ?_) | (with_reducible refine xc (F) ?_) | ((first | refine gd1 ?_ ?_ | refine gd2 ?_ ?_ | refine gd3 ?_ ?_) <;> (first | exact @False.elim _ | intro hc)))
        refine nx (by omega) ⟨vv, fun i h => ?_⟩
        by_cases hi : i = k
        · subst hi; exact ⟨hok, fun _ => fol_true.1 hf⟩
        · exact hI i (by omega)
    · have c6 : ¬ (0 : Int) < (k : Int) := by omega
      unfold Chord.val Chord.cells at R
      repeat' (with_reducible first | refine x_ops ?_ | refine wk ?_ | (with_reducible refine xc (R) ?_) | ((first | refine gd1 ?_ ?_ | refine gd2 ?_ ?_ | refine gd3 ?_ ?_) <;> (first | exact @False.elim _ | intro hc)))
      refine nx (by omega) ⟨vv, fun i h => ?_⟩
      have hi : i = k := by omega
      subst hi; exact ⟨hok, fun h => absurd h hk0⟩
  · have c2 : ¬ ((k : Int) < (l.length : Int)) := by omega
    repeat' (with_reducible first | refine x_ops ?_ | refine wk ?_ | ((first | refine gd1 ?_ ?_ | refine gd2 ?_ ?_ | refine gd3 ?_ ?_) <;> (first | exact @False.elim _ | intro hc)))
    exact finV_lit vv (seq_good hm fun i hi => hI i (by omega))
end Go.Proofs.Ytojjdkoglhecbaa
namespace Go.Proofs.Ytojjdkoglhecbaa
open Go.ChangeShapes Go.WideShapes Go.ChangeAt Go.RowKit
set_option maxRecDepth 100000

theorem laidOut : laidOutB Try.prog = true := by kernel_rfl
theorem ownK : ownKnob Try.prog.godebug = none := by kernel_rfl

/-! ### Data of the hand's types -/
theorem dt_one {t : Ty} {b : Nat} {d : Dt} (h : d.ok (.sl t b)) : d.cells = [d.val] := by
  cases d <;> first | (rw [Dt.cells, Dt.val]; done) | (simp [Dt.ok] at h)
theorem dt_int {d : Dt} (h : d.ok .int) : ∃ n : Int, d.cells = [vint n] ∧ -9223372036854775808 ≤ n ∧ n ≤ 9223372036854775807 := by
  cases d <;> first | (rw [Dt.ok] at h; exact ⟨_, by rw [Dt.cells], h⟩) | (simp [Dt.ok] at h)
theorem dt_bool {d : Dt} (h : d.ok .bool) : ∃ n : Bool, d.cells = [vbool n] ∧ True := by
  cases d <;> first | (rw [Dt.ok] at h; exact ⟨_, by rw [Dt.cells], h⟩) | (simp [Dt.ok] at h)
theorem dt_list {α : Type} {t : Ty} {b : Nat} {d : Dt} {enc : α → List V} {Q : α → Prop} (h : d.ok (.sl t b)) (hdec : ∀ d : Dt, d.ok t → ∃ a, d.cells = enc a ∧ Q a) :
    ∃ l : List α, d.cells = [.sl l.length (l.flatMap enc) .no] ∧ l.length * b ≤ 140737488351232 ∧ ∀ a ∈ l, Q a := by
  cases d with
  | sl l =>
    rw [Dt.ok] at h
    obtain ⟨hb, he⟩ := h
    have gen : ∀ l : List Dt, (∀ d ∈ l, d.ok t) → ∃ xs : List α, xs.length = l.length ∧ Dt.cellsL l = xs.flatMap enc ∧ ∀ a ∈ xs, Q a := by
      intro l
      induction l with
      | nil => intro _; exact ⟨[], rfl, by rw [Dt.cellsL]; rfl, fun a ha => by cases ha⟩
      | cons d l ih =>
        intro he
        obtain ⟨a, h1, h2⟩ := hdec d (he d (List.mem_cons_self ..))
        obtain ⟨xs, h3, h4, h5⟩ := ih fun d hd => he d (List.mem_cons_of_mem _ hd)
        refine ⟨a :: xs, by simp [h3], by rw [Dt.cellsL, h1, h4]; rfl, fun x hx => ?_⟩
        rcases List.mem_cons.1 hx with rfl | hx
        · exact h2
        · exact h5 x hx
    obtain ⟨xs, h1, h2, h3⟩ := gen l he
    exact ⟨xs, by rw [Dt.cells, h2, h1], by rw [h1]; exact hb, h3⟩
  | _ => simp [Dt.ok] at h
theorem flat_vint (l : List Int) : l.flatMap (fun n => [vint n]) = l.map vint := by
  induction l with
  | nil => rfl
  | cons a l ih => rw [List.flatMap_cons, ih]; rfl
theorem flat_vbool (l : List Bool) : l.flatMap (fun n => [vbool n]) = l.map vbool := by
  induction l with
  | nil => rfl
  | cons a l ih => rw [List.flatMap_cons, ih]; rfl
theorem dt_ints {b : Nat} {d : Dt} (h : d.ok (.sl .int b)) : ∃ l : List Int, d.cells = [tIs l] ∧ l.length * b ≤ 140737488351232 ∧ ∀ a ∈ l, -9223372036854775808 ≤ a ∧ a ≤ 9223372036854775807 := by
  obtain ⟨l, h1, h2⟩ := dt_list (enc := fun n : Int => [vint n]) h fun d hd => dt_int hd
  rw [flat_vint] at h1
  exact ⟨l, h1, h2⟩
theorem dt_bools {b : Nat} {d : Dt} (h : d.ok (.sl .bool b)) : ∃ l : List Bool, d.cells = [tBs l] ∧ l.length * b ≤ 140737488351232 := by
  obtain ⟨l, h1, h2, _⟩ := dt_list (enc := fun n : Bool => [vbool n]) h fun d hd => dt_bool hd
  rw [flat_vbool] at h1
  exact ⟨l, h1, h2⟩
theorem oks_cons {t : Ty} {ts : List Ty} {l : List Dt} (h : Dt.oks (t :: ts) l) : ∃ d r, l = d :: r ∧ d.ok t ∧ Dt.oks ts r ∧ Dt.cellsL l = d.cells ++ Dt.cellsL r := by
  cases l with
  | nil => simp [Dt.oks] at h
  | cons d r => rw [Dt.oks] at h; exact ⟨d, r, rfl, h.1, h.2, by rw [Dt.cellsL]⟩
theorem oks_nil {l : List Dt} (h : Dt.oks [] l) : Dt.cellsL l = [] := by
  cases l with
  | nil => rw [Dt.cellsL]
  | cons d r => simp [Dt.oks] at h
theorem ok_st {ts : List Ty} {d : Dt} (h : d.ok (.st ts)) : ∃ l, d = .st l ∧ Dt.oks ts l ∧ d.cells = Dt.cellsL l ∧ d.val = .agg (Dt.cellsL l) := by
  cases d with
  | st l => rw [Dt.ok] at h; exact ⟨l, rfl, h, by rw [Dt.cells], by rw [Dt.val]⟩
  | _ => simp [Dt.ok] at h
def tyPlace : Ty := .st [.int, .int]
def tyChord : Ty := .st [.sl tyPlace 16, .sl .int 8, .sl .int 8]
def tyHand : Ty := .st [.sl .int 8, .sl .int 8, .sl .bool 1, .int, .int, .int, .int, .int, .int, .int]
theorem dt_place {d : Dt} (h : d.ok tyPlace) : ∃ p : Int × Int, d.cells = plE p ∧ (-9223372036854775808 ≤ p.1 ∧ p.1 ≤ 9223372036854775807) ∧ -9223372036854775808 ≤ p.2 ∧ p.2 ≤ 9223372036854775807 := by
  obtain ⟨l, _, h1, hc, _⟩ := ok_st h
  obtain ⟨d1, r1, rfl, k1, h2, e1⟩ := oks_cons h1
  obtain ⟨d2, r2, rfl, k2, h3, e2⟩ := oks_cons h2
  obtain ⟨a, ea, ra⟩ := dt_int k1
  obtain ⟨b, eb, rb⟩ := dt_int k2
  exact ⟨(a, b), by rw [hc, e1, e2, oks_nil h3, ea, eb]; rfl, ra, rb⟩
theorem dt_places {b : Nat} {d : Dt} (h : d.ok (.sl tyPlace b)) : ∃ l : List (Int × Int), d.cells = [tPs l] ∧ l.length * b ≤ 140737488351232 ∧ ∀ p ∈ l, (-9223372036854775808 ≤ p.1 ∧ p.1 ≤ 9223372036854775807) ∧ -9223372036854775808 ≤ p.2 ∧ p.2 ≤ 9223372036854775807 :=
  dt_list (enc := plE) h fun _ hd => dt_place hd
theorem dt_chord {d : Dt} (h : d.ok tyChord) : ∃ c : Chord, d.cells = c.cells ∧ FitC c := by
  obtain ⟨l, _, h1, hc, _⟩ := ok_st h
  obtain ⟨d1, r1, rfl, k1, h2, e1⟩ := oks_cons h1
  obtain ⟨d2, r2, rfl, k2, h3, e2⟩ := oks_cons h2
  obtain ⟨d3, r3, rfl, k3, h4, e3⟩ := oks_cons h3
  obtain ⟨a, ea, ra, _⟩ := dt_places k1
  obtain ⟨b, eb, rb, _⟩ := dt_ints k2
  obtain ⟨c, ec, rc, _⟩ := dt_ints k3
  exact ⟨⟨a, b, c⟩, by rw [hc, e1, e2, e3, oks_nil h4, ea, eb, ec]; rfl, by show a.length ≤ _; omega, by show b.length ≤ _; omega, by show c.length ≤ _; omega⟩
theorem dt_chords {b : Nat} {d : Dt} (hb : 8 ≤ b) (h : d.ok (.sl tyChord b)) : ∃ l : List Chord, d.val = tCs l ∧ Fits l := by
  obtain ⟨l, h1, h2, h3⟩ := dt_list (enc := Chord.cells) h fun _ hd => dt_chord hd
  rw [dt_one h] at h1
  exact ⟨l, List.cons.inj h1 |>.1, by have := Nat.mul_le_mul_left l.length hb; omega, h3⟩
theorem dt_hand {d : Dt} (h : d.ok tyHand) : ∃ x : Hand, d.val = x.val := by
  obtain ⟨l, _, h1, _, hv⟩ := ok_st h
  obtain ⟨d1, r1, rfl, k1, h2, e1⟩ := oks_cons h1
  obtain ⟨d2, r2, rfl, k2, h3, e2⟩ := oks_cons h2
  obtain ⟨d3, r3, rfl, k3, h4, e3⟩ := oks_cons h3
  obtain ⟨d4, r4, rfl, k4, h5, e4⟩ := oks_cons h4
  obtain ⟨d5, r5, rfl, k5, h6, e5⟩ := oks_cons h5
  obtain ⟨d6, r6, rfl, k6, h7, e6⟩ := oks_cons h6
  obtain ⟨d7, r7, rfl, k7, h8, e7⟩ := oks_cons h7
  obtain ⟨d8, r8, rfl, k8, h9, e8⟩ := oks_cons h8
  obtain ⟨d9, r9, rfl, k9, h10, e9⟩ := oks_cons h9
  obtain ⟨d10, r10, rfl, k10, h11, e10⟩ := oks_cons h10
  obtain ⟨x1, f1, _⟩ := dt_ints k1
  obtain ⟨x2, f2, _⟩ := dt_ints k2
  obtain ⟨x3, f3, _⟩ := dt_bools k3
  obtain ⟨x4, f4, _⟩ := dt_int k4
  obtain ⟨x5, f5, _⟩ := dt_int k5
  obtain ⟨x6, f6, _⟩ := dt_int k6
  obtain ⟨x7, f7, _⟩ := dt_int k7
  obtain ⟨x8, f8, _⟩ := dt_int k8
  obtain ⟨x9, f9, _⟩ := dt_int k9
  obtain ⟨x10, f10, _⟩ := dt_int k10
  exact ⟨⟨x1, x2, x3, x4, x5, x6, x7, x8, x9, x10⟩, by rw [hv, e1, e2, e3, e4, e5, e6, e7, e8, e9, e10, oks_nil h11, f1, f2, f3, f4, f5, f6, f7, f8, f9, f10]; rfl⟩
/-! ### A law's call -/
theorem law_call {f : FuncId} {args : List V} (h : Fn Try.prog Gd f args (vbool true)) {W : World} {cargs : Array Value} (hv : VRs (EW W) args cargs.toList) :
    Calls Try.prog f cargs W fun e w' => e = .returned (.bool true) ∧ Below W.heap.size W w' := by
  refine (h.calls trivial (fun _ _ _ x => x) hv).mono ?_
  rintro e w' ⟨v, E', rfl, hb, hr, _⟩
  have := VR_lit hr
  subst this
  exact ⟨rfl, hb⟩
theorem VRs.cons1 {E : Env} {v : V} {c : Value} {vs : List V} {cs : List Value} (h : VR E v c) (h' : VRs E vs cs) : VRs E (v :: vs) (c :: cs) := by rw [VRs]; exact ⟨c, cs, rfl, h, h'⟩
theorem VRs.nil1 {E : Env} : VRs E [] [] := by rw [VRs]

section
variable {H : Type} {enc : TypeId × Value → H}
theorem trodAll_below {P : Program} (hl : laidOutB P = true) {W W' : World} (hb : Below W.heap.size W W') {ts : List TypeId} : ∀ {vs : List Value} {ds : List (DataW H)} {ps : List MemPlace},
    (∀ t ∈ ts, P.readableRec t = true ∧ t < P.types.size) → (∀ x ∈ ps, x.block < W.heap.size) → DataW.TrodAll enc P W 0 (fun _ => true) true ts vs ds ps →
    DataW.TrodAll enc P W' 0 (fun b => decide (b < W.heap.size)) true ts vs ds ps := by
  induction ts with
  | nil =>
    intro vs ds ps _ _ h
    cases vs with
    | nil =>
      cases ds with
      | nil => exact h
      | cons _ _ => exact h.elim
    | cons _ _ => exact h.elim
  | cons t ts ih =>
    intro vs ds ps hp hlt h
    cases vs with
    | nil => exact h.elim
    | cons v vs =>
      cases ds with
      | nil => exact h.elim
      | cons d ds =>
        obtain ⟨p, q, h1, h2, rfl⟩ := h
        have ht := hp t (List.mem_cons_self ..)
        exact ⟨p, q, Below.trod hl ht.1 ht.2 h1 hb (fun x hx => hlt x (List.mem_append_left _ hx)), ih (fun t ht => hp t (List.mem_cons_of_mem _ ht)) (fun x hx => hlt x (List.mem_append_right _ hx)) h2, rfl⟩
/-- A law that answers true and only makes memory: what its row asks behind the call. -/
theorem law_post {f : Func} {s : ChangeSpec} {W W' : World} {args : Array Value} {ds gs : List (DataW H)} {before : List MemPlace}
    (hp : f.params.toList.all (fun t => Try.prog.readableRec t && decide (t < Try.prog.types.size)) = true) (hr : f.resultTypes = #[4]) (hv : s.vars = [])
    (hs : s.fn H ds = { results := [.lit (.bool true)], args := ds }) (hW : DataW.Whole enc Try.prog f.params.toList s.vars false W args.toList ds gs before) (hb : Below W.heap.size W W') :
    s.post enc Try.prog f false true false false W args (.bool true) W' := by
  have hW' := hW
  obtain ⟨p, q, hA, hV, rfl, _, _⟩ := hW
  rw [hv] at hV
  obtain ⟨rfl, rfl⟩ := trodVars_none hV
  have hlt := hW'.lt
  simp only [List.append_nil] at hlt hW' 
  refine ⟨ds, [], p, [], p, [], hW', ?_, ?_, ?_, hb.frame _, fun h => by cases h⟩
  · rw [List.append_nil, hs, hr]
    exact trodAll_cons_mk (shut_bool Try.underlying4 _) trodAll_mk0
  · rw [List.append_nil, hs]
    exact trodAll_below laidOut hb (fun t ht => by have h := List.all_eq_true.1 hp t ht; simpa using h) hlt hA
  · rw [List.append_nil, hs, hv]
    rfl
end
end Go.Proofs.Ytojjdkoglhecbaa
namespace Go.Proofs.Ytojjdkoglhecbaa
open Go.RowKit
set_option maxRecDepth 100000

abbrev c_hand_reach_p1 : VC := (.seq (.ops 0 [oo 9 .mv [.t 3], oo 10 .mv [.t 1], oo 11 (.fldA 0) [.t 4], od 12 .ld1 [.t 11] [2], oo 13 .mv [.t 2], oo 14 (.bin .sub) [.t 13, kk 1], oo 15 (.ixA 1) [.t 12, .t 14], od 16 .ld1 [.t 15] [2, 3, 4, 5, 6], oo 17 (.bin .add) [.t 10, .t 16], oo 18 .mv [.t 1], oo 19 (.fldA 1) [.t 4], od 20 .ld1 [.t 19] [10], oo 21 .mv [.t 2], oo 22 (.bin .sub) [.t 21, kk 1], oo 23 (.ixA 1) [.t 20, .t 22], od 24 .ld1 [.t 23] [10, 11, 12, 13, 14], oo 25 (.bin .add) [.t 18, .t 24], oo 26 (.call 63) [.t 9, .t 17, .t 25], oo 8 .mv [.t 26]]) .ret)
def c_hand_reach : VC := (.seq (.ops 2 [oo 4 (.box 25) [.t 0], oo 8 .mv [(.c (.lit (.bool false)))]]) c_hand_reach_p1)
theorem k_hand_reach : Comp Try.prog nobx gtab 107 27 c_hand_reach [.t 8] := ⟨⟨Try.f107, _, Try.func107, rfl, rfl, kr, kr⟩⟩
abbrev c_hand_agree_p1 : VC := (.seq (.ops 0 [oo 15 .mv [.t 2], oo 16 .mv [.t 3], oo 17 (.bin .lss) [.t 15, .t 16], oo 8 .mv [.t 17]]) .ret)
abbrev c_hand_agree_p2 : VC := (.seq (.ops 0 [oo 24 .mv [.t 2], oo 25 .mv [.t 3], oo 26 (.bin .gtr) [.t 24, .t 25], oo 8 .mv [.t 26]]) .ret)
abbrev c_hand_agree_p3 : VC := (.seq (.ops 0 [oo 33 .mv [.t 2], oo 34 .mv [.t 3], oo 35 (.bin .geq) [.t 33, .t 34], oo 8 .mv [.t 35]]) .ret)
abbrev c_hand_agree_p4 : VC := (.seq (.ops 0 [oo 28 (.fldA 0) [.t 4], oo 29 .ld1 [.t 28], oo 30 (.fldA 0) [.t 5], oo 31 .ld1 [.t 30], oo 32 (.bin .lss) [.t 29, .t 31], oo 27 .mv [.t 32]]) (.cond (.t 27) c_hand_agree_p3 .skip))
abbrev c_hand_agree_p5 : VC := (.seq (.ops 0 [oo 19 (.fldA 1) [.t 4], oo 20 .ld1 [.t 19], oo 21 (.fldA 1) [.t 5], oo 22 .ld1 [.t 21], oo 23 (.bin .gtr) [.t 20, .t 22], oo 18 .mv [.t 23]]) (.cond (.t 18) c_hand_agree_p2 c_hand_agree_p4))
abbrev c_hand_agree_p6 : VC := (.seq (.ops 0 [oo 36 .mv [.t 2], oo 37 .mv [.t 3], oo 38 (.bin .leq) [.t 36, .t 37], oo 8 .mv [.t 38]]) .ret)
abbrev c_hand_agree_p7 : VC := (.seq (.block 0 (.seq (.ops 0 [oo 10 (.fldA 1) [.t 4], oo 11 .ld1 [.t 10], oo 12 (.fldA 1) [.t 5], oo 13 .ld1 [.t 12], oo 14 (.bin .lss) [.t 11, .t 13], oo 9 .mv [.t 14]]) (.cond (.t 9) c_hand_agree_p1 c_hand_agree_p5))) c_hand_agree_p6)
def c_hand_agree : VC := (.seq (.ops 3 [oo 4 (.box 92) [.t 0], oo 5 (.box 92) [.t 1], oo 8 .mv [(.c (.lit (.bool false)))]]) c_hand_agree_p7)
theorem k_hand_agree : Comp Try.prog nobx gtab 108 39 c_hand_agree [.t 8] := ⟨⟨Try.f108, _, Try.func108, rfl, rfl, kr, kr⟩⟩
abbrev c_hand_spans_p1 : VC := (.ops 0 [oo 38 .mv [.t 10], oo 9 .mv [.t 38]])
abbrev c_hand_spans_p2 : VC := (.seq (.ops 0 [oo 35 .mv [.t 11], oo 36 .mv [.t 7], oo 37 (.bin .eql) [.t 35, .t 36]]) (.cond (.t 37) c_hand_spans_p1 .skip))
abbrev c_hand_spans_p3 : VC := (.ops 0 [oo 39 (.bin .add) [.t 30, kk 1], oo 30 .mv [.t 39]])
abbrev c_hand_spans_p4 : VC := (.seq (.block 3 (.seq (.ops 0 [oo 32 .mv [.t 30], oo 33 (.ixA 1) [.t 28, .t 30], oo 34 .ld1 [.t 33], oo 10 .mv [.t 32], oo 11 .mv [.t 34]]) c_hand_spans_p2)) c_hand_spans_p3)
abbrev c_hand_spans_p5 : VC := (.seq (.ops 0 [oo 31 (.bin .lss) [.t 30, .t 29]]) (.seq (.cond (.t 31) .skip (.exit 2)) c_hand_spans_p4))
@[go_sem] abbrev w_hand_spans_p5 : Nat := 1098437889536
abbrev c_hand_spans_p7 : VC := (.seq (.ops 0 [oo 6 .mv [(.c (.lit (.bool false)))]]) .ret)
abbrev c_hand_spans_p8 : VC := (.seq (.ops 0 [oo 6 .mv [(.c (.lit (.bool false)))]]) .ret)
abbrev c_hand_spans_p9 : VC := (.seq (.ops 0 [oo 6 .mv [(.c (.lit (.bool false)))]]) .ret)
abbrev c_hand_spans_p10 : VC := (.seq (.ops 0 [oo 87 (.fldA 0) [.t 4], oo 88 .ld1 [.t 87], oo 89 .mv [.t 8], oo 90 .mv [.t 9], oo 91 (.slc 2 true true) [.t 88, .t 89, .t 90], oo 92 (.mkfn 133) [.t 14], oo 93 (.call 120) [.t 91, .t 92]]) (.cond (.t 93) c_hand_spans_p9 .skip))
abbrev c_hand_spans_p11 : VC := (.seq (.seq (.ops 0 [oo 83 (.fldA 2) [.t 4], oo 84 .ld1 [.t 83], oo 85 (.mkfn 132) [.t 12, .t 13], oo 86 (.call 85) [.t 84, .t 85]]) (.cond (.t 86) c_hand_spans_p8 .skip)) c_hand_spans_p10)
abbrev c_hand_spans_p12 : VC := (.seq (.ops 24 [oo 65 (.fldA 0) [.t 4], od 66 .ld1 [.t 65] [0], oo 67 .mv [.t 8], oo 68 (.ixA 2) [.t 66, .t 67], oo 69 (.fldA 0) [.t 68], od 70 .ld1 [.t 69] [0, 1, 2, 3, 4], oo 71 (.fldA 0) [.t 4], od 72 .ld1 [.t 71] [6], oo 73 .mv [.t 9], oo 74 (.ixA 2) [.t 72, .t 73], oo 75 (.fldA 0) [.t 74], od 76 .ld1 [.t 75] [6, 7, 8, 9, 10], oo 77 (.fldA 0) [.t 4], od 78 .ld1 [.t 77] [12], oo 79 .mv [.t 8], oo 80 (.ixA 2) [.t 78, .t 79], oo 81 (.fldA 1) [.t 80], od 82 .ld1 [.t 81] [12, 13, 14, 15, 16], od 12 (.alloc 3 [li 0]) [] [], od 13 (.alloc 3 [li 0]) [] [], od 14 (.alloc 3 [li 0]) [] [], ⟨none, none, (.st 1), [.t 12, .t 70], (some [18])⟩, ⟨none, none, (.st 1), [.t 13, .t 76], (some [19])⟩, ⟨none, none, (.st 1), [.t 14, .t 82], none⟩]) c_hand_spans_p11)
abbrev c_hand_spans_p13 : VC := (.seq (.seq (.ops 0 [oo 43 (.fldA 2) [.t 3], oo 44 .ld1 [.t 43], oo 45 .mv [.t 7], oo 46 (.bin .sub) [.t 45, kk 1], oo 47 (.ixA 1) [.t 44, .t 46], oo 48 .ld1 [.t 47], oo 49 (.un .not) [.t 48], oo 50 .mv [.t 49], og 51 50 false (.fldA 0) [.t 4], ⟨(some 52), (some (50, false)), .ld1, [.t 51], (some [0, 1, 2, 3, 4, 5, 6, 7, 8])⟩, og 53 50 false .mv [.t 8], og 54 50 false (.ixA 2) [.t 52, .t 53], og 55 50 false (.fldA 1) [.t 54], ⟨(some 56), (some (50, false)), .ld1, [.t 55], (some [0, 1, 2, 3, 4, 5, 6, 7, 8, 9, 10, 11, 12])⟩, og 57 50 false (.fldA 0) [.t 4], ⟨(some 58), (some (50, false)), .ld1, [.t 57], (some [0, 1, 2, 3, 4, 5, 6, 7, 14])⟩, og 59 50 false .mv [.t 9], og 60 50 false (.ixA 2) [.t 58, .t 59], og 61 50 false (.fldA 1) [.t 60], ⟨(some 62), (some (50, false)), .ld1, [.t 61], (some [0, 1, 2, 3, 4, 5, 6, 7, 14, 15, 16, 17, 18])⟩, og 63 50 false (.bin .neq) [.t 56, .t 62], oo 64 .pick [.t 50, (.c (.lit (.bool true))), .t 63]]) (.cond (.t 64) c_hand_spans_p7 .skip)) c_hand_spans_p12)
abbrev c_hand_spans_p14 : VC := (.seq (.seq (.ops 0 [oo 40 .mv [.t 8], oo 41 .mv [.t 9], oo 42 (.bin .eql) [.t 40, .t 41]]) (.cond (.t 42) (.exit 1) .skip)) c_hand_spans_p13)
abbrev c_hand_spans_p15 : VC := (.seq (.seq (.ops 0 [oo 28 .mv [.t 2], oo 29 .len [.t 28], oo 30 .mv [kk 0]]) (.block 2 (.loop c_hand_spans_p5))) c_hand_spans_p14)
abbrev c_hand_spans_p16 : VC := (.seq (.ops 0 [oo 27 .mv [.t 8], oo 9 .mv [.t 27]]) c_hand_spans_p15)
abbrev c_hand_spans_p17 : VC := (.seq (.seq (.ops 0 [oo 25 .mv [.t 8], oo 26 (.bin .lss) [.t 25, kk 0]]) (.cond (.t 26) (.exit 1) .skip)) c_hand_spans_p16)
abbrev c_hand_spans_p18 : VC := (.ops 0 [oo 20 .mv [.t 7], oo 21 (.bin .add) [.t 20, kk 1], oo 7 .mv [.t 21]])
abbrev c_hand_spans_p19 : VC := (.seq (.block 1 (.seq (.ops 0 [oo 22 .mv [.t 2], oo 23 .mv [.t 7], oo 24 (.call 92) [.t 22, .t 23], oo 8 .mv [.t 24]]) c_hand_spans_p17)) c_hand_spans_p18)
abbrev c_hand_spans_p20 : VC := (.seq (.seq (.ops 0 [oo 15 .mv [.t 7], oo 16 (.fldA 0) [.t 3], oo 17 .ld1 [.t 16], oo 18 .len [.t 17], oo 19 (.bin .leq) [.t 15, .t 18]]) (.cond (.t 19) .skip (.exit 0))) c_hand_spans_p19)
@[go_sem] abbrev w_hand_spans_p20 : Nat := 19807040628566084398385987520
abbrev c_hand_spans_p22 : VC := (.seq (.ops 0 [oo 6 .mv [(.c (.lit (.bool true)))]]) .ret)
abbrev c_hand_spans_p23 : VC := (.seq (.seq (.ops 0 [oo 7 .mv [kk 1]]) (.block 0 (.loop c_hand_spans_p20))) c_hand_spans_p22)
def c_hand_spans : VC := (.seq (.ops 3 [oo 3 (.box 25) [.t 0], oo 4 (.box 47) [.t 1], oo 6 .mv [(.c (.lit (.bool false)))]]) c_hand_spans_p23)
theorem k_hand_spans : Comp Try.prog nobx gtab 105 94 c_hand_spans [.t 6] := ⟨⟨Try.f105, _, Try.func105, rfl, rfl, kr, kr⟩⟩
abbrev c_hand_spans_1_p1 : VC := (.seq (.ops 0 [oo 5 .mv [.t 0], oo 6 .ld1 [.t 1], oo 7 (.bin .gtr) [.t 5, .t 6], oo 8 .mv [.t 7], og 9 8 true .mv [.t 0], og 10 8 true .ld1 [.t 2], og 11 8 true (.bin .lss) [.t 9, .t 10], oo 12 .pick [.t 8, .t 11, (.c (.lit (.bool false)))], oo 4 .mv [.t 12]]) .ret)
def c_hand_spans_1 : VC := (.seq (.ops 0 [oo 4 .mv [(.c (.lit (.bool false)))]]) c_hand_spans_1_p1)
theorem k_hand_spans_1 : Comp Try.prog nobx gtab 132 13 c_hand_spans_1 [.t 4] := ⟨⟨Try.f132, _, Try.func132, rfl, rfl, kr, kr⟩⟩
abbrev c_hand_spans_2_p1 : VC := (.seq (.ops 0 [oo 4 (.fldA 1) [.t 2], oo 5 .ld1 [.t 4], oo 6 .ld1 [.t 1], oo 7 (.bin .lss) [.t 5, .t 6], oo 3 .mv [.t 7]]) .ret)
def c_hand_spans_2 : VC := (.seq (.ops 2 [oo 2 (.box 92) [.t 0], oo 3 .mv [(.c (.lit (.bool false)))]]) c_hand_spans_2_p1)
theorem k_hand_spans_2 : Comp Try.prog nobx gtab 133 8 c_hand_spans_2 [.t 3] := ⟨⟨Try.f133, _, Try.func133, rfl, rfl, kr, kr⟩⟩
abbrev c_slices_Index_int_int_p1 : VC := (.seq (.ops 0 [oo 17 .mv [.t 5], oo 4 .mv [.t 17]]) .ret)
abbrev c_slices_Index_int_int_p2 : VC := (.seq (.ops 0 [oo 11 .mv [.t 1], oo 12 .mv [.t 0], oo 13 .mv [.t 5], oo 14 (.ixA 1) [.t 12, .t 13], oo 15 .ld1 [.t 14], oo 16 (.bin .eql) [.t 11, .t 15]]) (.cond (.t 16) c_slices_Index_int_int_p1 .skip))
abbrev c_slices_Index_int_int_p3 : VC := (.ops 0 [oo 18 (.bin .add) [.t 8, kk 1], oo 8 .mv [.t 18]])
abbrev c_slices_Index_int_int_p4 : VC := (.seq (.block 1 (.seq (.ops 0 [oo 10 .mv [.t 8], oo 5 .mv [.t 10]]) c_slices_Index_int_int_p2)) c_slices_Index_int_int_p3)
abbrev c_slices_Index_int_int_p5 : VC := (.seq (.cond (.t 9) .skip (.exit 0)) c_slices_Index_int_int_p4)
abbrev c_slices_Index_int_int_p6 : VC := (.seq (.ops 0 [oo 9 (.bin .lss) [.t 8, .t 7]]) c_slices_Index_int_int_p5)
@[go_sem] abbrev w_slices_Index_int_int_p6 : Nat := 524080
abbrev c_slices_Index_int_int_p8 : VC := (.seq (.ops 0 [oo 4 .mv [kk (-1)]]) .ret)
abbrev c_slices_Index_int_int_p9 : VC := (.seq (.seq (.ops 0 [oo 6 .mv [.t 0], oo 7 .len [.t 6], oo 8 .mv [kk 0]]) (.block 0 (.loop c_slices_Index_int_int_p6))) c_slices_Index_int_int_p8)
def c_slices_Index_int_int : VC := (.seq (.ops 0 [oo 4 .mv [kk 0]]) c_slices_Index_int_int_p9)
theorem k_slices_Index_int_int : Comp Try.prog nobx gtab 92 19 c_slices_Index_int_int [.t 4] := ⟨⟨Try.f92, _, Try.func92, rfl, rfl, kr, kr⟩⟩
abbrev c_slices_ContainsFunc_int_int_p1 : VC := (.seq (.ops 0 [oo 5 .mv [.t 0], oo 6 .mv [.t 1], oo 7 (.call 125) [.t 5, .t 6], oo 8 (.bin .geq) [.t 7, kk 0], oo 4 .mv [.t 8]]) .ret)
def c_slices_ContainsFunc_int_int : VC := (.seq (.ops 0 [oo 4 .mv [(.c (.lit (.bool false)))]]) c_slices_ContainsFunc_int_int_p1)
theorem k_slices_ContainsFunc_int_int : Comp Try.prog nobx gtab 85 9 c_slices_ContainsFunc_int_int [.t 4] := ⟨⟨Try.f85, _, Try.func85, rfl, rfl, kr, kr⟩⟩
abbrev c_slices_IndexFunc_int_int_p1 : VC := (.seq (.ops 0 [oo 17 .mv [.t 5], oo 4 .mv [.t 17]]) .ret)
abbrev c_slices_IndexFunc_int_int_p2 : VC := (.seq (.ops 0 [oo 11 .mv [.t 1], oo 12 .mv [.t 0], oo 13 .mv [.t 5], oo 14 (.ixA 1) [.t 12, .t 13], oo 15 .ld1 [.t 14], oo 16 .callv [.t 11, .t 15]]) (.cond (.t 16) c_slices_IndexFunc_int_int_p1 .skip))
abbrev c_slices_IndexFunc_int_int_p3 : VC := (.ops 0 [oo 18 (.bin .add) [.t 8, kk 1], oo 8 .mv [.t 18]])
abbrev c_slices_IndexFunc_int_int_p4 : VC := (.seq (.block 1 (.seq (.ops 0 [oo 10 .mv [.t 8], oo 5 .mv [.t 10]]) c_slices_IndexFunc_int_int_p2)) c_slices_IndexFunc_int_int_p3)
abbrev c_slices_IndexFunc_int_int_p5 : VC := (.seq (.cond (.t 9) .skip (.exit 0)) c_slices_IndexFunc_int_int_p4)
abbrev c_slices_IndexFunc_int_int_p6 : VC := (.seq (.ops 0 [oo 9 (.bin .lss) [.t 8, .t 7]]) c_slices_IndexFunc_int_int_p5)
@[go_sem] abbrev w_slices_IndexFunc_int_int_p6 : Nat := 524080
abbrev c_slices_IndexFunc_int_int_p8 : VC := (.seq (.ops 0 [oo 4 .mv [kk (-1)]]) .ret)
abbrev c_slices_IndexFunc_int_int_p9 : VC := (.seq (.seq (.ops 0 [oo 6 .mv [.t 0], oo 7 .len [.t 6], oo 8 .mv [kk 0]]) (.block 0 (.loop c_slices_IndexFunc_int_int_p6))) c_slices_IndexFunc_int_int_p8)
def c_slices_IndexFunc_int_int : VC := (.seq (.ops 0 [oo 4 .mv [kk 0]]) c_slices_IndexFunc_int_int_p9)
theorem k_slices_IndexFunc_int_int : Comp Try.prog nobx gtab 125 19 c_slices_IndexFunc_int_int [.t 4] := ⟨⟨Try.f125, _, Try.func125, rfl, rfl, kr, kr⟩⟩
abbrev c_slices_ContainsFunc_api_Place_api_Place_p1 : VC := (.seq (.ops 0 [oo 5 .mv [.t 0], oo 6 .mv [.t 1], oo 7 (.call 129) [.t 5, .t 6], oo 8 (.bin .geq) [.t 7, kk 0], oo 4 .mv [.t 8]]) .ret)
def c_slices_ContainsFunc_api_Place_api_Place : VC := (.seq (.ops 0 [oo 4 .mv [(.c (.lit (.bool false)))]]) c_slices_ContainsFunc_api_Place_api_Place_p1)
theorem k_slices_ContainsFunc_api_Place_api_Place : Comp Try.prog nobx gtab 120 9 c_slices_ContainsFunc_api_Place_api_Place [.t 4] := ⟨⟨Try.f120, _, Try.func120, rfl, rfl, kr, kr⟩⟩
abbrev c_hand_fits_p1 : VC := (.seq (.ops 0 [oo 6 .mv [(.c (.lit (.bool false)))]]) .ret)
abbrev c_hand_fits_p2 : VC := (.seq (.ops 0 [oo 6 .mv [(.c (.lit (.bool false)))]]) .ret)
abbrev c_hand_fits_p3 : VC := (.seq (.ops 0 [oo 6 .mv [(.c (.lit (.bool false)))]]) .ret)
abbrev c_hand_fits_p4 : VC := (.seq (.ops 0 [oo 57 (.fldA 0) [.t 4], od 58 .ld1 [.t 57] [0], oo 59 .mv [.t 9], oo 60 (.ixA 2) [.t 58, .t 59], od 61 (.ldA 2) [.t 60] [0, 1, 2, 3], oo 62 (.fldA 0) [.t 4], od 63 .ld1 [.t 62] [5], oo 64 .mv [.t 7], oo 65 (.ixA 2) [.t 63, .t 64], od 66 (.ldA 2) [.t 65] [5, 6, 7, 8], oo 67 (.fldA 1) [.t 5], od 68 .ld1 [.t 67] [10], oo 69 .mv [.t 9], oo 70 (.ixA 1) [.t 68, .t 69], od 71 .ld1 [.t 70] [10, 11, 12, 13], oo 72 .mv [.t 8], oo 73 (.call 108) [.t 61, .t 66, .t 71, .t 72], oo 74 (.un .not) [.t 73]]) (.cond (.t 74) c_hand_fits_p3 .skip))
abbrev c_hand_fits_p5 : VC := (.ops 0 [oo 75 (.bin .add) [.t 54, kk 1], oo 54 .mv [.t 75]])
abbrev c_hand_fits_p6 : VC := (.seq (.block 3 (.seq (.ops 0 [oo 56 .mv [.t 54], oo 9 .mv [.t 56]]) c_hand_fits_p4)) c_hand_fits_p5)
abbrev c_hand_fits_p7 : VC := (.seq (.ops 0 [oo 55 (.bin .lss) [.t 54, .t 53]]) (.seq (.cond (.t 55) .skip (.exit 2)) c_hand_fits_p6))
@[go_sem] abbrev w_hand_fits_p7 : Nat := 75557845711515813937728
abbrev c_hand_fits_p9 : VC := (.seq (.ops 0 [oo 53 .mv [.t 7], oo 54 .mv [kk 0]]) (.block 2 (.loop c_hand_fits_p7)))
abbrev c_hand_fits_p10 : VC := (.seq (.seq (.ops 0 [oo 33 .mv [.t 8], oo 34 (.fldA 0) [.t 3], oo 35 .ld1 [.t 34], oo 36 .len [.t 35], oo 37 (.call 63) [.t 33, kk 1, .t 36], oo 38 (.un .not) [.t 37], oo 39 .mv [.t 38], ⟨(some 40), (some (39, false)), (.ldA 10), [.t 3], (some [0, 1, 2, 3, 4, 5, 6])⟩, og 41 39 false (.fldA 0) [.t 5], ⟨(some 42), (some (39, false)), .ld1, [.t 41], (some [0, 1, 2, 3, 4, 5, 6, 8])⟩, og 43 39 false .mv [.t 8], og 44 39 false (.fldA 0) [.t 4], ⟨(some 45), (some (39, false)), .ld1, [.t 44], (some [0, 1, 2, 3, 4, 5, 6, 11])⟩, og 46 39 false .mv [.t 7], og 47 39 false (.ixA 2) [.t 45, .t 46], og 48 39 false (.fldA 1) [.t 47], ⟨(some 49), (some (39, false)), .ld1, [.t 48], (some [0, 1, 2, 3, 4, 5, 6, 11, 12, 13, 14, 15])⟩, og 50 39 false (.call 107) [.t 40, .t 42, .t 43, .t 49], og 51 39 false (.un .not) [.t 50], oo 52 .pick [.t 39, (.c (.lit (.bool true))), .t 51]]) (.cond (.t 52) c_hand_fits_p2 .skip)) c_hand_fits_p9)
abbrev c_hand_fits_p11 : VC := (.ops 0 [oo 76 (.bin .add) [.t 28, kk 1], oo 28 .mv [.t 76]])
abbrev c_hand_fits_p12 : VC := (.seq (.block 1 (.seq (.ops 0 [oo 30 .mv [.t 28], oo 31 (.ixA 1) [.t 26, .t 28], oo 32 .ld1 [.t 31], oo 7 .mv [.t 30], oo 8 .mv [.t 32]]) c_hand_fits_p10)) c_hand_fits_p11)
abbrev c_hand_fits_p13 : VC := (.seq (.ops 0 [oo 29 (.bin .lss) [.t 28, .t 27]]) (.seq (.cond (.t 29) .skip (.exit 0)) c_hand_fits_p12))
@[go_sem] abbrev w_hand_fits_p13 : Nat := 151115727451828378403776
abbrev c_hand_fits_p15 : VC := (.seq (.ops 0 [oo 77 (.ldA 10) [.t 3], oo 78 (.ldA 3) [.t 4], oo 79 (.fldA 1) [.t 5], oo 80 .ld1 [.t 79], oo 81 (.call 105) [.t 77, .t 78, .t 80], oo 6 .mv [.t 81]]) .ret)
abbrev c_hand_fits_p16 : VC := (.seq (.seq (.ops 0 [oo 25 (.fldA 1) [.t 5], oo 26 .ld1 [.t 25], oo 27 .len [.t 26], oo 28 .mv [kk 0]]) (.block 0 (.loop c_hand_fits_p13))) c_hand_fits_p15)
abbrev c_hand_fits_p17 : VC := (.seq (.seq (.ops 0 [oo 10 (.fldA 0) [.t 5], oo 11 .ld1 [.t 10], oo 12 (.fldA 3) [.t 3], oo 13 .ld1 [.t 12], oo 14 (.call 63) [.t 11, kk 1, .t 13], oo 15 (.un .not) [.t 14], oo 16 .mv [.t 15], og 17 16 false (.fldA 1) [.t 5], og 18 16 false .ld1 [.t 17], og 19 16 false .len [.t 18], og 20 16 false (.fldA 0) [.t 4], og 21 16 false .ld1 [.t 20], og 22 16 false .len [.t 21], og 23 16 false (.bin .neq) [.t 19, .t 22], oo 24 .pick [.t 16, (.c (.lit (.bool true))), .t 23]]) (.cond (.t 24) c_hand_fits_p1 .skip)) c_hand_fits_p16)
def c_hand_fits : VC := (.seq (.ops 4 [oo 3 (.box 25) [.t 0], oo 4 (.box 47) [.t 1], oo 5 (.box 53) [.t 2], oo 6 .mv [(.c (.lit (.bool false)))]]) c_hand_fits_p17)
theorem k_hand_fits : Comp Try.prog nobx gtab 78 82 c_hand_fits [.t 6] := ⟨⟨Try.f78, _, Try.func78, rfl, rfl, kr, kr⟩⟩
abbrev c_theorboref06_reach_p1 : VC := (.seq (.ops 0 [oo 9 .mv [.t 2], oo 10 (.bin .geq) [.t 9, kk 1], oo 11 .mv [.t 10], og 12 11 true .mv [.t 2], og 13 11 true (.fldA 0) [.t 4], og 14 11 true .ld1 [.t 13], og 15 11 true .len [.t 14], og 16 11 true (.bin .leq) [.t 12, .t 15], oo 17 .pick [.t 11, .t 16, (.c (.lit (.bool false)))], oo 18 .mv [.t 17], og 19 18 true .mv [.t 3], og 20 18 true .mv [.t 1], og 21 18 true (.bin .sub) [.t 19, .t 20], og 22 18 true (.fldA 0) [.t 4], og 23 18 true .ld1 [.t 22], og 24 18 true .mv [.t 2], og 25 18 true (.bin .sub) [.t 24, kk 1], og 26 18 true (.ixA 1) [.t 23, .t 25], og 27 18 true .ld1 [.t 26], og 28 18 true (.bin .geq) [.t 21, .t 27], oo 29 .pick [.t 18, .t 28, (.c (.lit (.bool false)))], oo 30 .mv [.t 29], og 31 30 true .mv [.t 3], og 32 30 true .mv [.t 1], og 33 30 true (.bin .sub) [.t 31, .t 32], og 34 30 true (.fldA 1) [.t 4], og 35 30 true .ld1 [.t 34], og 36 30 true .mv [.t 2], og 37 30 true (.bin .sub) [.t 36, kk 1], og 38 30 true (.ixA 1) [.t 35, .t 37], og 39 30 true .ld1 [.t 38], og 40 30 true (.bin .leq) [.t 33, .t 39], oo 41 .pick [.t 30, .t 40, (.c (.lit (.bool false)))], oo 8 .mv [.t 41]]) .ret)
def c_theorboref06_reach : VC := (.seq (.ops 2 [oo 4 (.box 25) [.t 0], oo 8 .mv [(.c (.lit (.bool false)))]]) c_theorboref06_reach_p1)
theorem k_theorboref06_reach : Comp Try.prog nobx gtab 115 42 c_theorboref06_reach [.t 8] := ⟨⟨Try.f115, _, Try.func115, rfl, rfl, kr, kr⟩⟩
abbrev c_theorboref06_apart_p1 : VC := (.seq (.ops 0 [oo 33 .mv [.t 4], oo 34 .mv [.t 5], oo 35 (.bin .lss) [.t 33, .t 34], oo 12 .mv [.t 35]]) .ret)
abbrev c_theorboref06_apart_p2 : VC := (.seq (.ops 0 [oo 42 .mv [.t 4], oo 43 .mv [.t 5], oo 44 (.bin .gtr) [.t 42, .t 43], oo 12 .mv [.t 44]]) .ret)
abbrev c_theorboref06_apart_p3 : VC := (.seq (.ops 0 [oo 49 .mv [.t 4], oo 50 .mv [.t 5], oo 51 (.bin .gtr) [.t 49, .t 50], oo 12 .mv [.t 51]]) .ret)
abbrev c_theorboref06_apart_p4 : VC := (.seq (.ops 0 [oo 46 .mv [.t 4], oo 47 .mv [.t 5], oo 48 (.bin .neq) [.t 46, .t 47], oo 45 .mv [.t 48]]) (.cond (.t 45) c_theorboref06_apart_p3 .skip))
abbrev c_theorboref06_apart_p5 : VC := (.cond (.t 36) c_theorboref06_apart_p2 c_theorboref06_apart_p4)
abbrev c_theorboref06_apart_p6 : VC := (.seq (.ops 0 [oo 37 (.fldA 1) [.t 13], oo 38 .ld1 [.t 37], oo 39 (.fldA 1) [.t 14], oo 40 .ld1 [.t 39], oo 41 (.bin .gtr) [.t 38, .t 40], oo 36 .mv [.t 41]]) c_theorboref06_apart_p5)
abbrev c_theorboref06_apart_p7 : VC := (.cond (.t 27) c_theorboref06_apart_p1 c_theorboref06_apart_p6)
abbrev c_theorboref06_apart_p8 : VC := (.seq (.ops 0 [oo 12 .mv [(.c (.lit (.bool false)))]]) .ret)
abbrev c_theorboref06_apart_p9 : VC := (.seq (.ops 0 [oo 12 .mv [(.c (.lit (.bool false)))]]) .ret)
abbrev c_theorboref06_apart_p10 : VC := (.ops 0 [oo 64 .mv [.t 15], oo 65 (.bin .add) [.t 64, kk 1], oo 15 .mv [.t 65]])
abbrev c_theorboref06_apart_p11 : VC := (.seq (.block 2 (.seq (.ops 0 [oo 66 (.fldA 2) [.t 7], od 67 .ld1 [.t 66] [0], oo 68 .mv [.t 15], oo 69 (.ixA 1) [.t 67, .t 68], od 70 .ld1 [.t 69] [0, 1, 2, 3], oo 71 (.fldA 0) [.t 13], od 72 .ld1 [.t 71] [5], oo 73 (.bin .gtr) [.t 70, .t 72], oo 74 .mv [.t 73], og 75 74 true (.fldA 2) [.t 7], ⟨(some 76), (some (74, true)), .ld1, [.t 75], (some [0, 1, 2, 3, 4, 5, 6, 7, 8, 9])⟩, og 77 74 true .mv [.t 15], og 78 74 true (.ixA 1) [.t 76, .t 77], ⟨(some 79), (some (74, true)), .ld1, [.t 78], (some [0, 1, 2, 3, 4, 5, 6, 7, 8, 9, 10, 11, 12])⟩, og 80 74 true (.fldA 0) [.t 14], ⟨(some 81), (some (74, true)), .ld1, [.t 80], (some [0, 1, 2, 3, 4, 5, 6, 7, 8, 14])⟩, og 82 74 true (.bin .lss) [.t 79, .t 81], oo 83 .pick [.t 74, .t 82, (.c (.lit (.bool false)))]]) (.cond (.t 83) c_theorboref06_apart_p9 .skip))) c_theorboref06_apart_p10)
abbrev c_theorboref06_apart_p12 : VC := (.seq (.seq (.ops 0 [oo 59 .mv [.t 15], oo 60 (.fldA 2) [.t 7], oo 61 .ld1 [.t 60], oo 62 .len [.t 61], oo 63 (.bin .lss) [.t 59, .t 62]]) (.cond (.t 63) .skip (.exit 1))) c_theorboref06_apart_p11)
@[go_sem] abbrev w_theorboref06_apart_p12 : Nat := 19342812537373314491912192
abbrev c_theorboref06_apart_p14 : VC := (.seq (.ops 0 [oo 12 .mv [(.c (.lit (.bool false)))]]) .ret)
abbrev c_theorboref06_apart_p15 : VC := (.ops 0 [oo 88 .mv [.t 16], oo 89 (.bin .add) [.t 88, kk 1], oo 16 .mv [.t 89]])
abbrev c_theorboref06_apart_p16 : VC := (.seq (.block 4 (.seq (.ops 0 [oo 90 (.fldA 0) [.t 7], od 91 .ld1 [.t 90] [0], oo 92 .mv [.t 16], oo 93 (.ixA 2) [.t 91, .t 92], oo 94 (.fldA 1) [.t 93], od 95 .ld1 [.t 94] [0, 1, 2, 3, 4], oo 96 (.fldA 1) [.t 13], od 97 .ld1 [.t 96] [6], oo 98 (.bin .lss) [.t 95, .t 97]]) (.cond (.t 98) c_theorboref06_apart_p14 .skip))) c_theorboref06_apart_p15)
abbrev c_theorboref06_apart_p17 : VC := (.seq (.seq (.ops 0 [oo 85 .mv [.t 16], oo 86 .mv [.t 3], oo 87 (.bin .lss) [.t 85, .t 86]]) (.cond (.t 87) .skip (.exit 3))) c_theorboref06_apart_p16)
@[go_sem] abbrev w_theorboref06_apart_p17 : Nat := 633786614487887032614761074688
abbrev c_theorboref06_apart_p19 : VC := (.seq (.ops 0 [oo 12 .mv [(.c (.lit (.bool true)))]]) .ret)
abbrev c_theorboref06_apart_p20 : VC := (.seq (.seq (.ops 0 [oo 84 .mv [.t 2], oo 16 .mv [.t 84]]) (.block 3 (.loop c_theorboref06_apart_p17))) c_theorboref06_apart_p19)
abbrev c_theorboref06_apart_p21 : VC := (.seq (.seq (.ops 0 [oo 15 .mv [kk 0]]) (.block 1 (.loop c_theorboref06_apart_p12))) c_theorboref06_apart_p20)
abbrev c_theorboref06_apart_p22 : VC := (.seq (.seq (.ops 0 [oo 52 (.fldA 2) [.t 6], oo 53 .ld1 [.t 52], oo 54 .mv [.t 4], oo 55 (.bin .sub) [.t 54, kk 1], oo 56 (.ixA 1) [.t 53, .t 55], oo 57 .ld1 [.t 56], oo 58 (.un .not) [.t 57]]) (.cond (.t 58) c_theorboref06_apart_p8 .skip)) c_theorboref06_apart_p21)
abbrev c_theorboref06_apart_p23 : VC := (.seq (.block 0 (.seq (.ops 0 [oo 28 (.fldA 1) [.t 13], oo 29 .ld1 [.t 28], oo 30 (.fldA 1) [.t 14], oo 31 .ld1 [.t 30], oo 32 (.bin .lss) [.t 29, .t 31], oo 27 .mv [.t 32]]) c_theorboref06_apart_p7)) c_theorboref06_apart_p22)
abbrev c_theorboref06_apart_p24 : VC := (.seq (.ops 14 [oo 17 (.fldA 0) [.t 7], od 18 .ld1 [.t 17] [0], oo 19 .mv [.t 2], oo 20 (.ixA 2) [.t 18, .t 19], od 21 (.ldA 2) [.t 20] [0, 1, 2, 3], oo 22 (.fldA 0) [.t 7], od 23 .ld1 [.t 22] [5], oo 24 .mv [.t 3], oo 25 (.ixA 2) [.t 23, .t 24], od 26 (.ldA 2) [.t 25] [5, 6, 7, 8], od 13 (.alloc 92 [li 0, li 0]) [] [], od 14 (.alloc 92 [li 0, li 0]) [] [], ⟨none, none, (.st 2), [.t 13, .t 21], (some [10])⟩, ⟨none, none, (.st 2), [.t 14, .t 26], none⟩]) c_theorboref06_apart_p23)
def c_theorboref06_apart : VC := (.seq (.ops 3 [oo 6 (.box 25) [.t 0], oo 7 (.box 47) [.t 1], oo 12 .mv [(.c (.lit (.bool false)))]]) c_theorboref06_apart_p24)
theorem k_theorboref06_apart : Comp Try.prog nobx gtab 116 99 c_theorboref06_apart [.t 12] := ⟨⟨Try.f116, _, Try.func116, rfl, rfl, kr, kr⟩⟩
end Go.Proofs.Ytojjdkoglhecbaa
namespace Go.Proofs.Ytojjdkoglhecbaa
open Go.RowKit
set_option linter.unusedSimpArgs false
set_option linter.unusedVariables false

/-- The first that is so; how many there are, if there is none. -/
def gI {α : Type} (p : α → Bool) : List α → Nat
  | [] => 0
  | x :: l => if p x = true then 0 else gI p l + 1
section
variable {α : Type} {p : α → Bool} {d : α}
theorem gI_le (l : List α) : gI p l ≤ l.length := by
  induction l with
  | nil => exact Nat.le_refl _
  | cons x l ih => rw [gI]; split <;> simp <;> omega
theorem gI_at {l : List α} (h : gI p l < l.length) : p (l.getD (gI p l) d) = true := by
  induction l with
  | nil => simp at h
  | cons x l ih =>
    rw [gI] at h ⊢
    split
    · rename_i hp; simpa using hp
    · rename_i hp
      rw [if_neg hp] at h
      simpa using ih (by simpa using h)
theorem gI_before {l : List α} {j : Nat} (h : j < gI p l) : p (l.getD j d) = false := by
  induction l generalizing j with
  | nil => simp [gI] at h
  | cons x l ih =>
    rw [gI] at h
    split at h
    · omega
    · rename_i hp
      cases j with
      | zero => simpa using hp
      | succ j => simpa using ih (by omega)
theorem gI_eq {l : List α} {k : Nat} (h : ∀ j, j < k → p (l.getD j d) = false) (hk : k < l.length) (hc : p (l.getD k d) = true) : gI p l = k := by
  rcases Nat.lt_trichotomy (gI p l) k with h1 | h1 | h1
  · have := h _ h1; rw [gI_at (p := p) (l := l) (d := d) (by omega)] at this; cases this
  · exact h1
  · rw [gI_before h1] at hc; cases hc
theorem gI_none {l : List α} (h : ∀ j, j < l.length → p (l.getD j d) = false) : gI p l = l.length := by
  rcases Nat.lt_or_ge (gI p l) l.length with h1 | h1
  · have := h _ h1; rw [gI_at (d := d) h1] at this; cases this
  · exact Nat.le_antisymm (gI_le l) h1
theorem gI_lt (d : α) {l : List α} : gI p l < l.length ↔ ∃ j, j < l.length ∧ p (l.getD j d) = true := by
  constructor
  · exact fun h => ⟨_, h, gI_at h⟩
  · rintro ⟨j, hj, hc⟩
    rcases Nat.lt_or_ge (gI p l) l.length with h1 | h1
    · exact h1
    · rw [gI_before (p := p) (l := l) (j := j) (d := d) (by omega)] at hc; cases hc
end
/-- The index as the program has it. -/
def gIx {α : Type} (p : α → Bool) (l : List α) : Int := if gI p l < l.length then (gI p l : Int) else -1
theorem gIx_ge {α : Type} {p : α → Bool} {l : List α} : decide (0 ≤ gIx p l) = decide (gI p l < l.length) := by
  rw [gIx]
  split
  · rename_i h; rw [decide_eq_true h]; simp
  · rename_i h; rw [decide_eq_false h]; rfl

theorem index_fn (l : List Int) (v : Int) (hl : l.length ≤ 4611686018427387904) : Fn Try.prog Gd 92 [tIs l, vint v] (vint (gIx (fun x => v == x) l)) := by
  refine Fn.of_vx0 k_slices_Index_int_int (by simp) (by rw [V.pures, pure_tIs]; rfl) ?_
  unfold c_slices_Index_int_int
  repeat' (with_reducible first | refine x_ops ?_ | refine wk ?_ | ((first | refine gd1 ?_ ?_ | refine gd2 ?_ ?_ | refine gd3 ?_ ?_) <;> (first | exact @False.elim _ | intro hc)))
  refine x_loopF w_slices_Index_int_int_p6 (by kernel_rfl) l.length (fun k t => t 8 = vint (k : Int) ∧ ∀ i, i < k → (v == l.getD i 0) = false) ?_ ?_
  · exact ⟨vv, fun i h => by omega⟩
  rintro k t hk ⟨h8, hI⟩
  by_cases hlt : k < l.length
  · have g1 := ints_at hlt
    have c2 : (k : Int) < (l.length : Int) := by omega
    have w2 := w_add1 (k := k) (by omega)
    repeat' (with_reducible first | refine x_ops ?_ | refine wk ?_ | ((first | refine gd1 ?_ ?_ | refine gd2 ?_ ?_ | refine gd3 ?_ ?_) <;> (first | exact @False.elim _ | intro hc)))
    · refine finV_lit vv ?_
      rw [gIx, gI_eq (p := fun x => v == x) hI hlt hc, if_pos hlt]
    · refine nf (by omega) ⟨vv, fun i h => ?_⟩ rfl
      by_cases hi : i = k
      · subst hi; exact hc
      · exact hI i (by omega)
  · have c1 : ¬ ((k : Int) < (l.length : Int)) := by omega
    repeat' (with_reducible first | refine x_ops ?_ | refine wk ?_ | ((first | refine gd1 ?_ ?_ | refine gd2 ?_ ?_ | refine gd3 ?_ ?_) <;> (first | exact @False.elim _ | intro hc)))
    refine finV_lit vv ?_
    have hI := fun i (h : i < l.length) => hI i (by omega)
    rw [gIx, gI_none (p := fun x => v == x) hI, if_neg (by omega)]
theorem indexfuncI_fn (l : List Int) (p : Int → Bool) {f : FuncId} {cs : List V} (hc : callable Try.prog f = true) (hp : V.pures cs = true) (hn : V.norms cs = cs) (hf : ∀ x, Fn Try.prog Gd f (vint x :: cs) (vbool (p x))) (hl : l.length ≤ 4611686018427387904) :
    Fn Try.prog Gd 125 [tIs l, .fn f cs] (vint (gIx p l)) := by
  refine Fn.of_vx0 k_slices_IndexFunc_int_int (by simp) (by rw [V.pures, pure_tIs, V.pures, V.pure, hp]; rfl) ?_
  unfold c_slices_IndexFunc_int_int
  repeat' (with_reducible first | refine x_ops ?_ | refine wk ?_ | ((first | refine gd1 ?_ ?_ | refine gd2 ?_ ?_ | refine gd3 ?_ ?_) <;> (first | exact @False.elim _ | intro hc)))
  refine x_loopF w_slices_IndexFunc_int_int_p6 (by kernel_rfl) l.length (fun k t => t 8 = vint (k : Int) ∧ ∀ i, i < k → p (l.getD i 0) = false) ?_ ?_
  · exact ⟨vv, fun i h => by omega⟩
  rintro k t hk ⟨h8, hI⟩
  by_cases hlt : k < l.length
  · have g1 := ints_at hlt
    have c2 : (k : Int) < (l.length : Int) := by omega
    have w2 := w_add1 (k := k) (by omega)
    have hx : Fn Try.prog Gd f (V.lit (.int .i64 (l.getD k 0)) :: cs) (vbool (p (l.getD k 0))) := hf (l.getD k 0)
    have hn2 : V.norms (V.lit (.int .i64 (l.getD k 0)) :: cs) = V.lit (.int .i64 (l.getD k 0)) :: cs := by rw [V.norms, hn]; rfl
    clear hp hf hn
    replace hn2 := Hid.mk hn2
    repeat' (with_reducible first | refine x_ops ?_ | refine wk ?_ | (with_reducible refine x_callvF (by (simp only [go_sem, Nat.reduceAdd, Nat.reduceEqDiff, Nat.reduceLT, Nat.reduceLeDiff, Nat.reduceMul, Nat.reduceSub, Nat.reducePow, Nat.reduceDiv, Nat.reduceMod, Nat.reduceBEq, Int.reduceBEq, Int.reduceLT, reduceIte, V.norms, V.norm, tIs, tBs, tPs, *]); first | done | rfl) hc hx (by simp only [List.map_cons, List.map_nil, List.cons_append, List.nil_append, St.ev, putT_get, reduceIte, Nat.reduceEqDiff]; exact hn2.out) ?_) | ((first | refine gd1 ?_ ?_ | refine gd2 ?_ ?_ | refine gd3 ?_ ?_) <;> (first | exact @False.elim _ | intro hc)))
    · refine finV_lit vv ?_
      rw [gIx, gI_eq (p := p) hI hlt (by assumption), if_pos hlt]
    · refine nf (by omega) ⟨vv, fun i h => ?_⟩ rfl
      by_cases hi : i = k
      · subst hi; assumption
      · exact hI i (by omega)
  · have c1 : ¬ ((k : Int) < (l.length : Int)) := by omega
    repeat' (with_reducible first | refine x_ops ?_ | refine wk ?_ | ((first | refine gd1 ?_ ?_ | refine gd2 ?_ ?_ | refine gd3 ?_ ?_) <;> (first | exact @False.elim _ | intro hc)))
    refine finV_lit vv ?_
    have hI := fun i (h : i < l.length) => hI i (by omega)
    rw [gIx, gI_none (p := p) hI, if_neg (by omega)]
theorem containsI_fn (l : List Int) (p : Int → Bool) {f : FuncId} {cs : List V} (hc : callable Try.prog f = true) (hp : V.pures cs = true) (hn : V.norms cs = cs) (hf : ∀ x, Fn Try.prog Gd f (vint x :: cs) (vbool (p x))) (hl : l.length ≤ 4611686018427387904) :
    Fn Try.prog Gd 85 [tIs l, .fn f cs] (vbool (decide (gI p l < l.length))) := by
  refine Fn.of_vx0 k_slices_ContainsFunc_int_int (by simp) (by rw [V.pures, pure_tIs, V.pures, V.pure, hp]; rfl) ?_
  unfold c_slices_ContainsFunc_int_int
  have h1 := indexfuncI_fn l p hc hp hn hf hl
  have h2 := gIx_ge (p := p) (l := l)
  clear hp hn
  repeat' (with_reducible first | refine x_ops ?_ | refine wk ?_ | (with_reducible refine xc (h1) ?_) | ((first | refine gd1 ?_ ?_ | refine gd2 ?_ ?_ | refine gd3 ?_ ?_) <;> (first | exact @False.elim _ | intro hc)))
  exact finV_lit vv rfl
end Go.Proofs.Ytojjdkoglhecbaa
namespace Go.Proofs.Ytojjdkoglhecbaa
open Go.RowKit
set_option linter.unusedSimpArgs false
set_option linter.unusedVariables false

theorem indexfuncP_fn (l : List (Int × Int)) (p : Int × Int → Bool) {f : FuncId} {cs : List V} (hc : callable Try.prog f = true) (hp : V.pures cs = true) (hn : V.norms cs = cs) (hf : ∀ x : Int × Int, Fn Try.prog Gd f (.agg (plE x) :: cs) (vbool (p x))) (hl : l.length ≤ 4611686018427387904) :
    Fn Try.prog Gd 129 [tPs l, .fn f cs] (vint (gIx p l)) := by
  refine Fn.of_vx0 k_slices_IndexFunc_api_Place_api_Place (by simp) (by rw [V.pures, pure_tPs, V.pures, V.pure, hp]; rfl) ?_
  unfold c_slices_IndexFunc_api_Place_api_Place
  repeat' (with_reducible first | refine x_ops ?_ | refine wk ?_ | ((first | refine gd1 ?_ ?_ | refine gd2 ?_ ?_ | refine gd3 ?_ ?_) <;> (first | exact @False.elim _ | intro hc)))
  refine x_loopF w_slices_IndexFunc_api_Place_api_Place_p7 (by kernel_rfl) l.length (fun k t => t 8 = vint (k : Int) ∧ ∀ i, i < k → p (l.getD i (0, 0)) = false) ?_ ?_
  · exact ⟨vv, fun i h => by omega⟩
  rintro k t hk ⟨h8, hI⟩
  by_cases hlt : k < l.length
  · have g1 := pls_take hlt
    have g2 := pls_len l
    have c2 : (k : Int) < (l.length : Int) := by omega
    have c3 : k * 2 + 2 ≤ l.length * 2 := by omega
    have w2 := w_add1 (k := k) (by omega)
    have hx : Fn Try.prog Gd f (V.agg [.lit (.int .i64 (l.getD k (0, 0)).1), .lit (.int .i64 (l.getD k (0, 0)).2)] :: cs) (vbool (p (l.getD k (0, 0)))) := hf (l.getD k (0, 0))
    have hn2 : V.norms (V.agg [.lit (.int .i64 (l.getD k (0, 0)).1), .lit (.int .i64 (l.getD k (0, 0)).2)] :: cs) = V.agg [.lit (.int .i64 (l.getD k (0, 0)).1), .lit (.int .i64 (l.getD k (0, 0)).2)] :: cs := by rw [V.norms, hn]; rfl
    clear hp hf hn
    replace hn2 := Hid.mk hn2
    repeat' (with_reducible first | refine x_ops ?_ | refine wk ?_ | (with_reducible refine x_callvF (by (simp only [go_sem, Nat.reduceAdd, Nat.reduceEqDiff, Nat.reduceLT, Nat.reduceLeDiff, Nat.reduceMul, Nat.reduceSub, Nat.reducePow, Nat.reduceDiv, Nat.reduceMod, Nat.reduceBEq, Int.reduceBEq, Int.reduceLT, reduceIte, V.norms, V.norm, tIs, tBs, tPs, *]); first | done | rfl) hc hx (by simp only [List.map_cons, List.map_nil, List.cons_append, List.nil_append, St.ev, putT_get, reduceIte, Nat.reduceEqDiff]; exact hn2.out) ?_) | ((first | refine gd1 ?_ ?_ | refine gd2 ?_ ?_ | refine gd3 ?_ ?_) <;> (first | exact @False.elim _ | intro hc)))
    · refine finV_lit vv ?_
      rw [gIx, gI_eq (p := p) hI hlt (by assumption), if_pos hlt]
    · refine nf (by omega) ⟨vv, fun i h => ?_⟩ rfl
      by_cases hi : i = k
      · subst hi; assumption
      · exact hI i (by omega)
  · have c1 : ¬ ((k : Int) < (l.length : Int)) := by omega
    repeat' (with_reducible first | refine x_ops ?_ | refine wk ?_ | ((first | refine gd1 ?_ ?_ | refine gd2 ?_ ?_ | refine gd3 ?_ ?_) <;> (first | exact @False.elim _ | intro hc)))
    refine finV_lit vv ?_
    have hI := fun i (h : i < l.length) => hI i (by omega)
    rw [gIx, gI_none (p := p) hI, if_neg (by omega)]
theorem containsP_fn (l : List (Int × Int)) (p : Int × Int → Bool) {f : FuncId} {cs : List V} (hc : callable Try.prog f = true) (hp : V.pures cs = true) (hn : V.norms cs = cs) (hf : ∀ x : Int × Int, Fn Try.prog Gd f (.agg (plE x) :: cs) (vbool (p x))) (hl : l.length ≤ 4611686018427387904) :
    Fn Try.prog Gd 120 [tPs l, .fn f cs] (vbool (decide (gI p l < l.length))) := by
  refine Fn.of_vx0 k_slices_ContainsFunc_api_Place_api_Place (by simp) (by rw [V.pures, pure_tPs, V.pures, V.pure, hp]; rfl) ?_
  unfold c_slices_ContainsFunc_api_Place_api_Place
  have h1 := indexfuncP_fn l p hc hp hn hf hl
  have h2 := gIx_ge (p := p) (l := l)
  clear hp hn
  repeat' (with_reducible first | refine x_ops ?_ | refine wk ?_ | (with_reducible refine xc (h1) ?_) | ((first | refine gd1 ?_ ?_ | refine gd2 ?_ ?_ | refine gd3 ?_ ?_) <;> (first | exact @False.elim _ | intro hc)))
  exact finV_lit vv rfl

theorem spans1_fn (a b : Int) (x : Int) : Fn Try.prog Gd 132 [vint x, .ept [vint a] 0, .ept [vint b] 0] (vbool (decide (a < x) && decide (x < b))) := by
  refine Fn.of_vx0 k_hand_spans_1 (by simp) rfl ?_
  unfold c_hand_spans_1
  repeat' (with_reducible first | refine x_ops ?_ | refine wk ?_ | ((first | refine gd1 ?_ ?_ | refine gd2 ?_ ?_ | refine gd3 ?_ ?_) <;> (first | exact @False.elim _ | intro hc)))
  all_goals refine finV_lit vv ?_
  all_goals simp only [Bool.true_and, Bool.false_and]
theorem spans2_fn (a : Int) (x : Int × Int) : Fn Try.prog Gd 133 [.agg (plE x), .ept [vint a] 0] (vbool (decide (x.2 < a))) := by
  refine Fn.of_vx0 k_hand_spans_2 (by simp) rfl ?_
  unfold c_hand_spans_2 plE
  repeat' (with_reducible first | refine x_ops ?_ | refine wk ?_ | ((first | refine gd1 ?_ ?_ | refine gd2 ?_ ?_ | refine gd3 ?_ ?_) <;> (first | exact @False.elim _ | intro hc)))
  exact finV_lit vv rfl
theorem call_spans1 : callable Try.prog 132 = true := by kernel_rfl
theorem call_spans2 : callable Try.prog 133 = true := by kernel_rfl

/-- The finger number f + 1 at a position reaches a fret. -/
def rchB (h : Hand) (pos : Int) (f : Nat) (fret : Int) : Bool := decide (pos + h.low.getD f 0 ≤ fret) && decide (fret ≤ pos + h.high.getD f 0)
theorem reach_fn (h : Hand) (hk : HandOk h) (pos : Int) (f : Nat) (fret : Int) (hp : -100 ≤ pos ∧ pos ≤ 100) (hf : f < h.low.length) :
    Fn Try.prog Gd 107 [h.val, vint pos, vint ((f + 1 : Nat) : Int), vint fret] (vbool (rchB h pos f fret)) := by
  refine Fn.of_vx0 k_hand_reach (by simp) (by rw [V.pures, pure_hand]; rfl) ?_
  have he := hk.each f hf
  have hh := hk.nh
  have h4 := hk.n4
  have g1 := ints_at hf
  have g2 := ints_at (l := h.high) (k := f) (by omega)
  have c1 : (f : Int) < (h.low.length : Int) := by omega
  have c2 : (f : Int) < (h.high.length : Int) := by omega
  have w1 : IntKind.i64.wrap (((f + 1 : Nat) : Int) - 1) = (f : Int) := by rw [w_in (by omega)]; omega
  have w2 : IntKind.i64.wrap (pos + h.low.getD f 0) = pos + h.low.getD f 0 := w_in (by omega)
  have w3 : IntKind.i64.wrap (pos + h.high.getD f 0) = pos + h.high.getD f 0 := w_in (by omega)
  clear hh he hp h4
  unfold c_hand_reach Hand.val
  repeat' (with_reducible first | refine x_ops ?_ | refine wk ?_ | (with_reducible refine xc (within_fn _ _ _) ?_) | ((first | refine gd1 ?_ ?_ | refine gd2 ?_ ?_ | refine gd3 ?_ ?_) <;> (first | exact @False.elim _ | intro hc)))
  exact finV_lit vv rfl

/-- Two places can have two fingers. -/
def agrB (a b : Int × Int) (f g : Int) : Bool := if a.2 < b.2 then decide (f < g) else if b.2 < a.2 then decide (g < f) else if a.1 < b.1 then decide (g ≤ f) else decide (f ≤ g)
theorem agree_fn (a b : Int × Int) (f g : Int) : Fn Try.prog Gd 108 [.agg (plE a), .agg (plE b), vint f, vint g] (vbool (agrB a b f g)) := by
  refine Fn.of_vx0 k_hand_agree (by simp) rfl ?_
  unfold c_hand_agree plE agrB
  repeat' (with_reducible first | refine x_ops ?_ | refine wk ?_ | ((first | refine gd1 ?_ ?_ | refine gd2 ?_ ?_ | refine gd3 ?_ ?_) <;> (first | exact @False.elim _ | intro hc)))
  all_goals refine finV_lit vv ?_
  all_goals first | rfl | (simp only [*, if_true, if_false])
end Go.Proofs.Ytojjdkoglhecbaa
namespace Go.Proofs.Ytojjdkoglhecbaa
open Go.RowKit
set_option linter.unusedSimpArgs false
set_option linter.unusedVariables false

/-- The last of the first k that has this finger; d, if there is none. -/
def lastU (l : List Int) (v : Int) (d : Nat) : Nat → Nat
  | 0 => d
  | k + 1 => if l.getD k 0 = v then k else lastU l v d k
theorem lastU_le {l : List Int} {v : Int} {d : Nat} : ∀ {k : Nat}, (∀ j, j < d → l.getD j 0 ≠ v) → (lastU l v d k = d ∨ (d ≤ lastU l v d k ∧ lastU l v d k < k ∧ l.getD (lastU l v d k) 0 = v))
  | 0, _ => .inl rfl
  | k + 1, h => by
    rw [lastU]
    split
    · rename_i hk
      rcases Nat.lt_or_ge k d with h1 | h1
      · exact absurd hk (h k h1)
      · exact .inr ⟨h1, Nat.lt_succ_self k, hk⟩
    · rcases lastU_le (k := k) h with h1 | ⟨h1, h2, h3⟩
      · exact .inl h1
      · exact .inr ⟨h1, by omega, h3⟩
theorem lastU_after {l : List Int} {v : Int} {d : Nat} : ∀ {k j : Nat}, j < k → lastU l v d k < j → d ≤ j → l.getD j 0 ≠ v
  | 0, j, h, _, _ => by omega
  | k + 1, j, h, h2, h3 => by
    rw [lastU] at h2
    split at h2
    · omega
    · rename_i hk
      rcases Nat.lt_or_ge j k with h1 | h1
      · exact lastU_after h1 h2 h3
      · have : j = k := by omega
        subst this; exact hk
/-- Index of the first and the last place of a finger. -/
def fsF (l : List Int) (f : Nat) : Nat := gI (fun x => ((f + 1 : Nat) : Int) == x) l
def lsF (l : List Int) (f : Nat) : Nat := lastU l ((f + 1 : Nat) : Int) (fsF l f) l.length
/-- A finger with several places can lie over them. -/
def spF (h : Hand) (c : Chord) (l : List Int) (f : Nat) : Prop := fsF l f < l.length → fsF l f ≠ lsF l f →
  h.barre.getD f false = true ∧ (c.down.getD (fsF l f) (0, 0)).2 = (c.down.getD (lsF l f) (0, 0)).2 ∧
  (∀ i, i < c.opn.length → ¬ ((c.down.getD (fsF l f) (0, 0)).1 < c.opn.getD i 0 ∧ c.opn.getD i 0 < (c.down.getD (lsF l f) (0, 0)).1)) ∧
  ∀ j, fsF l f ≤ j → j < lsF l f → ¬ (c.down.getD j (0, 0)).2 < (c.down.getD (fsF l f) (0, 0)).2
def Spans (h : Hand) (c : Chord) (l : List Int) : Prop := ∀ f, f < h.low.length → spF h c l f
noncomputable def spnB (h : Hand) (c : Chord) (l : List Int) : Bool := @decide (Spans h c l) (Classical.propDecidable _)
theorem spn_bad {h : Hand} {c : Chord} {l : List Int} (hn : ¬ Spans h c l) : Value.bool false = Value.bool (spnB h c l) := by unfold spnB; simp [hn]
theorem spn_good {h : Hand} {c : Chord} {l : List Int} (hn : Spans h c l) : Value.bool true = Value.bool (spnB h c l) := by unfold spnB; simp [hn]
theorem spn_true {h : Hand} {c : Chord} {l : List Int} : spnB h c l = true ↔ Spans h c l := by unfold spnB; simp
theorem flat_drop_n {α : Type} {enc : α → List V} {sz : Nat} (he : ∀ x, (enc x).length = sz) (l : List α) (k : Nat) : (l.flatMap enc).drop (k * sz) = (l.drop k).flatMap enc := by
  induction l generalizing k with
  | nil => simp
  | cons a l ih =>
    cases k with
    | zero => simp
    | succ k => rw [List.flatMap_cons, List.drop_succ_cons, ← ih, show (k + 1) * sz = sz + k * sz by rw [Nat.add_mul]; omega, ← List.drop_drop, List.drop_left' (he a)]
theorem fsF_first {l : List Int} {f : Nat} (h : fsF l f < l.length) : l.getD (fsF l f) 0 = ((f + 1 : Nat) : Int) := (eq_of_beq (gI_at (p := fun x => ((f + 1 : Nat) : Int) == x) (d := 0) h)).symm
theorem fsF_before {l : List Int} {f j : Nat} (h : j < fsF l f) : l.getD j 0 ≠ ((f + 1 : Nat) : Int) := fun e => by
  have := gI_before (p := fun x => ((f + 1 : Nat) : Int) == x) (d := 0) h
  rw [e] at this
  simp at this
theorem lsF_ok {l : List Int} {f : Nat} (h : fsF l f < l.length) : fsF l f ≤ lsF l f ∧ lsF l f < l.length ∧ l.getD (lsF l f) 0 = ((f + 1 : Nat) : Int) := by
  rcases lastU_le (l := l) (v := ((f + 1 : Nat) : Int)) (d := fsF l f) (k := l.length) (fun j hj => fsF_before hj) with h1 | ⟨h1, h2, h3⟩
  · rw [lsF, h1]; exact ⟨Nat.le_refl _, h, fsF_first h⟩
  · exact ⟨h1, h2, h3⟩

set_option maxHeartbeats 2000000 in
theorem spans_fn (h : Hand) (hk : HandOk h) (c : Chord) (hf : FitC c) (l : List Int) (hl : l.length = c.down.length) : Fn Try.prog Gd 105 [h.val, c.val, tIs l] (vbool (spnB h c l)) := by
  refine Fn.of_vx0 k_hand_spans (by simp) (by rw [V.pures, pure_hand, V.pures, pure_chord, V.pures, pure_tIs]; rfl) ?_
  have hb1 := hf.1
  have hlb : l.length ≤ 8796093022208 := by omega
  have n4 := hk.n4
  have I0 := fun v => index_fn l v (by omega)
  unfold c_hand_spans Hand.val Chord.val Chord.cells
  replace hl := Hid.mk hl
  repeat' (with_reducible first | refine x_ops ?_ | refine wk ?_ | ((first | refine gd1 ?_ ?_ | refine gd2 ?_ ?_ | refine gd3 ?_ ?_) <;> (first | exact @False.elim _ | intro hc)))
  refine x_loopW w_hand_spans_p20 (by kernel_rfl) h.low.length (fun k t m => t 7 = vint ((k + 1 : Nat) : Int) ∧ m.obj 0 = some (.box [tIs h.low, tIs h.high, tBs h.barre, vint h.top, vint h.jump, vint h.shift, vint h.lift, vint h.bar, vint h.stretch, vint h.slide] 25) ∧
    m.obj 1 = some (.box [tPs c.down, tIs c.held, tIs c.opn] 47) ∧ 1 < m.next ∧ ∀ f, f < k → spF h c l f) ?_ ?_
  · exact ⟨vv, vv, vv, by ((refine ve ?_; try exact True.intro)); try omega, fun i h => by omega⟩
  rintro k t m hkk ⟨h7, hm0, hm1, hn, hI⟩
  by_cases hlt : k < h.low.length
  · have c1 : ((k + 1 : Nat) : Int) ≤ (h.low.length : Int) := by omega
    have w1 : IntKind.i64.wrap (((k + 1 : Nat) : Int) + 1) = ((k + 1 + 1 : Nat) : Int) := w_add1 (by omega)
    have I1 := I0 ((k + 1 : Nat) : Int)
    have efs : gI (fun x => ((k + 1 : Nat) : Int) == x) l = fsF l k := rfl
    rw [gIx, efs] at I1
    clear I0 efs
    by_cases hfs : fsF l k < l.length
    · rw [if_pos hfs] at I1
      have d1 : ¬ ((fsF l k : Nat) : Int) < 0 := by omega
      repeat' (with_reducible first | refine x_ops ?_ | refine wk ?_ | (with_reducible refine xc (I1) ?_) | ((first | refine gd1 ?_ ?_ | refine gd2 ?_ ?_ | refine gd3 ?_ ?_) <;> (first | exact @False.elim _ | intro hc)))
      refine x_loopF w_hand_spans_p5 (by kernel_rfl) l.length (fun q t => t 30 = vint (q : Int) ∧ t 9 = vint ((lastU l ((k + 1 : Nat) : Int) (fsF l k) q : Nat) : Int)) ?_ ?_
      · exact ⟨vv, vv⟩
      rintro q t' hq ⟨h30, h9⟩
      by_cases hql : q < l.length
      · have g1 := ints_at hql
        have c2 : (q : Int) < (l.length : Int) := by omega
        have w2 := w_add1 (k := q) (by omega)
        have lu : lastU l ((k + 1 : Nat) : Int) (fsF l k) (q + 1) = if l.getD q 0 = ((k + 1 : Nat) : Int) then q else lastU l ((k + 1 : Nat) : Int) (fsF l k) q := by rw [lastU]
        replace lu := Hid.mk lu
        repeat' (with_reducible first | refine x_ops ?_ | refine wk ?_ | ((first | refine gd1 ?_ ?_ | refine gd2 ?_ ?_ | refine gd3 ?_ ?_) <;> (first | exact @False.elim _ | intro hc)))
        · refine nf (by omega) ⟨vv, ?_⟩ rfl
          rw [lu.out, if_pos (eq_of_beq hc)]
          exact vv
        · refine nf (by omega) ⟨vv, ?_⟩ rfl
          rw [lu.out, if_neg (by simpa using hc)]
          exact vw
      have hq2 : q = l.length := by omega
      subst hq2
      have c2 : ¬ (l.length : Int) < (l.length : Int) := by omega
      obtain ⟨o1, o2, o3⟩ := lsF_ok hfs
      have els : lastU l ((k + 1 : Nat) : Int) (fsF l k) l.length = lsF l k := rfl
      rw [els] at h9
      clear els hql hq o3
      have hsp : Hid (∀ P : Prop, (spF h c l k → P) → (¬ spF h c l k → P) → P) := ⟨fun P h1 h2 => by by_cases hx : spF h c l k; exact h1 hx; exact h2 hx⟩
      have done : Hid (spF h c l k → ∀ f, f < k + 1 → spF h c l f) := ⟨fun hs f hf => by
        by_cases e : f = k
        · subst e; exact hs
        · exact hI f (by omega)⟩
      by_cases hab : fsF l k = lsF l k
      · have e1 : ((fsF l k : Int) == (lsF l k : Int)) = true := by rw [hab]; simp
        have hs : spF h c l k := fun _ hne => absurd hab hne
        replace hs := Hid.mk hs
        clear hab
        repeat' (with_reducible first | refine x_ops ?_ | refine wk ?_ | ((first | refine gd1 ?_ ?_ | refine gd2 ?_ ?_ | refine gd3 ?_ ?_) <;> (first | exact @False.elim _ | intro hc)))
        exact nx (by omega) ⟨vv, hm0, hm1, hn, done.out hs.out⟩
      have e1 : ((fsF l k : Int) == (lsF l k : Int)) = false := by simp; omega
      have hbar : k < h.barre.length := by rw [hk.nb]; exact hlt
      have gb := bools_at hbar
      have cb : (k : Int) < (h.barre.length : Int) := by omega
      have a1 : fsF l k < c.down.length := by rw [← hl.out]; exact hfs
      have b1 : lsF l k < c.down.length := by rw [← hl.out]; exact o2
      have ga0 := pls_at0 a1
      have ga1 := pls_at1 a1
      have gb0 := pls_at0 b1
      have gb1 := pls_at1 b1
      have g2 := pls_len c.down
      have ca : ((fsF l k : Nat) : Int) < (c.down.length : Int) := by omega
      have cb2 : ((lsF l k : Nat) : Int) < (c.down.length : Int) := by omega
      have w3 : IntKind.i64.wrap (((k + 1 : Nat) : Int) - 1) = (k : Int) := by rw [w_in (by omega)]; omega
      have hspF : Hid (spF h c l k ↔ (h.barre.getD k false = true ∧ (c.down.getD (fsF l k) (0, 0)).2 = (c.down.getD (lsF l k) (0, 0)).2 ∧
          (∀ i, i < c.opn.length → ¬ ((c.down.getD (fsF l k) (0, 0)).1 < c.opn.getD i 0 ∧ c.opn.getD i 0 < (c.down.getD (lsF l k) (0, 0)).1)) ∧
          ∀ j, fsF l k ≤ j → j < lsF l k → ¬ (c.down.getD j (0, 0)).2 < (c.down.getD (fsF l k) (0, 0)).2)) := ⟨⟨fun hs => hs hfs hab, fun hs _ _ => hs⟩⟩
      have C1 := containsI_fn c.opn (fun x => decide ((c.down.getD (fsF l k) (0, 0)).1 < x) && decide (x < (c.down.getD (lsF l k) (0, 0)).1)) call_spans1 (cs := [.ept [vint (c.down.getD (fsF l k) (0, 0)).1] 0, .ept [vint (c.down.getD (lsF l k) (0, 0)).1] 0]) rfl rfl (spans1_fn _ _) hf.big.2.2
      have C2 := containsP_fn ((c.down.drop (fsF l k)).take (lsF l k - fsF l k)) (fun x => decide (x.2 < (c.down.getD (fsF l k) (0, 0)).2)) call_spans2 (cs := [.ept [vint (c.down.getD (fsF l k) (0, 0)).2] 0]) rfl rfl (spans2_fn _) (by rw [List.length_take, List.length_drop]; omega)
      have et : tPs ((c.down.drop (fsF l k)).take (lsF l k - fsF l k)) = .sl (lsF l k - fsF l k) (((c.down.flatMap plE).drop (fsF l k * 2)).take ((lsF l k - fsF l k) * 2)) .no := by
        rw [tPs, flat_drop_n plE_len, flat_take_n plE_len]
        congr 1
        rw [List.length_take, List.length_drop]; omega
      have elen : ((c.down.drop (fsF l k)).take (lsF l k - fsF l k)).length = lsF l k - fsF l k := by rw [List.length_take, List.length_drop]; omega
      rw [et, elen] at C2
      have cl1 : ((fsF l k : Nat) : Int) ≤ ((lsF l k : Nat) : Int) := by omega
      have cl2 : ((lsF l k : Nat) : Int) ≤ (c.down.length : Int) := by omega
      replace et := Hid.mk et
      replace elen := Hid.mk elen
      generalize hp1 : (fun x : Int => decide ((c.down.getD (fsF l k) (0, 0)).1 < x) && decide (x < (c.down.getD (lsF l k) (0, 0)).1)) = p1 at C1
      generalize hp2 : (fun x : Int × Int => decide (x.2 < (c.down.getD (fsF l k) (0, 0)).2)) = p2 at C2
      replace hp1 := Hid.mk hp1
      replace hp2 := Hid.mk hp2
      generalize hr1 : decide (gI p1 c.opn < c.opn.length) = r1 at C1
      generalize hr2 : decide (gI p2 ((c.down.drop (fsF l k)).take (lsF l k - fsF l k)) < lsF l k - fsF l k) = r2 at C2
      replace hr1 := Hid.mk hr1
      replace hr2 := Hid.mk hr2
      clear hab hfs
      have bad : Hid (¬ spF h c l k → Value.bool false = Value.bool (spnB h c l)) := ⟨fun hs => spn_bad fun hS => hs (hS k hlt)⟩
      repeat' (with_reducible first | refine x_ops ?_ | refine wk ?_ | ((first | refine gd1 ?_ ?_ | refine gd2 ?_ ?_ | refine gd3 ?_ ?_) <;> (first | exact @False.elim _ | intro hc)))
      · refine finV_lit vv (bad.out fun hs => ?_)
        have h1 := (hspF.out.1 hs).2.1
        rw [h1] at hc
        simp at hc
      · refine x_lend allS C1 rfl ?_ ?_
        · (simp only [go_sem, Nat.reduceAdd, Nat.reduceEqDiff, Nat.reduceLT, Nat.reduceLeDiff, Nat.reduceMul, Nat.reduceSub, Nat.reducePow, Nat.reduceDiv, Nat.reduceMod, Nat.reduceBEq, Int.reduceBEq, Int.reduceLT, reduceIte, V.norms, V.norm, tIs, tBs, tPs, *])
          exact .cons (.sl _ _ _) (.cons (.fn (.cons (.ptr rfl vw (.cons (.lit _) .nil) rfl) (.cons (.ptr rfl vw (.cons (.lit _) .nil) rfl) .nil))) .nil)
        cases r1
        · repeat' (with_reducible first | refine x_ops ?_ | simp only [go_sem, Nat.reduceAdd, Nat.reduceEqDiff, Nat.reduceLT, Nat.reduceLeDiff, Nat.reduceMul, Nat.reduceSub, Nat.reducePow, Nat.reduceDiv, Nat.reduceMod, Nat.reduceBEq, Int.reduceBEq, Int.reduceLT, reduceIte, tIs, tBs, tPs, vslc, bnds, *] | ((first | refine gd1 ?_ ?_ | refine gd2 ?_ ?_ | refine gd3 ?_ ?_) <;> (first | exact @False.elim _ | intro hc)))
          refine x_lend allS C2 rfl ?_ ?_
          · (simp only [go_sem, Nat.reduceAdd, Nat.reduceEqDiff, Nat.reduceLT, Nat.reduceLeDiff, Nat.reduceMul, Nat.reduceSub, Nat.reducePow, Nat.reduceDiv, Nat.reduceMod, Nat.reduceBEq, Int.reduceBEq, Int.reduceLT, reduceIte, V.norms, V.norm, tIs, tBs, tPs, *])
            exact .cons (.sl _ _ _) (.cons (.fn (.cons (.ptr rfl vw (.cons (.lit _) .nil) rfl) .nil)) .nil)
          cases r2
          · repeat' (with_reducible first | refine x_ops ?_ | refine wk ?_ | ((first | refine gd1 ?_ ?_ | refine gd2 ?_ ?_ | refine gd3 ?_ ?_) <;> (first | exact @False.elim _ | intro hc)))
            have hs : spF h c l k := hspF.out.2 (by
              refine ⟨by assumption, by rename_i hc; first | exact eq_of_beq hc | (have := eq_of_beq (by assumption : ((c.down.getD (fsF l k) (0, 0)).2 == (c.down.getD (lsF l k) (0, 0)).2) = true); exact this), fun i hi hcc => ?_, fun j h1 h2 hcc => ?_⟩
              · have h3 := of_decide_eq_false hr1.out
                exact h3 ((gI_lt 0).2 ⟨i, hi, by rw [← hp1.out]; show (decide _ && decide _) = true; rw [decide_eq_true hcc.1, decide_eq_true hcc.2]; rfl⟩)
              · have h3 := of_decide_eq_false hr2.out
                have h4 := (gI_lt (p := p2) (0, 0) (l := (c.down.drop (fsF l k)).take (lsF l k - fsF l k))).2 ⟨j - fsF l k, by rw [elen.out]; omega, by
                  rw [← hp2.out, decide_eq_true_eq, List.getD_eq_getElem?_getD, List.getElem?_take, if_pos (by omega), List.getElem?_drop, show fsF l k + (j - fsF l k) = j by omega, ← List.getD_eq_getElem?_getD]
                  exact hcc⟩
                rw [elen.out] at h4
                exact h3 h4)
            replace hs := Hid.mk hs
            have n1 : ¬ 0 = m.next + 24 := by omega
            exact nx (by omega) ⟨vv, by exact vw, by exact vw, by ((refine ve ?_; try exact True.intro)); omega, done.out hs.out⟩
          · repeat' (with_reducible first | refine x_ops ?_ | refine wk ?_ | ((first | refine gd1 ?_ ?_ | refine gd2 ?_ ?_ | refine gd3 ?_ ?_) <;> (first | exact @False.elim _ | intro hc)))
            refine finV_lit vv (bad.out fun hs => ?_)
            have h1 : gI p2 ((c.down.drop (fsF l k)).take (lsF l k - fsF l k)) < ((c.down.drop (fsF l k)).take (lsF l k - fsF l k)).length := by rw [elen.out]; exact of_decide_eq_true hr2.out
            obtain ⟨i, h2, h3⟩ := (gI_lt (0, 0)).1 h1
            rw [elen.out] at h2
            rw [← hp2.out, decide_eq_true_eq, List.getD_eq_getElem?_getD, List.getElem?_take, if_pos h2, List.getElem?_drop, ← List.getD_eq_getElem?_getD] at h3
            exact (hspF.out.1 hs).2.2.2 _ (Nat.le_add_right _ _) (by omega) h3
        · repeat' (with_reducible first | refine x_ops ?_ | refine wk ?_ | ((first | refine gd1 ?_ ?_ | refine gd2 ?_ ?_ | refine gd3 ?_ ?_) <;> (first | exact @False.elim _ | intro hc)))
          refine finV_lit vv (bad.out fun hs => ?_)
          have h1 := of_decide_eq_true hr1.out
          obtain ⟨i, h2, h3⟩ := (gI_lt 0).1 h1
          rw [← hp1.out, Bool.and_eq_true, decide_eq_true_eq, decide_eq_true_eq] at h3
          exact (hspF.out.1 hs).2.2.1 i h2 h3
      · exact finV_lit vv (bad.out fun hs => by rw [(hspF.out.1 hs).1] at hc; cases hc)
    · rw [if_neg hfs] at I1
      have d1 : (-1 : Int) < 0 := by omega
      have hs : spF h c l k := fun hx _ => absurd hx hfs
      replace hs := Hid.mk hs
      clear hfs
      repeat' (with_reducible first | refine x_ops ?_ | refine wk ?_ | (with_reducible refine xc (I1) ?_) | ((first | refine gd1 ?_ ?_ | refine gd2 ?_ ?_ | refine gd3 ?_ ?_) <;> (first | exact @False.elim _ | intro hc)))
      refine nx (by omega) ⟨vv, hm0, hm1, hn, fun f hf => ?_⟩
      by_cases e : f = k
      · subst e; exact hs.out
      · exact hI f (by omega)
  · have c1 : ¬ ((k + 1 : Nat) : Int) ≤ (h.low.length : Int) := by omega
    repeat' (with_reducible first | refine x_ops ?_ | refine wk ?_ | ((first | refine gd1 ?_ ?_ | refine gd2 ?_ ?_ | refine gd3 ?_ ?_) <;> (first | exact @False.elim _ | intro hc)))
    exact finV_lit vv (spn_good fun f hf => hI f (by omega))
end Go.Proofs.Ytojjdkoglhecbaa
namespace Go.Proofs.Ytojjdkoglhecbaa
open Go.RowKit
set_option linter.unusedSimpArgs false
set_option linter.unusedVariables false

structure Grip where
  pos : Int
  fingers : List Int
def Grip.cells (g : Grip) : List V := [vint g.pos, tIs g.fingers]
def Grip.val (g : Grip) : V := .agg g.cells
theorem pure_grip (g : Grip) : g.val.pure = true := by
  rw [Grip.val, V.pure, Grip.cells]
  simp only [V.pures, pure_tIs, vint, V.pure, Bool.and_self]
/-- A grip that fits a chord. -/
structure FitG (h : Hand) (c : Chord) (g : Grip) : Prop where
  pos : 1 ≤ g.pos ∧ g.pos ≤ h.top
  len : g.fingers.length = c.down.length
  fin : ∀ i, i < c.down.length → 1 ≤ g.fingers.getD i 0 ∧ g.fingers.getD i 0 ≤ h.low.length
  rch : ∀ i, i < c.down.length → rchB h g.pos (g.fingers.getD i 0 - 1).toNat (c.down.getD i (0, 0)).2 = true
  agr : ∀ i, i < c.down.length → ∀ k, k < i → agrB (c.down.getD k (0, 0)) (c.down.getD i (0, 0)) (g.fingers.getD k 0) (g.fingers.getD i 0) = true
  spn : Spans h c g.fingers
noncomputable def fitB (h : Hand) (c : Chord) (g : Grip) : Bool := @decide (FitG h c g) (Classical.propDecidable _)
theorem fit_bad {h : Hand} {c : Chord} {g : Grip} (hn : ¬ FitG h c g) : Value.bool false = Value.bool (fitB h c g) := by unfold fitB; simp [hn]
theorem fit_true {h : Hand} {c : Chord} {g : Grip} : fitB h c g = true ↔ FitG h c g := by unfold fitB; simp

set_option maxHeartbeats 2000000 in
theorem fits_fn (h : Hand) (hk : HandOk h) (c : Chord) (hf : FitC c) (g : Grip) (hg : g.fingers.length ≤ 17592186044416) : Fn Try.prog Gd 78 [h.val, c.val, g.val] (vbool (fitB h c g)) := by
  refine Fn.of_vx0 k_hand_fits (by simp) (by rw [V.pures, pure_hand, V.pures, pure_chord, V.pures, pure_grip]; rfl) ?_
  have hb1 := hf.1
  have n4 := hk.n4
  have ht := hk.top
  have S1 := fun hl => spans_fn h hk c hf g.fingers hl
  have R1 := fun f fret hp hf => reach_fn h hk g.pos f fret hp hf
  unfold Hand.val Chord.val Chord.cells at S1
  unfold Hand.val at R1
  unfold c_hand_fits Hand.val Chord.val Chord.cells Grip.val Grip.cells
  cases d0 : (decide (1 ≤ g.pos) && decide (g.pos ≤ h.top))
  · repeat' (with_reducible first | refine x_ops ?_ | refine wk ?_ | (with_reducible refine xc (within_fn _ _ _) ?_) | ((first | refine gd1 ?_ ?_ | refine gd2 ?_ ?_ | refine gd3 ?_ ?_) <;> (first | exact @False.elim _ | intro hc)))
    refine finV_lit vv (fit_bad fun hs => ?_)
    rw [decide_eq_true hs.pos.1, decide_eq_true hs.pos.2] at d0
    cases d0
  by_cases hlen : g.fingers.length = c.down.length
  case neg =>
    have e1 : ((g.fingers.length : Int) == (c.down.length : Int)) = false := by simp; omega
    repeat' (with_reducible first | refine x_ops ?_ | refine wk ?_ | (with_reducible refine xc (within_fn _ _ _) ?_) | ((first | refine gd1 ?_ ?_ | refine gd2 ?_ ?_ | refine gd3 ?_ ?_) <;> (first | exact @False.elim _ | intro hc)))
    exact finV_lit vv (fit_bad fun hs => hlen hs.len)
  have e1 : ((g.fingers.length : Int) == (c.down.length : Int)) = true := by rw [hlen]; simp
  have S2 := S1 hlen
  replace hlen := Hid.mk hlen
  clear S1
  repeat' (with_reducible first | refine x_ops ?_ | refine wk ?_ | (with_reducible refine xc (within_fn _ _ _) ?_) | ((first | refine gd1 ?_ ?_ | refine gd2 ?_ ?_ | refine gd3 ?_ ?_) <;> (first | exact @False.elim _ | intro hc)))
  have hpos : 1 ≤ g.pos ∧ g.pos ≤ h.top := by simpa only [Bool.and_eq_true, decide_eq_true_eq] using d0
  replace R1 := fun f fret hf => R1 f fret (by omega) hf
  replace hpos := Hid.mk hpos
  clear d0 e1
  let N := c.down.length
  refine x_loopF w_hand_fits_p13 (by kernel_rfl) c.down.length (fun k t => t 28 = vint (k : Int) ∧ ∀ i, i < k → (1 ≤ g.fingers.getD i 0 ∧ g.fingers.getD i 0 ≤ h.low.length) ∧ rchB h g.pos (g.fingers.getD i 0 - 1).toNat (c.down.getD i (0, 0)).2 = true ∧
    ∀ k, k < i → agrB (c.down.getD k (0, 0)) (c.down.getD i (0, 0)) (g.fingers.getD k 0) (g.fingers.getD i 0) = true) ?_ ?_
  · exact ⟨vv, fun i h => by omega⟩
  rintro i t hi ⟨h28, hI⟩
  by_cases hlt : i < c.down.length
  · have hli : i < g.fingers.length := by rw [hlen.out]; exact hlt
    have g1 := ints_at hli
    have c2 : (i : Int) < (g.fingers.length : Int) := by omega
    have c3 : (i : Int) < (c.down.length : Int) := by omega
    have g2 := pls_len c.down
    have g3 := pls_at1 hlt
    have w2 := w_add1 (k := i) (by omega)
    have bad : Hid (∀ P : Prop, (FitG h c g → P) → ¬ P → Value.bool false = Value.bool (fitB h c g)) := ⟨fun P h1 h2 => fit_bad fun hs => h2 (h1 hs)⟩
    cases d1 : (decide (1 ≤ g.fingers.getD i 0) && decide (g.fingers.getD i 0 ≤ (h.low.length : Int)))
    · repeat' (with_reducible first | refine x_ops ?_ | refine wk ?_ | (with_reducible refine xc (within_fn _ _ _) ?_) | ((first | refine gd1 ?_ ?_ | refine gd2 ?_ ?_ | refine gd3 ?_ ?_) <;> (first | exact @False.elim _ | intro hc)))
      refine finV_lit vv (fit_bad fun hs => ?_)
      rw [decide_eq_true (hs.fin i hlt).1, decide_eq_true (hs.fin i hlt).2] at d1
      cases d1
    have hfi : 1 ≤ g.fingers.getD i 0 ∧ g.fingers.getD i 0 ≤ h.low.length := by simpa only [Bool.and_eq_true, decide_eq_true_eq] using d1
    have R2 := R1 (g.fingers.getD i 0 - 1).toNat (c.down.getD i (0, 0)).2 (by omega)
    rw [show (((g.fingers.getD i 0 - 1).toNat + 1 : Nat) : Int) = g.fingers.getD i 0 by omega] at R2
    replace hfi := Hid.mk hfi
    cases d2 : rchB h g.pos (g.fingers.getD i 0 - 1).toNat (c.down.getD i (0, 0)).2
    · rw [d2] at R2
      repeat' (with_reducible first | refine x_ops ?_ | refine wk ?_ | (with_reducible refine xc (within_fn _ _ _) ?_) | (with_reducible refine xc (R2) ?_) | ((first | refine gd1 ?_ ?_ | refine gd2 ?_ ?_ | refine gd3 ?_ ?_) <;> (first | exact @False.elim _ | intro hc)))
      exact finV_lit vv (fit_bad fun hs => by rw [hs.rch i hlt] at d2; cases d2)
    rw [d2] at R2
    clear R1
    repeat' (with_reducible first | refine x_ops ?_ | refine wk ?_ | (with_reducible refine xc (within_fn _ _ _) ?_) | (with_reducible refine xc (R2) ?_) | ((first | refine gd1 ?_ ?_ | refine gd2 ?_ ?_ | refine gd3 ?_ ?_) <;> (first | exact @False.elim _ | intro hc)))
    refine x_loopF w_hand_fits_p7 (by kernel_rfl) i (fun k t => t 54 = vint (k : Int) ∧ ∀ j, j < k → agrB (c.down.getD j (0, 0)) (c.down.getD i (0, 0)) (g.fingers.getD j 0) (g.fingers.getD i 0) = true) ?_ ?_
    · exact ⟨vv, fun i h => by omega⟩
    rintro q t' hq ⟨h54, hJ⟩
    by_cases hql : q < i
    · have g4 := ints_at (l := g.fingers) (k := q) (by omega)
      have g5 := pls_take (l := c.down) (k := q) (by omega)
      have g6 := pls_take hlt
      have c4 : (q : Int) < (i : Int) := by omega
      have c5 : (q : Int) < (c.down.length : Int) := by omega
      have c6 : (q : Int) < (g.fingers.length : Int) := by omega
      have c7 : q * 2 + 2 ≤ c.down.length * 2 := by omega
      have c8 : i * 2 + 2 ≤ c.down.length * 2 := by omega
      have w3 := w_add1 (k := q) (by omega)
      have A1 := agree_fn (c.down.getD q (0, 0)) (c.down.getD i (0, 0)) (g.fingers.getD q 0) (g.fingers.getD i 0)
      unfold plE at A1
      cases d3 : agrB (c.down.getD q (0, 0)) (c.down.getD i (0, 0)) (g.fingers.getD q 0) (g.fingers.getD i 0)
      · rw [d3] at A1
        repeat' (with_reducible first | refine x_ops ?_ | refine wk ?_ | (with_reducible refine xc (A1) ?_) | ((first | refine gd1 ?_ ?_ | refine gd2 ?_ ?_ | refine gd3 ?_ ?_) <;> (first | exact @False.elim _ | intro hc)))
        exact finV_lit vv (fit_bad fun hs => by rw [hs.agr i hlt q hql] at d3; cases d3)
      · rw [d3] at A1
        repeat' (with_reducible first | refine x_ops ?_ | refine wk ?_ | (with_reducible refine xc (A1) ?_) | ((first | refine gd1 ?_ ?_ | refine gd2 ?_ ?_ | refine gd3 ?_ ?_) <;> (first | exact @False.elim _ | intro hc)))
        refine nf (by omega) ⟨vv, fun j h => ?_⟩ rfl
        by_cases e : j = q
        · subst e; exact d3
        · exact hJ j (by omega)
    · have c4 : ¬ (q : Int) < (i : Int) := by omega
      repeat' (with_reducible first | refine x_ops ?_ | refine wk ?_ | ((first | refine gd1 ?_ ?_ | refine gd2 ?_ ?_ | refine gd3 ?_ ?_) <;> (first | exact @False.elim _ | intro hc)))
      refine nf (by omega) ⟨vv, fun j h => ?_⟩ rfl
      by_cases e : j = i
      · subst e; exact ⟨hfi.out, d2, fun k hk => hJ k (by omega)⟩
      · exact hI j (by omega)
  · have c2 : ¬ (i : Int) < (g.fingers.length : Int) := by rw [hlen.out]; omega
    cases d4 : spnB h c g.fingers
    · rw [d4] at S2
      repeat' (with_reducible first | refine x_ops ?_ | refine wk ?_ | (with_reducible refine xc (S2) ?_) | ((first | refine gd1 ?_ ?_ | refine gd2 ?_ ?_ | refine gd3 ?_ ?_) <;> (first | exact @False.elim _ | intro hc)))
      exact finV_lit vv (fit_bad fun hs => by rw [spn_true.2 hs.spn] at d4; cases d4)
    · rw [d4] at S2
      repeat' (with_reducible first | refine x_ops ?_ | refine wk ?_ | (with_reducible refine xc (S2) ?_) | ((first | refine gd1 ?_ ?_ | refine gd2 ?_ ?_ | refine gd3 ?_ ?_) <;> (first | exact @False.elim _ | intro hc)))
      refine finV_lit vv ?_
      have : FitG h c g := ⟨hpos.out, hlen.out, fun j hj => (hI j (by omega)).1, fun j hj => (hI j (by omega)).2.1, fun j hj => (hI j (by omega)).2.2, spn_true.1 d4⟩
      rw [fit_true.2 this]
end Go.Proofs.Ytojjdkoglhecbaa
namespace Go.Proofs.Ytojjdkoglhecbaa
open Go.RowKit
set_option linter.unusedSimpArgs false
set_option linter.unusedVariables false

def rrchB (h : Hand) (pos v fret : Int) : Bool := (decide (1 ≤ v) && decide (v ≤ (h.low.length : Int))) && rchB h pos (v - 1).toNat fret
set_option maxHeartbeats 1000000 in
theorem rreach_fn (h : Hand) (hk : HandOk h) (pos v fret : Int) (hp : -100 ≤ pos ∧ pos ≤ 100) (hf : -100 ≤ fret ∧ fret ≤ 100) :
    Fn Try.prog Gd 115 [h.val, vint pos, vint v, vint fret] (vbool (rrchB h pos v fret)) := by
  refine Fn.of_vx0 k_theorboref06_reach (by simp) (by rw [V.pures, pure_hand]; rfl) ?_
  unfold c_theorboref06_reach Hand.val rrchB
  by_cases hv : 1 ≤ v ∧ v ≤ h.low.length
  · obtain ⟨f, rfl⟩ : ∃ f : Nat, v = ((f + 1 : Nat) : Int) := ⟨(v - 1).toNat, by omega⟩
    have hfl : f < h.low.length := by omega
    have he := hk.each f hfl
    have hh := hk.nh
    have h4 := hk.n4
    have g1 := ints_at hfl
    have g2 := ints_at (l := h.high) (k := f) (by omega)
    have c1 : (f : Int) < (h.low.length : Int) := by omega
    have c2 : (f : Int) < (h.high.length : Int) := by omega
    have c3 : (1 : Int) ≤ ((f + 1 : Nat) : Int) := by omega
    have c4 : ((f + 1 : Nat) : Int) ≤ (h.low.length : Int) := by omega
    have w1 : IntKind.i64.wrap (((f + 1 : Nat) : Int) - 1) = (f : Int) := by rw [w_in (by omega)]; omega
    have w2 : IntKind.i64.wrap (fret - pos) = fret - pos := w_in (by omega)
    have et : (((f + 1 : Nat) : Int) - 1).toNat = f := by omega
    rw [et, rchB]
    clear hh he hp hf h4 hv et
    repeat' (with_reducible first | refine x_ops ?_ | refine wk ?_ | ((first | refine gd1 ?_ ?_ | refine gd2 ?_ ?_ | refine gd3 ?_ ?_) <;> (first | exact @False.elim _ | intro hc)))
    all_goals refine finV_lit vv ?_
    · congr 1
      rw [show decide (pos + h.low.getD f 0 ≤ fret) = true by rw [decide_eq_true_eq]; omega]
      simp only [Bool.true_and]
      congr 1
      rw [eq_iff_iff]; omega
    · congr 1
      rw [show decide (pos + h.low.getD f 0 ≤ fret) = false by rw [decide_eq_false_iff_not]; omega]
      rfl
  · have e : (decide (1 ≤ v) && decide (v ≤ (h.low.length : Int))) = false := by simp; omega
    rw [e]
    by_cases c1 : 1 ≤ v
    · have c2 : ¬ v ≤ (h.low.length : Int) := by omega
      clear hv
      repeat' (with_reducible first | refine x_ops ?_ | refine wk ?_ | ((first | refine gd1 ?_ ?_ | refine gd2 ?_ ?_ | refine gd3 ?_ ?_) <;> (first | exact @False.elim _ | intro hc)))
      exact finV_lit vv rfl
    · clear hv
      repeat' (with_reducible first | refine x_ops ?_ | refine wk ?_ | ((first | refine gd1 ?_ ?_ | refine gd2 ?_ ?_ | refine gd3 ?_ ?_) <;> (first | exact @False.elim _ | intro hc)))
      exact finV_lit vv rfl

/-- Two places, i before k, have fingers as the rules want them. -/
def AptP (h : Hand) (c : Chord) (i k : Nat) (f g : Int) : Prop :=
  ((c.down.getD i (0, 0)).2 < (c.down.getD k (0, 0)).2 → f < g) ∧ ((c.down.getD k (0, 0)).2 < (c.down.getD i (0, 0)).2 → g < f) ∧
  ((c.down.getD i (0, 0)).2 = (c.down.getD k (0, 0)).2 → (f ≠ g → g < f) ∧ (f = g → h.barre.getD (f - 1).toNat false = true ∧
    (∀ o, o < c.opn.length → ¬ ((c.down.getD i (0, 0)).1 < c.opn.getD o 0 ∧ c.opn.getD o 0 < (c.down.getD k (0, 0)).1)) ∧
    ∀ j, i ≤ j → j < k → ¬ (c.down.getD j (0, 0)).2 < (c.down.getD i (0, 0)).2))
noncomputable def aptB (h : Hand) (c : Chord) (i k : Nat) (f g : Int) : Bool := @decide (AptP h c i k f g) (Classical.propDecidable _)
theorem apt_true {h : Hand} {c : Chord} {i k : Nat} {f g : Int} : aptB h c i k f g = true ↔ AptP h c i k f g := by unfold aptB; simp
theorem apt_is {h : Hand} {c : Chord} {i k : Nat} {f g : Int} {b : Bool} (hb : b = true ↔ AptP h c i k f g) : Value.bool b = Value.bool (aptB h c i k f g) := by
  congr 1
  cases e : aptB h c i k f g
  · cases b
    · rfl
    · rw [apt_true.2 (hb.1 rfl)] at e; cases e
  · exact hb.2 (apt_true.1 e)

set_option maxHeartbeats 2000000 in
theorem rapart_fn (h : Hand) (hk : HandOk h) (c : Chord) (hf : FitC c) (i k : Nat) (hik : i < k) (hkl : k < c.down.length) (f g : Int) (hv : 1 ≤ f ∧ f ≤ h.low.length) :
    Fn Try.prog Gd 116 [h.val, c.val, vint (i : Int), vint (k : Int), vint f, vint g] (vbool (aptB h c i k f g)) := by
  refine Fn.of_vx0 k_theorboref06_apart (by simp) (by rw [V.pures, pure_hand, V.pures, pure_chord]; rfl) ?_
  have hb1 := hf.1
  have n4 := hk.n4
  have hb := hk.nb
  obtain ⟨f', rfl⟩ : ∃ q : Nat, f = ((q + 1 : Nat) : Int) := ⟨(f - 1).toNat, by omega⟩
  have hil : i < c.down.length := by omega
  have a1 := pls_take hil
  have a2 := pls_take hkl
  have g2 := pls_len c.down
  have c1 : (i : Int) < (c.down.length : Int) := by omega
  have c2 : (k : Int) < (c.down.length : Int) := by omega
  have c3 : i * 2 + 2 ≤ c.down.length * 2 := by omega
  have c4 : k * 2 + 2 ≤ c.down.length * 2 := by omega
  have gb := bools_at (l := h.barre) (k := f') (by omega)
  have cb : (f' : Int) < (h.barre.length : Int) := by omega
  have w1 : IntKind.i64.wrap (((f' + 1 : Nat) : Int) - 1) = (f' : Int) := by rw [w_in (by omega)]; omega
  have et : (((f' + 1 : Nat) : Int) - 1).toNat = f' := by omega
  have isA : Hid (∀ b : Bool, (b = true ↔ AptP h c i k ((f' + 1 : Nat) : Int) g) → Value.bool b = Value.bool (aptB h c i k ((f' + 1 : Nat) : Int) g)) := ⟨fun b hb => apt_is hb⟩
  unfold AptP at isA
  rw [et] at isA
  clear hb hv et
  generalize hpi : c.down.getD i (0, 0) = pi at *
  generalize hpk : c.down.getD k (0, 0) = pk at *
  replace hpi := Hid.mk hpi
  replace hpk := Hid.mk hpk
  replace hik := Hid.mk hik
  generalize hfin : aptB h c i k ((f' + 1 : Nat) : Int) g = R at *
  replace hfin := Hid.mk hfin
  unfold c_theorboref06_apart Hand.val Chord.val Chord.cells
  by_cases l1 : pi.2 < pk.2
  · repeat' (with_reducible first | refine x_ops ?_ | refine wk ?_ | ((first | refine gd1 ?_ ?_ | refine gd2 ?_ ?_ | refine gd3 ?_ ?_) <;> (first | exact @False.elim _ | intro hc)))
    refine finV_lit vv (isA.out _ ?_)
    rw [decide_eq_true_eq]
    exact ⟨fun h => ⟨fun _ => h, fun h' => by omega, fun h' => by omega⟩, fun h => h.1 l1⟩
  by_cases l2 : pk.2 < pi.2
  · repeat' (with_reducible first | refine x_ops ?_ | refine wk ?_ | ((first | refine gd1 ?_ ?_ | refine gd2 ?_ ?_ | refine gd3 ?_ ?_) <;> (first | exact @False.elim _ | intro hc)))
    refine finV_lit vv (isA.out _ ?_)
    rw [decide_eq_true_eq]
    exact ⟨fun h => ⟨fun h' => by omega, fun _ => h, fun h' => by omega⟩, fun h => h.2.1 l2⟩
  by_cases l3 : ((f' + 1 : Nat) : Int) = g
  case neg =>
    have e1 : (((f' + 1 : Nat) : Int) == g) = false := by simpa using l3
    repeat' (with_reducible first | refine x_ops ?_ | refine wk ?_ | ((first | refine gd1 ?_ ?_ | refine gd2 ?_ ?_ | refine gd3 ?_ ?_) <;> (first | exact @False.elim _ | intro hc)))
    refine finV_lit vv (isA.out _ ?_)
    rw [decide_eq_true_eq]
    exact ⟨fun h => ⟨fun h' => by omega, fun h' => by omega, fun _ => ⟨fun _ => h, fun h' => absurd h' l3⟩⟩, fun h => (h.2.2 (by omega)).1 l3⟩
  have e1 : (((f' + 1 : Nat) : Int) == g) = true := by simpa using l3
  have leq : pi.2 = pk.2 := by omega
  have isB : Hid (∀ b : Bool, (b = true ↔ (h.barre.getD f' false = true ∧ (∀ o, o < c.opn.length → ¬ (pi.1 < c.opn.getD o 0 ∧ c.opn.getD o 0 < pk.1)) ∧ ∀ j, i ≤ j → j < k → ¬ (c.down.getD j (0, 0)).2 < pi.2)) → Value.bool b = Value.bool R) :=
    ⟨fun b hb => isA.out b ⟨fun h => ⟨fun h' => absurd h' l1, fun h' => absurd h' l2, fun _ => ⟨fun h' => absurd l3 h', fun _ => hb.1 h⟩⟩, fun h => hb.2 ((h.2.2 leq).2 l3)⟩⟩
  clear isA l3 leq
  cases br : h.barre.getD f' false
  · repeat' (with_reducible first | refine x_ops ?_ | refine wk ?_ | ((first | refine gd1 ?_ ?_ | refine gd2 ?_ ?_ | refine gd3 ?_ ?_) <;> (first | exact @False.elim _ | intro hc)))
    refine finV_lit vv (isB.out _ ⟨fun h => (by cases h), fun h => by rw [br] at h; cases h.1⟩)
  repeat' (with_reducible first | refine x_ops ?_ | refine wk ?_ | ((first | refine gd1 ?_ ?_ | refine gd2 ?_ ?_ | refine gd3 ?_ ?_) <;> (first | exact @False.elim _ | intro hc)))
  refine x_loopF w_theorboref06_apart_p12 (by kernel_rfl) c.opn.length (fun q t => t 15 = vint (q : Int) ∧ ∀ o, o < q → ¬ (pi.1 < c.opn.getD o 0 ∧ c.opn.getD o 0 < pk.1)) ?_ ?_
  · exact ⟨vv, fun i h => by omega⟩
  rintro q t hq ⟨h15, hJ⟩
  by_cases hql : q < c.opn.length
  · have g4 := ints_at hql
    have c5 : (q : Int) < (c.opn.length : Int) := by omega
    have w3 := w_add1 (k := q) (by have := hf.2.2; omega)
    repeat' (with_reducible first | refine x_ops ?_ | refine wk ?_ | ((first | refine gd1 ?_ ?_ | refine gd2 ?_ ?_ | refine gd3 ?_ ?_) <;> (first | exact @False.elim _ | intro hc)))
    all_goals first
      | (refine nf (by omega) ⟨vv, fun j h => ?_⟩ rfl
         by_cases e : j = q
         · subst e; omega
         · exact hJ j (by omega))
      | (refine finV_lit vv (isB.out _ ⟨fun h => (by cases h), fun h => absurd ?_ (h.2.1 q hql)⟩)
         exact ⟨by omega, by omega⟩)
  have hJ := Hid.mk fun o (h : o < c.opn.length) => hJ o (by omega)
  have c5 : ¬ (q : Int) < (c.opn.length : Int) := by omega
  clear hql hq
  repeat' (with_reducible first | refine x_ops ?_ | refine wk ?_ | ((first | refine gd1 ?_ ?_ | refine gd2 ?_ ?_ | refine gd3 ?_ ?_) <;> (first | exact @False.elim _ | intro hc)))
  refine x_loopF w_theorboref06_apart_p17 (by kernel_rfl) (k - i) (fun q t => t 16 = vint ((i + q : Nat) : Int) ∧ ∀ j, i ≤ j → j < i + q → ¬ (c.down.getD j (0, 0)).2 < pi.2) ?_ ?_
  · exact ⟨vv, fun j h1 h2 => by omega⟩
  rintro p t' hp ⟨h16, hL⟩
  by_cases hpl : i + p < k
  · have g4 := pls_at1 (l := c.down) (k := i + p) (by omega)
    have c6 : ((i + p : Nat) : Int) < (c.down.length : Int) := by omega
    have c7 : ((i + p : Nat) : Int) < (k : Int) := by omega
    have w3 := w_add1 (k := i + p) (by omega)
    repeat' (with_reducible first | refine x_ops ?_ | refine wk ?_ | ((first | refine gd1 ?_ ?_ | refine gd2 ?_ ?_ | refine gd3 ?_ ?_) <;> (first | exact @False.elim _ | intro hc)))
    · refine finV_lit vv (isB.out _ ⟨fun h => (by cases h), fun h => absurd ?_ (h.2.2 (i + p) (by omega) hpl)⟩)
      omega
    · refine nf (by omega) ⟨vv, fun j h1 h2 => ?_⟩ rfl
      by_cases e : j = i + p
      · subst e; omega
      · exact hL j h1 (by omega)
  · have c7 : ¬ ((i + p : Nat) : Int) < (k : Int) := by omega
    repeat' (with_reducible first | refine x_ops ?_ | refine wk ?_ | ((first | refine gd1 ?_ ?_ | refine gd2 ?_ ?_ | refine gd3 ?_ ?_) <;> (first | exact @False.elim _ | intro hc)))
    exact finV_lit vv (isB.out _ ⟨fun _ => ⟨br, hJ.out, fun j h1 h2 => hL j h1 (by omega)⟩, fun _ => rfl⟩)
end Go.Proofs.Ytojjdkoglhecbaa
