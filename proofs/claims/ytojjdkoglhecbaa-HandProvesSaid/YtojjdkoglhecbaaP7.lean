/- Functions of the program, as code on values by numbers: printed by a program from the program that was given, and held against it here. -/
import Derived.Test.YtojjdkoglhecbaaG0
namespace Go.Proofs.Ytojjdkoglhecbaa
open Go.RowKit
set_option maxRecDepth 100000

abbrev c_theorbolaw06_rest_p1 : VC := (.seq (.ops 0 [oo 5 .mv [.t 0], oo 6 .mv [.t 1], oo 7 (.bin .rem) [.t 5, .t 6], oo 8 .mv [.t 1], oo 9 (.bin .add) [.t 7, .t 8], oo 10 .mv [.t 1], oo 11 (.bin .rem) [.t 9, .t 10], oo 4 .mv [.t 11]]) .ret)
def c_theorbolaw06_rest : VC := (.seq (.ops 0 [oo 4 .mv [kk 0]]) c_theorbolaw06_rest_p1)
theorem k_theorbolaw06_rest : Comp Try.prog nobx gtab 30 12 c_theorbolaw06_rest [.t 4] := ⟨⟨Try.f30, _, Try.func30, rfl, rfl, kr, kr⟩⟩
abbrev c_theorbolaw06_chosen_p1 : VC := (.seq (.ops 0 [oo 6 .mv [(.c (.sl 0 [] .exact))]]) .ret)
abbrev c_theorbolaw06_chosen_p2 : VC := (.ops 0 [oo 33 .mv [.t 2], oo 34 .mv [.t 8], oo 35 .mv [.t 2], oo 36 .len [.t 35], oo 37 (.bin .rem) [.t 34, .t 36], oo 38 (.ixA 1) [.t 33, .t 37], oo 39 .ld1 [.t 38], oo 11 .mv [.t 39]])
abbrev c_theorbolaw06_chosen_p3 : VC := (.ops 11 [oo 40 .mv [.t 7], oo 41 .mv [.t 9], oo 42 .mv [.t 11], oo 43 .mv [.t 9], oo 44 .len [.t 43], oo 45 (.call 30) [.t 42, .t 44], oo 46 (.ixA 2) [.t 41, .t 45], oo 47 (.ldA 2) [.t 46], ⟨(some 48), none, (.mksl 1 2 [li 0, (.sl 0 [] .exact)] [(0, 2)]), [.t 47], none⟩, oo 49 (.app 53 2 32) [.t 40, .t 48], oo 7 .mv [.t 49]])
abbrev c_theorbolaw06_chosen_p4 : VC := (.seq (.seq (.ops 0 [oo 30 .mv [.t 2], oo 31 .len [.t 30], oo 32 (.bin .gtr) [.t 31, kk 0]]) (.cond (.t 32) c_theorbolaw06_chosen_p2 .skip)) c_theorbolaw06_chosen_p3)
abbrev c_theorbolaw06_chosen_p5 : VC := (.seq (.ops 0 [oo 11 .mv [kk 0]]) c_theorbolaw06_chosen_p4)
abbrev c_theorbolaw06_chosen_p6 : VC := (.seq (.seq (.ops 0 [oo 27 .mv [.t 9], oo 28 .len [.t 27], oo 29 (.bin .eql) [.t 28, kk 0]]) (.cond (.t 29) c_theorbolaw06_chosen_p1 .skip)) c_theorbolaw06_chosen_p5)
abbrev c_theorbolaw06_chosen_p7 : VC := (.ops 0 [oo 16 .mv [.t 8], oo 17 (.bin .add) [.t 16, kk 1], oo 8 .mv [.t 17]])
abbrev c_theorbolaw06_chosen_p8 : VC := (.seq (.block 1 (.seq (.ops 0 [od 19 (.ldA 10) [.t 3] [], oo 20 .mv [.t 1], oo 21 .mv [.t 8], oo 22 (.ixA 3) [.t 20, .t 21], od 23 (.ldA 3) [.t 22] [1, 2, 3], oo 24 (.call 32) [.t 19, .t 23], oo 18 .mv [.t 24], oo 25 (.ext 0) [.t 18], oo 26 (.ext 1) [.t 18], oo 9 .mv [.t 25], oo 10 .mv [.t 26]]) c_theorbolaw06_chosen_p6)) c_theorbolaw06_chosen_p7)
abbrev c_theorbolaw06_chosen_p9 : VC := (.seq (.seq (.ops 0 [oo 12 .mv [.t 8], oo 13 .mv [.t 1], oo 14 .len [.t 13], oo 15 (.bin .lss) [.t 12, .t 14]]) (.cond (.t 15) .skip (.exit 0))) c_theorbolaw06_chosen_p8)
@[go_sem] abbrev w_theorbolaw06_chosen_p9 : Nat := 1125899906842560
abbrev c_theorbolaw06_chosen_p11 : VC := (.seq (.ops 0 [oo 50 .mv [.t 7], oo 6 .mv [.t 50]]) .ret)
abbrev c_theorbolaw06_chosen_p12 : VC := (.seq (.seq (.ops 0 [oo 8 .mv [kk 0]]) (.block 0 (.loop c_theorbolaw06_chosen_p9))) c_theorbolaw06_chosen_p11)
abbrev c_theorbolaw06_chosen_p13 : VC := (.seq (.ops 0 [oo 7 .mv [(.c (.sl 0 [] .exact))]]) c_theorbolaw06_chosen_p12)
def c_theorbolaw06_chosen : VC := (.seq (.ops 2 [oo 3 (.box 25) [.t 0], oo 6 .mv [(.c (.sl 0 [] .exact))]]) c_theorbolaw06_chosen_p13)
theorem k_theorbolaw06_chosen : Comp Try.prog nobx gtab 55 51 c_theorbolaw06_chosen [.t 6] := ⟨⟨Try.f55, _, Try.func55, rfl, rfl, kr, kr⟩⟩
abbrev c_theorbolaw06_HandRaised_p1 : VC := (.seq (.ops 0 [oo 35 (.call 28) [], oo 6 .mv [.t 35]]) .ret)
abbrev c_theorbolaw06_HandRaised_p2 : VC := (.ops 0 [oo 40 (.ldA 10) [.t 7], oo 41 .mv [.t 8], oo 42 (.fldA 0) [.t 4], oo 43 .ld1 [.t 42], oo 44 (.call 55) [.t 40, .t 41, .t 43], oo 9 .mv [.t 44]])
abbrev c_theorbolaw06_HandRaised_p3 : VC := (.seq (.ops 0 [oo 55 (.call 28) [], oo 6 .mv [.t 55]]) .ret)
abbrev c_theorbolaw06_HandRaised_p4 : VC := (.seq (.ops 0 [oo 6 .mv [(.c (.lit (.bool false)))]]) .ret)
abbrev c_theorbolaw06_HandRaised_p5 : VC := (.seq (.ops 0 [oo 95 (.call 28) [], oo 6 .mv [.t 95]]) .ret)
abbrev c_theorbolaw06_HandRaised_p6 : VC := (.ops 13 [oo 96 (.fldA 0) [.t 16], oo 97 .ld1 [.t 96], oo 98 (.fldA 0) [.t 18], oo 99 .ld1 [.t 98], oo 100 (.fldA 1) [.t 18], oo 101 .ld1 [.t 100], oo 102 .mv [.t 2], oo 103 (.bin .add) [.t 101, .t 102], oo 104 (.build [li 0, li 0] [(0, 1), (1, 1)]) [.t 99, .t 103], oo 105 (.mksl 1 2 [li 0, li 0] [(0, 2)]) [.t 104], oo 106 (.app 92 2 16) [.t 97, .t 105], oo 107 (.fldA 0) [.t 16], ⟨none, none, (.st 1), [.t 107, .t 106], none⟩])
abbrev c_theorbolaw06_HandRaised_p7 : VC := (.seq (.seq (.ops 0 [oo 90 (.fldA 1) [.t 18], oo 91 .ld1 [.t 90], oo 92 .mv [.t 2], oo 93 (.bin .add) [.t 91, .t 92], oo 94 (.bin .gtr) [.t 93, kk 18]]) (.cond (.t 94) c_theorbolaw06_HandRaised_p5 .skip)) c_theorbolaw06_HandRaised_p6)
abbrev c_theorbolaw06_HandRaised_p8 : VC := (.ops 0 [oo 108 (.bin .add) [.t 86, kk 1], oo 86 .mv [.t 108]])
abbrev c_theorbolaw06_HandRaised_p9 : VC := (.seq (.block 3 (.seq (.ops 4 [oo 88 (.ixA 2) [.t 84, .t 86], oo 89 (.ldA 2) [.t 88], oo 18 (.alloc 92 [li 0, li 0]) [], ⟨none, none, (.st 2), [.t 18, .t 89], none⟩]) c_theorbolaw06_HandRaised_p7)) c_theorbolaw06_HandRaised_p8)
abbrev c_theorbolaw06_HandRaised_p10 : VC := (.seq (.cond (.t 87) .skip (.exit 2)) c_theorbolaw06_HandRaised_p9)
abbrev c_theorbolaw06_HandRaised_p11 : VC := (.seq (.ops 0 [oo 87 (.bin .lss) [.t 86, .t 85]]) c_theorbolaw06_HandRaised_p10)
@[go_sem] abbrev w_theorbolaw06_HandRaised_p11 : Nat := 649037029945600998230044860219456
abbrev c_theorbolaw06_HandRaised_p13 : VC := (.seq (.ops 0 [oo 119 (.call 28) [], oo 6 .mv [.t 119]]) .ret)
abbrev c_theorbolaw06_HandRaised_p14 : VC := (.ops 17 [oo 124 .mv [.t 14], oo 125 .mv [.t 9], oo 126 .mv [.t 15], oo 127 (.ixA 2) [.t 125, .t 126], oo 128 (.fldA 0) [.t 127], od 129 .ld1 [.t 128] [1, 2, 3, 4], oo 130 .mv [.t 2], oo 131 (.bin .add) [.t 129, .t 130], oo 132 .mv [.t 9], oo 133 .mv [.t 15], oo 134 (.ixA 2) [.t 132, .t 133], oo 135 (.fldA 1) [.t 134], od 136 .ld1 [.t 135] [8, 9, 10, 11], ⟨(some 137), none, (.build [li 0, (.sl 0 [] .exact)] [(0, 1), (1, 1)]), [.t 131, .t 136], none⟩, ⟨(some 138), none, (.mksl 1 2 [li 0, (.sl 0 [] .exact)] [(0, 2)]), [.t 137], none⟩, oo 139 (.app 53 2 32) [.t 124, .t 138], oo 14 .mv [.t 139]])
abbrev c_theorbolaw06_HandRaised_p15 : VC := (.seq (.ops 5 [oo 120 .mv [.t 13], oo 121 (.ldA 3) [.t 16], ⟨(some 122), none, (.mksl 1 3 [(.sl 0 [] .exact), (.sl 0 [] .exact), (.sl 0 [] .exact)] [(0, 3)]), [.t 121], none⟩, oo 123 (.app 47 3 72) [.t 120, .t 122], oo 13 .mv [.t 123]]) c_theorbolaw06_HandRaised_p14)
abbrev c_theorbolaw06_HandRaised_p16 : VC := (.seq (.seq (.ops 0 [oo 109 .mv [.t 9], oo 110 .mv [.t 15], oo 111 (.ixA 2) [.t 109, .t 110], oo 112 (.fldA 0) [.t 111], od 113 .ld1 [.t 112] [0, 1, 2, 3], oo 114 .mv [.t 2], oo 115 (.bin .add) [.t 113, .t 114], oo 116 (.fldA 3) [.t 7], od 117 .ld1 [.t 116] [7], oo 118 (.bin .gtr) [.t 115, .t 117]]) (.cond (.t 118) c_theorbolaw06_HandRaised_p13 .skip)) c_theorbolaw06_HandRaised_p15)
abbrev c_theorbolaw06_HandRaised_p17 : VC := (.seq (.seq (.ops 0 [oo 80 .mv [.t 8], oo 81 .mv [.t 15], oo 82 (.ixA 3) [.t 80, .t 81], oo 83 (.fldA 0) [.t 82], oo 84 .ld1 [.t 83], oo 85 .len [.t 84], oo 86 .mv [kk 0]]) (.block 2 (.loop c_theorbolaw06_HandRaised_p11))) c_theorbolaw06_HandRaised_p16)
abbrev c_theorbolaw06_HandRaised_p18 : VC := (.ops 0 [oo 67 .mv [.t 15], oo 68 (.bin .add) [.t 67, kk 1], oo 15 .mv [.t 68]])
abbrev c_theorbolaw06_HandRaised_p19 : VC := (.seq (.block 1 (.seq (.ops 13 [oo 69 .mv [.t 8], oo 70 .mv [.t 15], oo 71 (.ixA 3) [.t 69, .t 70], oo 72 (.fldA 1) [.t 71], od 73 .ld1 [.t 72] [0, 1, 2, 3], oo 74 .mv [.t 8], oo 75 .mv [.t 15], oo 76 (.ixA 3) [.t 74, .t 75], oo 77 (.fldA 2) [.t 76], od 78 .ld1 [.t 77] [5, 6, 7, 8], ⟨(some 79), none, (.build [(.sl 0 [] .exact), (.sl 0 [] .exact), (.sl 0 [] .exact)] [(1, 1), (2, 1)]), [.t 73, .t 78], none⟩, ⟨(some 16), none, (.alloc 47 [(.sl 0 [] .exact), (.sl 0 [] .exact), (.sl 0 [] .exact)]), [], (some [])⟩, ⟨none, none, (.st 3), [.t 16, .t 79], none⟩]) c_theorbolaw06_HandRaised_p17)) c_theorbolaw06_HandRaised_p18)
abbrev c_theorbolaw06_HandRaised_p20 : VC := (.seq (.seq (.ops 0 [oo 63 .mv [.t 15], oo 64 .mv [.t 8], oo 65 .len [.t 64], oo 66 (.bin .lss) [.t 63, .t 65]]) (.cond (.t 66) .skip (.exit 0))) c_theorbolaw06_HandRaised_p19)
@[go_sem] abbrev w_theorbolaw06_HandRaised_p20 : Nat := 1393796574908163946345973168668485739733056
abbrev c_theorbolaw06_HandRaised_p22 : VC := (.seq (.ops 0 [oo 148 .mv [.t 12], oo 149 (.bin .eql) [.t 148, kk 0], oo 150 .mv [.t 149], og 151 150 true .mv [.t 19], og 152 150 true .mv [.t 10], og 153 150 true (.bin .eql) [.t 151, .t 152], oo 154 .pick [.t 150, .t 153, (.c (.lit (.bool false)))], oo 155 .mv [.t 154], og 156 155 true (.call 28) [], oo 157 .pick [.t 155, .t 156, (.c (.lit (.bool false)))], oo 6 .mv [.t 157]]) .ret)
abbrev c_theorbolaw06_HandRaised_p23 : VC := (.seq (.ops 0 [oo 141 (.ldA 10) [.t 7], oo 142 .mv [.t 13], oo 143 .mv [.t 14], oo 144 (.call 56) [.t 141, .t 142, .t 143], oo 140 .mv [.t 144], oo 145 (.ext 0) [.t 140], oo 146 (.ext 1) [.t 140], oo 147 (.ext 2) [.t 140], oo 19 .mv [.t 145], oo 20 .mv [.t 146], oo 12 .mv [.t 147]]) c_theorbolaw06_HandRaised_p22)
abbrev c_theorbolaw06_HandRaised_p24 : VC := (.seq (.seq (.ops 0 [oo 15 .mv [kk 0]]) (.block 0 (.loop c_theorbolaw06_HandRaised_p20))) c_theorbolaw06_HandRaised_p23)
abbrev c_theorbolaw06_HandRaised_p25 : VC := (.seq (.ops 0 [oo 14 .mv [(.c (.sl 0 [] .exact))]]) c_theorbolaw06_HandRaised_p24)
abbrev c_theorbolaw06_HandRaised_p26 : VC := (.seq (.ops 0 [oo 13 .mv [(.c (.sl 0 [] .exact))]]) c_theorbolaw06_HandRaised_p25)
abbrev c_theorbolaw06_HandRaised_p27 : VC := (.seq (.ops 0 [oo 61 .mv [.t 2], oo 62 (.call 30) [.t 61, kk 18], oo 2 .mv [.t 62]]) c_theorbolaw06_HandRaised_p26)
abbrev c_theorbolaw06_HandRaised_p28 : VC := (.seq (.seq (.ops 0 [oo 56 .mv [.t 9], oo 57 .len [.t 56], oo 58 .mv [.t 8], oo 59 .len [.t 58], oo 60 (.bin .neq) [.t 57, .t 59]]) (.cond (.t 60) c_theorbolaw06_HandRaised_p4 .skip)) c_theorbolaw06_HandRaised_p27)
abbrev c_theorbolaw06_HandRaised_p29 : VC := (.seq (.seq (.ops 0 [oo 53 .mv [.t 12], oo 54 (.bin .neq) [.t 53, kk 0]]) (.cond (.t 54) c_theorbolaw06_HandRaised_p3 .skip)) c_theorbolaw06_HandRaised_p28)
def c_theorbolaw06_HandRaised_p30 : VC := (.seq (.ops 0 [oo 46 (.ldA 10) [.t 7], oo 47 .mv [.t 8], oo 48 .mv [.t 9], oo 49 (.call 56) [.t 46, .t 47, .t 48], oo 45 .mv [.t 49], oo 50 (.ext 0) [.t 45], oo 51 (.ext 1) [.t 45], oo 52 (.ext 2) [.t 45], oo 10 .mv [.t 50], oo 11 .mv [.t 51], oo 12 .mv [.t 52]]) c_theorbolaw06_HandRaised_p29)
abbrev c_theorbolaw06_HandRaised_p31 : VC := (.seq (.seq (.ops 0 [oo 36 (.fldA 0) [.t 4], oo 37 .ld1 [.t 36], oo 38 .len [.t 37], oo 39 (.bin .gtr) [.t 38, kk 0]]) (.cond (.t 39) c_theorbolaw06_HandRaised_p2 .skip)) c_theorbolaw06_HandRaised_p30)
abbrev c_theorbolaw06_HandRaised_p32 : VC := (.seq (.seq (.ops 0 [oo 27 .mv [.t 8], oo 28 .len [.t 27], oo 29 (.bin .gtr) [.t 28, kk 64], oo 30 .mv [.t 29], og 31 30 false .mv [.t 9], og 32 30 false .len [.t 31], og 33 30 false (.bin .gtr) [.t 32, kk 64], oo 34 .pick [.t 30, (.c (.lit (.bool true))), .t 33]]) (.cond (.t 34) c_theorbolaw06_HandRaised_p1 .skip)) c_theorbolaw06_HandRaised_p31)
abbrev c_theorbolaw06_HandRaised_p33 : VC := (.seq (.ops 0 [oo 25 (.fldA 1) [.t 4], oo 26 .ld1 [.t 25], oo 9 .mv [.t 26]]) c_theorbolaw06_HandRaised_p32)
abbrev c_theorbolaw06_HandRaised_p34 : VC := (.seq (.ops 7 [oo 21 (.fldA 0) [.t 3], od 22 (.ldA 10) [.t 21] [0], oo 23 (.fldA 10) [.t 3], od 24 .ld1 [.t 23] [2], ⟨(some 7), none, (.alloc 25 [(.sl 0 [] .exact), (.sl 0 [] .exact), (.sl 0 [] .exact), li 0, li 0, li 0, li 0, li 0, li 0, li 0]), [], (some [])⟩, ⟨none, none, (.st 10), [.t 7, .t 22], (some [4])⟩, oo 8 .mv [.t 24]]) c_theorbolaw06_HandRaised_p33)
def c_theorbolaw06_HandRaised : VC := (.seq (.ops 3 [oo 3 (.box 35) [.t 0], oo 4 (.box 90) [.t 1], oo 6 .mv [(.c (.lit (.bool false)))]]) c_theorbolaw06_HandRaised_p34)
theorem k_theorbolaw06_HandRaised : Comp Try.prog nobx gtab 16 158 c_theorbolaw06_HandRaised [.t 6] := ⟨⟨Try.f16, _, Try.func16, rfl, rfl, kr, kr⟩⟩
end Go.Proofs.Ytojjdkoglhecbaa
