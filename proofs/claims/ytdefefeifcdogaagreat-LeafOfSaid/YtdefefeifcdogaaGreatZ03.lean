/- Instruments, pieces and leaves as data, and how they lie in cells: printed by a program. Nothing is proved of the program here. Functions of the program, as code on values by numbers: printed by a program from the program that was given, and held against it here. Signs: their ticks, their order, rows of them in order. Signs: ticks of both, rising rows, what rows contain. The order of signs, of both; rising rows; what a row contains. What a row of signs contains; rising numbers; a column of the program. A valid instrument, of both. A valid instrument, of the reference. A valid column, of both. A valid column, of the reference. A valid leaf, of both. A valid hand and valid rules, of both. Valid rules, of both; copies. The event of a reading, of both. Same of the reference: instruments, events, pieces. What every row of this seat wants: arguments of the leaf's types read, and the post of a law that answers true. Valid pieces, pieces in plain, the leaf of a piece: in plain. Nothing is run here. Rests, what is plucked, how long a note may be held: of both. -/
import Derived.Test.YtdefefeifcdogaaGreatG0
import Derived.Test.YtdefefeifcdogaaGreatWk
import Derived.Test.YtdefefeifcdogaaGreatVr
import Derived.Test.YtdefefeifcdogaaGreatRows
import Derived.Test.YtdefefeifcdogaaGreatOp
import Derived.WalkKit
import Derived.ProofKit
import Derived.OpenShut
import Derived.SizedLaws
import Derived.KernelRfl
set_option linter.unusedSimpArgs false
set_option linter.unusedVariables false
namespace Go.Proofs.YtdefefeifcdogaaGreat
open Go.RowKit

/-- A row of records. -/
def tL {α : Type} (f : α → List V) (l : List α) : V := .sl l.length (l.flatMap f) .no
theorem pure_tL {α : Type} (f : α → List V) (l : List α) : (tL f l).pure = true := by rw [tL, V.pure]; intro t h; cases h
theorem pure_tIs' (l : List Int) : (tIs l).pure = true := by rw [tIs, V.pure]; intro t h; cases h
/-- A row of rows of numbers. -/
def tIss (l : List (List Int)) : V := .sl l.length (l.map tIs) .no
theorem iss_at {l : List (List Int)} {k : Nat} (h : k < l.length) : (l.map tIs)[k]? = some (.sl (l.getD k []).length ((l.getD k []).map vint) .no) := by
  rw [List.getElem?_map, List.getD_eq_getElem?_getD, List.getElem?_eq_getElem h]; rfl
/-- A course: its pitch, its frets, its octave. -/
structure Crs where
  p : Int
  f : Int
  o : Bool
deriving Inhabited, DecidableEq
def Crs.cells (c : Crs) : List V := [vint c.p, vint c.f, vbool c.o]
theorem crs_len (x : Crs) : (Crs.cells x).length = 3 := rfl
theorem crss_len (l : List Crs) : (l.flatMap Crs.cells).length = l.length * 3 := flat_len crs_len l
theorem crs_at1 {l : List Crs} {k : Nat} (h : k < l.length) : (l.flatMap Crs.cells)[k * 3 + 1]? = some (V.lit (.int .i64 ((l.getD k default).f))) := by
  have := flat_at (j := 1) crs_len default h (by decide); rw [this]; rfl
theorem crs_take {l : List Crs} {k : Nat} (h : k < l.length) : ((l.flatMap Crs.cells).drop (k * 3)).take 3 = [V.lit (.int .i64 ((l.getD k default).p)), V.lit (.int .i64 ((l.getD k default).f)), V.lit (.bool ((l.getD k default).o))] := by
  rw [flat_take crs_len default h]; rfl
/-- An instrument. -/
structure Ins where
  cs : List Crs
  st : List Int
deriving Inhabited, DecidableEq
def Ins.val (x : Ins) : V := .agg [tL Crs.cells x.cs, tIs x.st]
/-- A rhythm sign. -/
structure Sg where
  v : Int
  d : Bool
  t : Bool
deriving Inhabited, DecidableEq
def Sg.cells (s : Sg) : List V := [vint s.v, vbool s.d, vbool s.t]
def Sg.val (s : Sg) : V := .agg s.cells
theorem sg_len (x : Sg) : (Sg.cells x).length = 3 := rfl
theorem sgs_len (l : List Sg) : (l.flatMap Sg.cells).length = l.length * 3 := flat_len sg_len l
theorem sg_take {l : List Sg} {k : Nat} (h : k < l.length) : ((l.flatMap Sg.cells).drop (k * 3)).take 3 = [V.lit (.int .i64 ((l.getD k default).v)), V.lit (.bool ((l.getD k default).d)), V.lit (.bool ((l.getD k default).t))] := by
  rw [flat_take sg_len default h]; rfl
/-- A stop. -/
structure Stp where
  co : Int
  fr : Int
  ri : Int
  gr : Int
  ho : Int
deriving Inhabited, DecidableEq
def Stp.cells (s : Stp) : List V := [vint s.co, vint s.fr, vint s.ri, vint s.gr, vint s.ho]
theorem stp_len (x : Stp) : (Stp.cells x).length = 5 := rfl
theorem stps_len (l : List Stp) : (l.flatMap Stp.cells).length = l.length * 5 := flat_len stp_len l
theorem stp_at0 {l : List Stp} {k : Nat} (h : k < l.length) : (l.flatMap Stp.cells)[k * 5]? = some (V.lit (.int .i64 ((l.getD k default).co))) := by
  have := flat_at (j := 0) stp_len default h (by decide); rw [Nat.add_zero] at this; rw [this]; rfl
theorem stp_at1 {l : List Stp} {k : Nat} (h : k < l.length) : (l.flatMap Stp.cells)[k * 5 + 1]? = some (V.lit (.int .i64 ((l.getD k default).fr))) := by
  have := flat_at (j := 1) stp_len default h (by decide); rw [this]; rfl
theorem stp_take {l : List Stp} {k : Nat} (h : k < l.length) : ((l.flatMap Stp.cells).drop (k * 5)).take 5 = [V.lit (.int .i64 ((l.getD k default).co)), V.lit (.int .i64 ((l.getD k default).fr)), V.lit (.int .i64 ((l.getD k default).ri)), V.lit (.int .i64 ((l.getD k default).gr)), V.lit (.int .i64 ((l.getD k default).ho))] := by
  rw [flat_take stp_len default h]; rfl
/-- An event. -/
structure Evt where
  bar : Bool
  sg : Sg
  tie : Bool
  ss : List Stp
deriving Inhabited, DecidableEq
def Evt.cells (x : Evt) : List V := [vbool x.bar, vint x.sg.v, vbool x.sg.d, vbool x.sg.t, vbool x.tie, tL Stp.cells x.ss]
def Evt.val (x : Evt) : V := .agg x.cells
theorem evt_len (x : Evt) : (Evt.cells x).length = 6 := rfl
theorem evts_len (l : List Evt) : (l.flatMap Evt.cells).length = l.length * 6 := flat_len evt_len l
theorem evt_at1 {l : List Evt} {k : Nat} (h : k < l.length) : (l.flatMap Evt.cells)[k * 6 + 1]? = some (V.lit (.int .i64 ((l.getD k default).sg.v))) := by
  have := flat_at (j := 1) evt_len default h (by decide); rw [this]; rfl
theorem evt_take {l : List Evt} {k : Nat} (h : k < l.length) : ((l.flatMap Evt.cells).drop (k * 6)).take 6 = [V.lit (.bool ((l.getD k default).bar)), V.lit (.int .i64 ((l.getD k default).sg.v)), V.lit (.bool ((l.getD k default).sg.d)), V.lit (.bool ((l.getD k default).sg.t)), V.lit (.bool ((l.getD k default).tie)), (.sl (l.getD k default).ss.length ((l.getD k default).ss.flatMap Stp.cells) .no)] := by
  rw [flat_take evt_len default h]; rfl
/-- A piece. -/
structure Pce where
  ins : Ins
  es : List Evt
deriving Inhabited, DecidableEq
def Pce.val (p : Pce) : V := .agg [tL Crs.cells p.ins.cs, tIs p.ins.st, tL Evt.cells p.es]
/-- A column. -/
structure Clm where
  bar : Bool
  tie : Bool
  sgs : List Sg
  ce : List (List Int)
deriving Inhabited, DecidableEq
def Clm.cells (c : Clm) : List V := [vbool c.bar, vbool c.tie, tL Sg.cells c.sgs, tIss c.ce]
def Clm.val (c : Clm) : V := .agg c.cells
theorem clm_len (x : Clm) : (Clm.cells x).length = 4 := rfl
theorem clms_len (l : List Clm) : (l.flatMap Clm.cells).length = l.length * 4 := flat_len clm_len l
theorem clm_take {l : List Clm} {k : Nat} (h : k < l.length) : ((l.flatMap Clm.cells).drop (k * 4)).take 4 = [V.lit (.bool ((l.getD k default).bar)), V.lit (.bool ((l.getD k default).tie)), (.sl (l.getD k default).sgs.length ((l.getD k default).sgs.flatMap Sg.cells) .no), (.sl (l.getD k default).ce.length ((l.getD k default).ce.map tIs) .no)] := by
  rw [flat_take clm_len default h]; rfl
/-- A leaf. -/
structure Lf where
  ins : Ins
  cols : List Clm
deriving Inhabited, DecidableEq
def Lf.val (f : Lf) : V := .agg [tL Crs.cells f.ins.cs, tIs f.ins.st, tL Clm.cells f.cols]
attribute [go_sem] tL tIss Crs.cells Ins.val Sg.cells Sg.val Stp.cells Evt.cells Evt.val Pce.val Clm.cells Clm.val Lf.val
theorem pure_ins (x : Ins) : x.val.pure = true := by
  rw [Ins.val, V.pure]; simp only [V.pures, pure_tL, pure_tIs', Bool.and_self]
theorem pure_pce (p : Pce) : p.val.pure = true := by
  rw [Pce.val, V.pure]; simp only [V.pures, pure_tL, pure_tIs', Bool.and_self]
theorem pure_lf (f : Lf) : f.val.pure = true := by
  rw [Lf.val, V.pure]; simp only [V.pures, pure_tL, pure_tIs', Bool.and_self]
theorem pure_sg (s : Sg) : s.val.pure = true := by
  rw [Sg.val, Sg.cells, V.pure]; simp only [V.pures, vint, vbool, V.pure, Bool.and_self]
theorem pure_evt (x : Evt) : x.val.pure = true := by
  rw [Evt.val, Evt.cells, V.pure]; simp only [V.pures, vint, vbool, V.pure, pure_tL, Bool.and_self]
end Go.Proofs.YtdefefeifcdogaaGreat
namespace Go.Proofs.YtdefefeifcdogaaGreat
open Go.RowKit
set_option maxRecDepth 100000

abbrev c_instrument_Check_p1 : VC := (.seq (.ops 0 [oo 2 .mv [kk 2]]) .ret)
abbrev c_instrument_Check_p2 : VC := (.seq (.ops 0 [oo 2 .mv [kk 11]]) .ret)
abbrev c_instrument_Check_p3 : VC := (.seq (.ops 0 [oo 2 .mv [kk 11]]) .ret)
abbrev c_instrument_Check_p4 : VC := (.ops 0 [oo 36 .mv [.t 5], oo 3 .mv [.t 36]])
abbrev c_instrument_Check_p5 : VC := (.seq (.seq (.ops 0 [oo 29 .mv [.t 5], oo 30 .mv [.t 3], oo 31 (.bin .leq) [.t 29, .t 30], oo 32 .mv [.t 31], og 33 32 false .mv [.t 5], og 34 32 false (.bin .gtr) [.t 33, kk 127], oo 35 .pick [.t 32, (.c (.lit (.bool true))), .t 34]]) (.cond (.t 35) c_instrument_Check_p3 .skip)) c_instrument_Check_p4)
abbrev c_instrument_Check_p6 : VC := (.ops 0 [oo 37 (.bin .add) [.t 25, kk 1], oo 25 .mv [.t 37]])
abbrev c_instrument_Check_p7 : VC := (.seq (.block 1 (.seq (.ops 0 [oo 27 (.ixA 1) [.t 23, .t 25], oo 28 .ld1 [.t 27], oo 5 .mv [.t 28]]) c_instrument_Check_p5)) c_instrument_Check_p6)
abbrev c_instrument_Check_p8 : VC := (.seq (.cond (.t 26) .skip (.exit 0)) c_instrument_Check_p7)
abbrev c_instrument_Check_p9 : VC := (.seq (.ops 0 [oo 26 (.bin .lss) [.t 25, .t 24]]) c_instrument_Check_p8)
@[go_sem] abbrev w_instrument_Check_p9 : Nat := 274844352556
abbrev c_instrument_Check_p11 : VC := (.seq (.ops 0 [oo 2 .mv [kk 13]]) .ret)
abbrev c_instrument_Check_p12 : VC := (.seq (.ops 0 [oo 2 .mv [kk 10]]) .ret)
abbrev c_instrument_Check_p13 : VC := (.seq (.ops 0 [oo 56 (.fldA 0) [.t 7], oo 57 .ld1 [.t 56], oo 58 (.bin .lss) [.t 57, kk 0], oo 59 .mv [.t 58], og 60 59 false (.fldA 0) [.t 7], og 61 59 false .ld1 [.t 60], og 62 59 false (.bin .gtr) [.t 61, kk 127], oo 63 .pick [.t 59, (.c (.lit (.bool true))), .t 62], oo 64 .mv [.t 63], og 65 64 false (.ldA 2) [.t 1], og 66 64 false (.ldA 3) [.t 7], og 67 64 false (.call 142) [.t 65, .t 66], og 68 64 false (.bin .gtr) [.t 67, kk 127], oo 69 .pick [.t 64, (.c (.lit (.bool true))), .t 68]]) (.cond (.t 69) c_instrument_Check_p12 .skip))
abbrev c_instrument_Check_p14 : VC := (.seq (.seq (.ops 0 [oo 45 (.fldA 1) [.t 7], oo 46 .ld1 [.t 45], oo 47 (.bin .lss) [.t 46, kk 0], oo 48 .mv [.t 47], og 49 48 false (.fldA 1) [.t 7], og 50 48 false .ld1 [.t 49], og 51 48 false (.fldA 1) [.t 1], og 52 48 false .ld1 [.t 51], og 53 48 false .len [.t 52], og 54 48 false (.bin .gtr) [.t 50, .t 53], oo 55 .pick [.t 48, (.c (.lit (.bool true))), .t 54]]) (.cond (.t 55) c_instrument_Check_p11 .skip)) c_instrument_Check_p13)
abbrev c_instrument_Check_p15 : VC := (.ops 0 [oo 70 (.bin .add) [.t 41, kk 1], oo 41 .mv [.t 70]])
abbrev c_instrument_Check_p16 : VC := (.seq (.block 3 (.seq (.ops 4 [oo 43 (.ixA 3) [.t 39, .t 41], oo 44 (.ldA 3) [.t 43], oo 7 (.alloc 188 [li 0, li 0, (.lit (.bool false))]) [], ⟨none, none, (.st 3), [.t 7, .t 44], none⟩]) c_instrument_Check_p14)) c_instrument_Check_p15)
abbrev c_instrument_Check_p17 : VC := (.seq (.cond (.t 42) .skip (.exit 2)) c_instrument_Check_p16)
abbrev c_instrument_Check_p18 : VC := (.seq (.ops 0 [oo 42 (.bin .lss) [.t 41, .t 40]]) c_instrument_Check_p17)
@[go_sem] abbrev w_instrument_Check_p18 : Nat := 2361183239235799351428
abbrev c_instrument_Check_p20 : VC := (.seq (.ops 0 [oo 2 .mv [kk 0]]) .ret)
abbrev c_instrument_Check_p21 : VC := (.seq (.seq (.ops 0 [oo 38 (.fldA 0) [.t 1], oo 39 .ld1 [.t 38], oo 40 .len [.t 39], oo 41 .mv [kk 0]]) (.block 2 (.loop c_instrument_Check_p18))) c_instrument_Check_p20)
abbrev c_instrument_Check_p22 : VC := (.seq (.seq (.ops 0 [oo 22 (.fldA 1) [.t 1], oo 23 .ld1 [.t 22], oo 24 .len [.t 23], oo 25 .mv [kk 0]]) (.block 0 (.loop c_instrument_Check_p9))) c_instrument_Check_p21)
abbrev c_instrument_Check_p23 : VC := (.seq (.ops 0 [oo 3 .mv [kk 0]]) c_instrument_Check_p22)
abbrev c_instrument_Check_p24 : VC := (.seq (.seq (.ops 0 [oo 18 (.fldA 0) [.t 1], oo 19 .ld1 [.t 18], oo 20 .len [.t 19], oo 21 (.bin .eql) [.t 20, kk 0]]) (.cond (.t 21) c_instrument_Check_p2 .skip)) c_instrument_Check_p23)
abbrev c_instrument_Check_p25 : VC := (.seq (.seq (.ops 0 [oo 8 (.fldA 0) [.t 1], oo 9 .ld1 [.t 8], oo 10 .len [.t 9], oo 11 (.bin .gtr) [.t 10, kk 14], oo 12 .mv [.t 11], og 13 12 false (.fldA 1) [.t 1], og 14 12 false .ld1 [.t 13], og 15 12 false .len [.t 14], og 16 12 false (.bin .gtr) [.t 15, kk 18], oo 17 .pick [.t 12, (.c (.lit (.bool true))), .t 16]]) (.cond (.t 17) c_instrument_Check_p1 .skip)) c_instrument_Check_p24)
def c_instrument_Check : VC := (.seq (.ops 2 [oo 1 (.box 25) [.t 0], oo 2 .mv [kk 0]]) c_instrument_Check_p25)
theorem k_instrument_Check : Comp Tryz.prog nobx gtab 71 71 c_instrument_Check [.t 2] := ⟨⟨Tryz.f71, _, Tryz.func71, rfl, rfl, kr, kr⟩⟩
abbrev c_instrument_highest_p1 : VC := (.ops 0 [oo 11 .mv [.t 5], oo 12 (.fldA 1) [.t 2], oo 13 .ld1 [.t 12], oo 14 (.fldA 1) [.t 3], oo 15 .ld1 [.t 14], oo 16 (.bin .sub) [.t 15, kk 1], oo 17 (.ixA 1) [.t 13, .t 16], oo 18 .ld1 [.t 17], oo 19 (.bin .add) [.t 11, .t 18], oo 5 .mv [.t 19]])
abbrev c_instrument_highest_p2 : VC := (.ops 0 [oo 22 .mv [.t 5], oo 23 (.bin .add) [.t 22, kk 12], oo 5 .mv [.t 23]])
abbrev c_instrument_highest_p3 : VC := (.seq (.ops 0 [oo 24 .mv [.t 5], oo 4 .mv [.t 24]]) .ret)
abbrev c_instrument_highest_p4 : VC := (.seq (.seq (.ops 0 [oo 20 (.fldA 2) [.t 3], oo 21 .ld1 [.t 20]]) (.cond (.t 21) c_instrument_highest_p2 .skip)) c_instrument_highest_p3)
abbrev c_instrument_highest_p5 : VC := (.seq (.seq (.ops 0 [oo 8 (.fldA 1) [.t 3], oo 9 .ld1 [.t 8], oo 10 (.bin .gtr) [.t 9, kk 0]]) (.cond (.t 10) c_instrument_highest_p1 .skip)) c_instrument_highest_p4)
abbrev c_instrument_highest_p6 : VC := (.seq (.ops 0 [oo 6 (.fldA 0) [.t 3], oo 7 .ld1 [.t 6], oo 5 .mv [.t 7]]) c_instrument_highest_p5)
def c_instrument_highest : VC := (.seq (.ops 3 [oo 2 (.box 25) [.t 0], oo 3 (.box 188) [.t 1], oo 4 .mv [kk 0]]) c_instrument_highest_p6)
theorem k_instrument_highest : Comp Tryz.prog nobx gtab 142 25 c_instrument_highest [.t 4] := ⟨⟨Tryz.f142, _, Tryz.func142, rfl, rfl, kr, kr⟩⟩
abbrev c_theorboref01_Check_p1 : VC := (.seq (.ops 0 [oo 2 .mv [kk 2]]) .ret)
abbrev c_theorboref01_Check_p2 : VC := (.seq (.ops 0 [oo 2 .mv [kk 11]]) .ret)
abbrev c_theorboref01_Check_p3 : VC := (.seq (.ops 0 [oo 2 .mv [kk 11]]) .ret)
abbrev c_theorboref01_Check_p4 : VC := (.ops 0 [oo 44 (.fldA 1) [.t 1], oo 45 .ld1 [.t 44], oo 46 .mv [.t 4], oo 47 (.ixA 1) [.t 45, .t 46], oo 48 .ld1 [.t 47], oo 3 .mv [.t 48]])
abbrev c_theorboref01_Check_p5 : VC := (.ops 0 [oo 27 .mv [.t 4], oo 28 (.bin .add) [.t 27, kk 1], oo 4 .mv [.t 28]])
abbrev c_theorboref01_Check_p6 : VC := (.seq (.block 1 (.seq (.seq (.ops 0 [oo 29 (.fldA 1) [.t 1], oo 30 .ld1 [.t 29], oo 31 .mv [.t 4], oo 32 (.ixA 1) [.t 30, .t 31], oo 33 .ld1 [.t 32], oo 34 .mv [.t 3], oo 35 (.bin .leq) [.t 33, .t 34], oo 36 .mv [.t 35], og 37 36 false (.fldA 1) [.t 1], og 38 36 false .ld1 [.t 37], og 39 36 false .mv [.t 4], og 40 36 false (.ixA 1) [.t 38, .t 39], og 41 36 false .ld1 [.t 40], og 42 36 false (.bin .gtr) [.t 41, kk 127], oo 43 .pick [.t 36, (.c (.lit (.bool true))), .t 42]]) (.cond (.t 43) c_theorboref01_Check_p3 .skip)) c_theorboref01_Check_p4)) c_theorboref01_Check_p5)
abbrev c_theorboref01_Check_p7 : VC := (.seq (.seq (.ops 0 [oo 22 .mv [.t 4], oo 23 (.fldA 1) [.t 1], oo 24 .ld1 [.t 23], oo 25 .len [.t 24], oo 26 (.bin .lss) [.t 22, .t 25]]) (.cond (.t 26) .skip (.exit 0))) c_theorboref01_Check_p6)
@[go_sem] abbrev w_theorboref01_Check_p7 : Nat := 562949949227036
abbrev c_theorboref01_Check_p9 : VC := (.seq (.ops 0 [oo 2 .mv [kk 13]]) .ret)
abbrev c_theorboref01_Check_p10 : VC := (.seq (.ops 0 [oo 2 .mv [kk 10]]) .ret)
abbrev c_theorboref01_Check_p11 : VC := (.ops 0 [oo 85 .mv [.t 7], oo 86 (.fldA 1) [.t 1], oo 87 .ld1 [.t 86], oo 88 (.fldA 1) [.t 6], oo 89 .ld1 [.t 88], oo 90 (.bin .sub) [.t 89, kk 1], oo 91 (.ixA 1) [.t 87, .t 90], oo 92 .ld1 [.t 91], oo 93 (.bin .add) [.t 85, .t 92], oo 7 .mv [.t 93]])
abbrev c_theorboref01_Check_p12 : VC := (.ops 0 [oo 96 .mv [.t 7], oo 97 (.bin .add) [.t 96, kk 12], oo 7 .mv [.t 97]])
abbrev c_theorboref01_Check_p13 : VC := (.seq (.ops 0 [oo 2 .mv [kk 10]]) .ret)
abbrev c_theorboref01_Check_p14 : VC := (.seq (.ops 0 [oo 98 .mv [.t 7], oo 99 (.bin .gtr) [.t 98, kk 127]]) (.cond (.t 99) c_theorboref01_Check_p13 .skip))
abbrev c_theorboref01_Check_p15 : VC := (.seq (.seq (.ops 0 [oo 94 (.fldA 2) [.t 6], oo 95 .ld1 [.t 94]]) (.cond (.t 95) c_theorboref01_Check_p12 .skip)) c_theorboref01_Check_p14)
abbrev c_theorboref01_Check_p16 : VC := (.seq (.seq (.ops 0 [oo 82 (.fldA 1) [.t 6], oo 83 .ld1 [.t 82], oo 84 (.bin .gtr) [.t 83, kk 0]]) (.cond (.t 84) c_theorboref01_Check_p11 .skip)) c_theorboref01_Check_p15)
abbrev c_theorboref01_Check_p17 : VC := (.seq (.ops 0 [oo 80 (.fldA 0) [.t 6], oo 81 .ld1 [.t 80], oo 7 .mv [.t 81]]) c_theorboref01_Check_p16)
abbrev c_theorboref01_Check_p18 : VC := (.seq (.seq (.ops 0 [oo 72 (.fldA 0) [.t 6], oo 73 .ld1 [.t 72], oo 74 (.bin .lss) [.t 73, kk 0], oo 75 .mv [.t 74], og 76 75 false (.fldA 0) [.t 6], og 77 75 false .ld1 [.t 76], og 78 75 false (.bin .gtr) [.t 77, kk 127], oo 79 .pick [.t 75, (.c (.lit (.bool true))), .t 78]]) (.cond (.t 79) c_theorboref01_Check_p10 .skip)) c_theorboref01_Check_p17)
abbrev c_theorboref01_Check_p19 : VC := (.seq (.seq (.ops 0 [oo 61 (.fldA 1) [.t 6], oo 62 .ld1 [.t 61], oo 63 (.bin .lss) [.t 62, kk 0], oo 64 .mv [.t 63], og 65 64 false (.fldA 1) [.t 6], og 66 64 false .ld1 [.t 65], og 67 64 false (.fldA 1) [.t 1], og 68 64 false .ld1 [.t 67], og 69 64 false .len [.t 68], og 70 64 false (.bin .gtr) [.t 66, .t 69], oo 71 .pick [.t 64, (.c (.lit (.bool true))), .t 70]]) (.cond (.t 71) c_theorboref01_Check_p9 .skip)) c_theorboref01_Check_p18)
abbrev c_theorboref01_Check_p20 : VC := (.ops 0 [oo 54 .mv [.t 5], oo 55 (.bin .add) [.t 54, kk 1], oo 5 .mv [.t 55]])
abbrev c_theorboref01_Check_p21 : VC := (.seq (.block 3 (.seq (.ops 7 [oo 56 (.fldA 0) [.t 1], oo 57 .ld1 [.t 56], oo 58 .mv [.t 5], oo 59 (.ixA 3) [.t 57, .t 58], oo 60 (.ldA 3) [.t 59], oo 6 (.alloc 188 [li 0, li 0, (.lit (.bool false))]) [], ⟨none, none, (.st 3), [.t 6, .t 60], none⟩]) c_theorboref01_Check_p19)) c_theorboref01_Check_p20)
abbrev c_theorboref01_Check_p22 : VC := (.seq (.seq (.ops 0 [oo 49 .mv [.t 5], oo 50 (.fldA 0) [.t 1], oo 51 .ld1 [.t 50], oo 52 .len [.t 51], oo 53 (.bin .lss) [.t 49, .t 52]]) (.cond (.t 53) .skip (.exit 2))) c_theorboref01_Check_p21)
@[go_sem] abbrev w_theorboref01_Check_p22 : Nat := 1267650600228228838546749784292
abbrev c_theorboref01_Check_p24 : VC := (.seq (.ops 0 [oo 2 .mv [kk 0]]) .ret)
abbrev c_theorboref01_Check_p25 : VC := (.seq (.seq (.ops 0 [oo 5 .mv [kk 0]]) (.block 2 (.loop c_theorboref01_Check_p22))) c_theorboref01_Check_p24)
abbrev c_theorboref01_Check_p26 : VC := (.seq (.seq (.ops 0 [oo 4 .mv [kk 0]]) (.block 0 (.loop c_theorboref01_Check_p7))) c_theorboref01_Check_p25)
abbrev c_theorboref01_Check_p27 : VC := (.seq (.ops 0 [oo 3 .mv [kk 0]]) c_theorboref01_Check_p26)
abbrev c_theorboref01_Check_p28 : VC := (.seq (.seq (.ops 0 [oo 18 (.fldA 0) [.t 1], oo 19 .ld1 [.t 18], oo 20 .len [.t 19], oo 21 (.bin .eql) [.t 20, kk 0]]) (.cond (.t 21) c_theorboref01_Check_p2 .skip)) c_theorboref01_Check_p27)
abbrev c_theorboref01_Check_p29 : VC := (.seq (.seq (.ops 0 [oo 8 (.fldA 0) [.t 1], oo 9 .ld1 [.t 8], oo 10 .len [.t 9], oo 11 (.bin .gtr) [.t 10, kk 14], oo 12 .mv [.t 11], og 13 12 false (.fldA 1) [.t 1], og 14 12 false .ld1 [.t 13], og 15 12 false .len [.t 14], og 16 12 false (.bin .gtr) [.t 15, kk 18], oo 17 .pick [.t 12, (.c (.lit (.bool true))), .t 16]]) (.cond (.t 17) c_theorboref01_Check_p1 .skip)) c_theorboref01_Check_p28)
def c_theorboref01_Check : VC := (.seq (.ops 2 [oo 1 (.box 25) [.t 0], oo 2 .mv [kk 0]]) c_theorboref01_Check_p29)
theorem k_theorboref01_Check : Comp Tryz.prog nobx gtab 73 100 c_theorboref01_Check [.t 2] := ⟨⟨Tryz.f73, _, Tryz.func73, rfl, rfl, kr, kr⟩⟩
abbrev c_piece_Ticks_p1 : VC := (.seq (.ops 0 [oo 2 .mv [kk 0]]) .ret)
abbrev c_piece_Ticks_p2 : VC := (.seq (.ops 0 [oo 27 .mv [.t 3], oo 28 (.bin .quo) [.t 27, kk 2], oo 29 (.bin .mul) [.t 28, kk 3], oo 2 .mv [.t 29]]) .ret)
abbrev c_piece_Ticks_p3 : VC := (.seq (.ops 0 [oo 33 .mv [.t 3], oo 34 (.bin .quo) [.t 33, kk 3], oo 35 (.bin .mul) [.t 34, kk 2], oo 2 .mv [.t 35]]) .ret)
abbrev c_piece_Ticks_p4 : VC := (.seq (.ops 0 [oo 31 (.fldA 2) [.t 1], oo 32 .ld1 [.t 31], oo 30 .mv [.t 32]]) (.cond (.t 30) c_piece_Ticks_p3 .skip))
abbrev c_piece_Ticks_p5 : VC := (.seq (.ops 0 [oo 36 .mv [.t 3], oo 2 .mv [.t 36]]) .ret)
abbrev c_piece_Ticks_p6 : VC := (.seq (.block 0 (.seq (.ops 0 [oo 25 (.fldA 1) [.t 1], oo 26 .ld1 [.t 25], oo 24 .mv [.t 26]]) (.cond (.t 24) c_piece_Ticks_p2 c_piece_Ticks_p4))) c_piece_Ticks_p5)
abbrev c_piece_Ticks_p7 : VC := (.seq (.ops 0 [oo 20 (.fldA 0) [.t 1], oo 21 .ld1 [.t 20], oo 22 (.bin .sub) [.t 21, kk 1], oo 23 (.bin .shr) [kk 384, .t 22], oo 3 .mv [.t 23]]) c_piece_Ticks_p6)
abbrev c_piece_Ticks_p8 : VC := (.seq (.seq (.ops 0 [oo 4 (.fldA 0) [.t 1], oo 5 .ld1 [.t 4], oo 6 (.bin .lss) [.t 5, kk 1], oo 7 .mv [.t 6], og 8 7 false (.fldA 0) [.t 1], og 9 7 false .ld1 [.t 8], og 10 7 false (.bin .gtr) [.t 9, kk 7], oo 11 .pick [.t 7, (.c (.lit (.bool true))), .t 10], oo 12 .mv [.t 11], og 13 12 false (.fldA 1) [.t 1], og 14 12 false .ld1 [.t 13], og 15 12 false .mv [.t 14], og 16 15 true (.fldA 2) [.t 1], og 17 15 true .ld1 [.t 16], og 18 12 false .pick [.t 15, .t 17, (.c (.lit (.bool false)))], oo 19 .pick [.t 12, (.c (.lit (.bool true))), .t 18]]) (.cond (.t 19) c_piece_Ticks_p1 .skip)) c_piece_Ticks_p7)
def c_piece_Ticks : VC := (.seq (.ops 2 [oo 1 (.box 110) [.t 0], oo 2 .mv [kk 0]]) c_piece_Ticks_p8)
theorem k_piece_Ticks : Comp Tryz.prog nobx gtab 146 37 c_piece_Ticks [.t 2] := ⟨⟨Tryz.f146, _, Tryz.func146, rfl, rfl, kr, kr⟩⟩
abbrev c_theorboref02_Right_p1 : VC := (.seq (.ops 0 [oo 6 (.fldA 1) [.t 1], oo 7 .ld1 [.t 6], oo 8 (.un .not) [.t 7], oo 9 .mv [.t 8], og 10 9 true (.fldA 2) [.t 1], og 11 9 true .ld1 [.t 10], og 12 9 true (.un .not) [.t 11], oo 13 .pick [.t 9, .t 12, (.c (.lit (.bool false)))], oo 2 .mv [.t 13]]) .ret)
abbrev c_theorboref02_Right_p2 : VC := (.seq (.ops 0 [oo 14 (.fldA 0) [.t 1], oo 15 .ld1 [.t 14], oo 16 (.bin .geq) [.t 15, kk 1], oo 17 .mv [.t 16], og 18 17 true (.fldA 0) [.t 1], og 19 17 true .ld1 [.t 18], og 20 17 true (.bin .leq) [.t 19, kk 7], oo 21 .pick [.t 17, .t 20, (.c (.lit (.bool false)))], oo 22 .mv [.t 21], og 23 22 true (.fldA 1) [.t 1], og 24 22 true .ld1 [.t 23], og 25 22 true .mv [.t 24], og 26 25 true (.fldA 2) [.t 1], og 27 25 true .ld1 [.t 26], og 28 22 true .pick [.t 25, .t 27, (.c (.lit (.bool false)))], og 29 22 true (.un .not) [.t 28], oo 30 .pick [.t 22, .t 29, (.c (.lit (.bool false)))], oo 2 .mv [.t 30]]) .ret)
abbrev c_theorboref02_Right_p3 : VC := (.seq (.seq (.ops 0 [oo 3 (.fldA 0) [.t 1], oo 4 .ld1 [.t 3], oo 5 (.bin .eql) [.t 4, kk 0]]) (.cond (.t 5) c_theorboref02_Right_p1 .skip)) c_theorboref02_Right_p2)
def c_theorboref02_Right : VC := (.seq (.ops 2 [oo 1 (.box 110) [.t 0], oo 2 .mv [(.c (.lit (.bool false)))]]) c_theorboref02_Right_p3)
theorem k_theorboref02_Right : Comp Tryz.prog nobx gtab 204 31 c_theorboref02_Right [.t 2] := ⟨⟨Tryz.f204, _, Tryz.func204, rfl, rfl, kr, kr⟩⟩
end Go.Proofs.YtdefefeifcdogaaGreat
namespace Go.Proofs.YtdefefeifcdogaaGreat
open Go.RowKit
set_option maxRecDepth 100000

abbrev c_leaf_copied_p1 : VC := (.seq (.ops 0 [oo 3 (.fldA 0) [.t 1], od 4 .ld1 [.t 3] [0], od 5 (.call 134) [.t 4] [0, 1], oo 6 (.fldA 1) [.t 1], od 7 .ld1 [.t 6] [3], oo 8 (.call 135) [.t 7], ⟨(some 9), none, (.build [(.sl 0 [] .exact), (.sl 0 [] .exact)] [(0, 1), (1, 1)]), [.t 5, .t 8], none⟩, ⟨none, none, (.st 2), [.t 2, .t 9], none⟩]) .ret)
def c_leaf_copied : VC := (.seq (.ops 2 [oo 1 (.box 25) [.t 0], ⟨(some 2), none, (.alloc 25 [(.sl 0 [] .exact), (.sl 0 [] .exact)]), [], none⟩]) c_leaf_copied_p1)
theorem k_leaf_copied : Comp Tryz.prog nobx gtab 63 10 c_leaf_copied [(.c 2 2 true)] := ⟨⟨Tryz.f63, _, Tryz.func63, rfl, rfl, kr, kr⟩⟩
abbrev c_slices_Clone_api_Course_api_Course_p1 : VC := (.seq (.ops 0 [oo 2 .mv [(.c (.sl 0 [] .exact))]]) .ret)
abbrev c_slices_Clone_api_Course_api_Course_p2 : VC := (.cond (.t 4) c_slices_Clone_api_Course_api_Course_p1 .skip)
abbrev c_slices_Clone_api_Course_api_Course_p3 : VC := (.seq (.ops 4 [oo 5 (.mksl 0 3 [] []) [], oo 6 .mv [.t 0], oo 7 (.app 188 3 24) [.t 5, .t 6], oo 2 .mv [.t 7]]) .ret)
abbrev c_slices_Clone_api_Course_api_Course_p4 : VC := (.seq (.seq (.ops 0 [oo 3 .mv [.t 0], oo 4 (.eqN false) [.t 3]]) c_slices_Clone_api_Course_api_Course_p2) c_slices_Clone_api_Course_api_Course_p3)
def c_slices_Clone_api_Course_api_Course : VC := (.seq (.ops 0 [oo 2 .mv [(.c (.sl 0 [] .exact))]]) c_slices_Clone_api_Course_api_Course_p4)
theorem k_slices_Clone_api_Course_api_Course : Comp Tryz.prog nobx gtab 134 8 c_slices_Clone_api_Course_api_Course [.t 2] := ⟨⟨Tryz.f134, _, Tryz.func134, rfl, rfl, kr, kr⟩⟩
abbrev c_slices_Clone_int_int_p1 : VC := (.seq (.ops 0 [oo 2 .mv [(.c (.sl 0 [] .exact))]]) .ret)
abbrev c_slices_Clone_int_int_p2 : VC := (.seq (.ops 4 [oo 5 (.mksl 0 1 [] []) [], oo 6 .mv [.t 0], oo 7 (.app 3 1 8) [.t 5, .t 6], oo 2 .mv [.t 7]]) .ret)
abbrev c_slices_Clone_int_int_p3 : VC := (.seq (.seq (.ops 0 [oo 3 .mv [.t 0], oo 4 (.eqN false) [.t 3]]) (.cond (.t 4) c_slices_Clone_int_int_p1 .skip)) c_slices_Clone_int_int_p2)
def c_slices_Clone_int_int : VC := (.seq (.ops 0 [oo 2 .mv [(.c (.sl 0 [] .exact))]]) c_slices_Clone_int_int_p3)
theorem k_slices_Clone_int_int : Comp Tryz.prog nobx gtab 135 8 c_slices_Clone_int_int [.t 2] := ⟨⟨Tryz.f135, _, Tryz.func135, rfl, rfl, kr, kr⟩⟩
abbrev c_theorboref01_Copy_p1 : VC := (.seq (.ops 10 [oo 3 (.mksl 0 3 [] []) [], oo 4 (.fldA 0) [.t 1], od 5 .ld1 [.t 4] [1], od 6 (.app 188 3 24) [.t 3, .t 5] [0, 1, 2], oo 7 (.mksl 0 1 [] []) [], oo 8 (.fldA 1) [.t 1], od 9 .ld1 [.t 8] [5], oo 10 (.app 3 1 8) [.t 7, .t 9], ⟨(some 11), none, (.build [(.sl 0 [] .exact), (.sl 0 [] .exact)] [(0, 1), (1, 1)]), [.t 6, .t 10], none⟩, ⟨none, none, (.st 2), [.t 2, .t 11], none⟩]) .ret)
def c_theorboref01_Copy : VC := (.seq (.ops 2 [oo 1 (.box 25) [.t 0], ⟨(some 2), none, (.alloc 25 [(.sl 0 [] .exact), (.sl 0 [] .exact)]), [], none⟩]) c_theorboref01_Copy_p1)
theorem k_theorboref01_Copy : Comp Tryz.prog nobx gtab 139 12 c_theorboref01_Copy [(.c 2 2 true)] := ⟨⟨Tryz.f139, _, Tryz.func139, rfl, rfl, kr, kr⟩⟩
abbrev c_theorboref01_Same_p1 : VC := (.seq (.ops 0 [oo 4 .mv [(.c (.lit (.bool false)))]]) .ret)
abbrev c_theorboref01_Same_p2 : VC := (.seq (.ops 0 [oo 4 .mv [(.c (.lit (.bool false)))]]) .ret)
abbrev c_theorboref01_Same_p3 : VC := (.ops 0 [oo 28 .mv [.t 5], oo 29 (.bin .add) [.t 28, kk 1], oo 5 .mv [.t 29]])
abbrev c_theorboref01_Same_p4 : VC := (.seq (.block 1 (.seq (.ops 0 [oo 30 (.fldA 0) [.t 2], od 31 .ld1 [.t 30] [0], oo 32 .mv [.t 5], oo 33 (.ixA 3) [.t 31, .t 32], od 34 (.ldA 3) [.t 33] [0, 1, 2, 3], oo 35 (.fldA 0) [.t 3], od 36 .ld1 [.t 35] [5], oo 37 .mv [.t 5], oo 38 (.ixA 3) [.t 36, .t 37], od 39 (.ldA 3) [.t 38] [5, 6, 7, 8], oo 40 (.eqP [(0, 0), (1, 0), (2, 1)] true) [.t 34, .t 39]]) (.cond (.t 40) c_theorboref01_Same_p2 .skip))) c_theorboref01_Same_p3)
abbrev c_theorboref01_Same_p5 : VC := (.seq (.seq (.ops 0 [oo 23 .mv [.t 5], oo 24 (.fldA 0) [.t 2], oo 25 .ld1 [.t 24], oo 26 .len [.t 25], oo 27 (.bin .lss) [.t 23, .t 26]]) (.cond (.t 27) .skip (.exit 0))) c_theorboref01_Same_p4)
@[go_sem] abbrev w_theorboref01_Same_p5 : Nat := 2199014866992
abbrev c_theorboref01_Same_p7 : VC := (.seq (.ops 0 [oo 4 .mv [(.c (.lit (.bool false)))]]) .ret)
abbrev c_theorboref01_Same_p8 : VC := (.ops 0 [oo 46 .mv [.t 6], oo 47 (.bin .add) [.t 46, kk 1], oo 6 .mv [.t 47]])
abbrev c_theorboref01_Same_p9 : VC := (.seq (.block 3 (.seq (.ops 0 [oo 48 (.fldA 1) [.t 2], od 49 .ld1 [.t 48] [0], oo 50 .mv [.t 6], oo 51 (.ixA 1) [.t 49, .t 50], od 52 .ld1 [.t 51] [0, 1, 2, 3], oo 53 (.fldA 1) [.t 3], od 54 .ld1 [.t 53] [5], oo 55 .mv [.t 6], oo 56 (.ixA 1) [.t 54, .t 55], od 57 .ld1 [.t 56] [5, 6, 7, 8], oo 58 (.bin .neq) [.t 52, .t 57]]) (.cond (.t 58) c_theorboref01_Same_p7 .skip))) c_theorboref01_Same_p8)
abbrev c_theorboref01_Same_p10 : VC := (.seq (.seq (.ops 0 [oo 41 .mv [.t 6], oo 42 (.fldA 1) [.t 2], oo 43 .ld1 [.t 42], oo 44 .len [.t 43], oo 45 (.bin .lss) [.t 41, .t 44]]) (.cond (.t 45) .skip (.exit 2))) c_theorboref01_Same_p9)
@[go_sem] abbrev w_theorboref01_Same_p10 : Nat := 576458553280168016
abbrev c_theorboref01_Same_p12 : VC := (.seq (.ops 0 [oo 4 .mv [(.c (.lit (.bool true)))]]) .ret)
abbrev c_theorboref01_Same_p13 : VC := (.seq (.seq (.ops 0 [oo 6 .mv [kk 0]]) (.block 2 (.loop c_theorboref01_Same_p10))) c_theorboref01_Same_p12)
abbrev c_theorboref01_Same_p14 : VC := (.seq (.seq (.ops 0 [oo 5 .mv [kk 0]]) (.block 0 (.loop c_theorboref01_Same_p5))) c_theorboref01_Same_p13)
abbrev c_theorboref01_Same_p15 : VC := (.seq (.seq (.ops 0 [oo 7 (.fldA 0) [.t 2], oo 8 .ld1 [.t 7], oo 9 .len [.t 8], oo 10 (.fldA 0) [.t 3], oo 11 .ld1 [.t 10], oo 12 .len [.t 11], oo 13 (.bin .neq) [.t 9, .t 12], oo 14 .mv [.t 13], og 15 14 false (.fldA 1) [.t 2], og 16 14 false .ld1 [.t 15], og 17 14 false .len [.t 16], og 18 14 false (.fldA 1) [.t 3], og 19 14 false .ld1 [.t 18], og 20 14 false .len [.t 19], og 21 14 false (.bin .neq) [.t 17, .t 20], oo 22 .pick [.t 14, (.c (.lit (.bool true))), .t 21]]) (.cond (.t 22) c_theorboref01_Same_p1 .skip)) c_theorboref01_Same_p14)
def c_theorboref01_Same : VC := (.seq (.ops 3 [oo 2 (.box 25) [.t 0], oo 3 (.box 25) [.t 1], oo 4 .mv [(.c (.lit (.bool false)))]]) c_theorboref01_Same_p15)
theorem k_theorboref01_Same : Comp Tryz.prog nobx gtab 70 59 c_theorboref01_Same [.t 4] := ⟨⟨Tryz.f70, _, Tryz.func70, rfl, rfl, kr, kr⟩⟩
abbrev c_theorbolaw10_SameInts_p1 : VC := (.seq (.ops 0 [oo 4 .mv [(.c (.lit (.bool false)))]]) .ret)
abbrev c_theorbolaw10_SameInts_p2 : VC := (.seq (.ops 0 [oo 4 .mv [(.c (.lit (.bool false)))]]) .ret)
abbrev c_theorbolaw10_SameInts_p3 : VC := (.ops 0 [oo 15 .mv [.t 5], oo 16 (.bin .add) [.t 15, kk 1], oo 5 .mv [.t 16]])
abbrev c_theorbolaw10_SameInts_p4 : VC := (.seq (.block 1 (.seq (.ops 0 [oo 17 .mv [.t 0], oo 18 .mv [.t 5], oo 19 (.ixA 1) [.t 17, .t 18], od 20 .ld1 [.t 19] [0, 1, 2], oo 21 .mv [.t 1], oo 22 .mv [.t 5], oo 23 (.ixA 1) [.t 21, .t 22], od 24 .ld1 [.t 23] [4, 5, 6], oo 25 (.bin .neq) [.t 20, .t 24]]) (.cond (.t 25) c_theorbolaw10_SameInts_p2 .skip))) c_theorbolaw10_SameInts_p3)
abbrev c_theorbolaw10_SameInts_p5 : VC := (.seq (.seq (.ops 0 [oo 11 .mv [.t 5], oo 12 .mv [.t 0], oo 13 .len [.t 12], oo 14 (.bin .lss) [.t 11, .t 13]]) (.cond (.t 14) .skip (.exit 0))) c_theorbolaw10_SameInts_p4)
@[go_sem] abbrev w_theorbolaw10_SameInts_p5 : Nat := 67106864
abbrev c_theorbolaw10_SameInts_p7 : VC := (.seq (.ops 0 [oo 4 .mv [(.c (.lit (.bool true)))]]) .ret)
abbrev c_theorbolaw10_SameInts_p8 : VC := (.seq (.seq (.ops 0 [oo 5 .mv [kk 0]]) (.block 0 (.loop c_theorbolaw10_SameInts_p5))) c_theorbolaw10_SameInts_p7)
abbrev c_theorbolaw10_SameInts_p9 : VC := (.seq (.seq (.ops 0 [oo 6 .mv [.t 0], oo 7 .len [.t 6], oo 8 .mv [.t 1], oo 9 .len [.t 8], oo 10 (.bin .neq) [.t 7, .t 9]]) (.cond (.t 10) c_theorbolaw10_SameInts_p1 .skip)) c_theorbolaw10_SameInts_p8)
def c_theorbolaw10_SameInts : VC := (.seq (.ops 0 [oo 4 .mv [(.c (.lit (.bool false)))]]) c_theorbolaw10_SameInts_p9)
theorem k_theorbolaw10_SameInts : Comp Tryz.prog nobx gtab 61 26 c_theorbolaw10_SameInts [.t 4] := ⟨⟨Tryz.f61, _, Tryz.func61, rfl, rfl, kr, kr⟩⟩
end Go.Proofs.YtdefefeifcdogaaGreat
namespace Go.Proofs.YtdefefeifcdogaaGreat
open Go.RowKit
set_option linter.unusedSimpArgs false
set_option linter.unusedVariables false

theorem pure_tIs (l : List Int) : (tIs l).pure = true := by rw [tIs, V.pure]; intro t h; cases h
theorem ints_at {l : List Int} {k : Nat} (h : k < l.length) : (l.map vint)[k]? = some (V.lit (.int .i64 (l.getD k 0))) := by
  rw [List.getElem?_map, List.getD_eq_getElem?_getD, List.getElem?_eq_getElem h]; rfl
end Go.Proofs.YtdefefeifcdogaaGreat
namespace Go.Proofs.YtdefefeifcdogaaGreat
open Go.RowKit
set_option linter.unusedSimpArgs false
set_option linter.unusedVariables false

/-- Of all numbers below n. -/
def allB (n : Nat) (p : Nat → Bool) : Bool := (List.range n).all p
theorem allB_true {n : Nat} {p : Nat → Bool} (h : ∀ i, i < n → p i = true) : allB n p = true := by
  rw [allB, List.all_eq_true]; exact fun i hi => h i (List.mem_range.1 hi)
theorem allB_iff {n : Nat} {p : Nat → Bool} : allB n p = true ↔ ∀ i, i < n → p i = true := by
  rw [allB, List.all_eq_true]; exact ⟨fun h i hi => h i (List.mem_range.2 hi), fun h i hi => h i (List.mem_range.1 hi)⟩

/-- The ticks of a value. -/
def tk0 (v : Nat) : Int := ([0, 384, 192, 96, 48, 24, 12, 6] : List Int).getD v 0
/-- Is it a sign that is written? -/
def okS (s : Sg) : Bool := decide (1 ≤ s.v) && decide (s.v ≤ 7) && !(s.d && s.t)
/-- The ticks of a sign. -/
def tkS (s : Sg) : Int := if okS s = true then (if s.d = true then tk0 s.v.toNat / 2 * 3 else if s.t = true then tk0 s.v.toNat / 3 * 2 else tk0 s.v.toNat) else 0
theorem tk0_cases {n : Nat} (h1 : 1 ≤ n) (h7 : n ≤ 7) : tk0 n = 384 / 2 ^ (n - 1) ∧ 6 ≤ tk0 n ∧ tk0 n ≤ 384 ∧ (tk0 n).tdiv 2 = tk0 n / 2 ∧ (tk0 n).tdiv 3 = tk0 n / 3 ∧ (n < 7 → tk0 n / 2 = tk0 (n + 1)) := by
  have : n = 1 ∨ n = 2 ∨ n = 3 ∨ n = 4 ∨ n = 5 ∨ n = 6 ∨ n = 7 := by omega
  rcases this with rfl | rfl | rfl | rfl | rfl | rfl | rfl <;> decide
theorem ticks_fn (s : Sg) : Fn Tryz.prog Gd 146 [s.val] (vint (tkS s)) := by
  refine Fn.of_vx0 k_piece_Ticks (by simp) (by rw [V.pures, pure_sg]; rfl) ?_
  obtain ⟨v, d, t⟩ := s
  unfold c_piece_Ticks
  by_cases h1 : 1 ≤ v
  case neg =>
    have c1 : v < 1 := by omega
    clear h1
    repeat' (with_reducible first | refine x_ops ?_ | refine wk ?_ | ((first | refine gd1 ?_ ?_ | refine gd2 ?_ ?_ | refine gd3 ?_ ?_) <;> (first | exact @False.elim _ | intro hc)))
    refine finV_lit vv ?_
    rw [tkS, okS, show decide (1 ≤ v) = false from decide_eq_false (by omega)]; rfl
  by_cases h7 : v ≤ 7
  case neg =>
    have c1 : ¬ v < 1 := by omega
    have c2 : 7 < v := by omega
    clear h1 h7
    repeat' (with_reducible first | refine x_ops ?_ | refine wk ?_ | ((first | refine gd1 ?_ ?_ | refine gd2 ?_ ?_ | refine gd3 ?_ ?_) <;> (first | exact @False.elim _ | intro hc)))
    refine finV_lit vv ?_
    rw [tkS, okS, show decide (v ≤ 7) = false from decide_eq_false (by omega), Bool.and_false]; rfl
  obtain ⟨n, rfl⟩ : ∃ n : Nat, v = n := ⟨v.toNat, by omega⟩
  have hn1 : 1 ≤ n := by omega
  have hn7 : n ≤ 7 := by omega
  obtain ⟨q1, q2, q3, q4, q5, _⟩ := tk0_cases hn1 hn7
  have c1 : ¬ (n : Int) < 1 := by omega
  have c2 : ¬ 7 < (n : Int) := by omega
  have w1 := w_sub1 (k := n) (by omega) (by omega)
  have hm : min (n - 1) 64 = n - 1 := Nat.min_eq_left (by omega)
  have hw2 : IntKind.i64.wrap ((tk0 n).tdiv 2) = tk0 n / 2 := by rw [q4]; exact w_in (by omega)
  have hw3 : IntKind.i64.wrap ((tk0 n).tdiv 3) = tk0 n / 3 := by rw [q5]; exact w_in (by omega)
  have hw4 : IntKind.i64.wrap (tk0 n / 2 * 3) = tk0 n / 2 * 3 := w_in (by omega)
  have hw5 : IntKind.i64.wrap (tk0 n / 3 * 2) = tk0 n / 3 * 2 := w_in (by omega)
  have hok : ∀ d t, okS ⟨n, d, t⟩ = !(d && t) := fun d t => by
    rw [okS, decide_eq_true (by show (1 : Int) ≤ n; omega), decide_eq_true (by show (n : Int) ≤ 7; omega)]; rfl
  have hq : ∀ d t, tkS ⟨n, d, t⟩ = if (d && t) = true then 0 else if d = true then tk0 n / 2 * 3 else if t = true then tk0 n / 3 * 2 else tk0 n := fun d t => by
    rw [tkS, hok]; cases d <;> cases t <;> rfl
  replace hq := Hid.mk hq
  clear hok h1 h7 q2 q3 q4 q5 hn1 hn7
  rw [eq_comm] at q1
  cases d <;> cases t
  all_goals repeat' (with_reducible first | refine x_ops ?_ | refine wk ?_ | ((first | refine gd1 ?_ ?_ | refine gd2 ?_ ?_ | refine gd3 ?_ ?_) <;> (first | exact @False.elim _ | intro hc)))
  all_goals refine finV_lit vv ?_
  all_goals first
    | (rw [hq.out]; rfl)
    | (rw [hq.out, hw4]; rfl)
    | (rw [hq.out, hw5]; rfl)
theorem rright_fn (s : Sg) : Fn Tryz.prog Gd 204 [s.val] (vbool (okS s || (decide (s.v = 0) && !s.d && !s.t))) := by
  refine Fn.of_vx0 k_theorboref02_Right (by simp) (by rw [V.pures, pure_sg]; rfl) ?_
  obtain ⟨v, d, t⟩ := s
  unfold c_theorboref02_Right
  by_cases h0 : v = 0
  · subst h0
    cases d <;> cases t
    all_goals repeat' (with_reducible first | refine x_ops ?_ | refine wk ?_ | ((first | refine gd1 ?_ ?_ | refine gd2 ?_ ?_ | refine gd3 ?_ ?_) <;> (first | exact @False.elim _ | intro hc)))
    all_goals refine finV_lit vv ?_
    all_goals rfl
  · have c0 : (v == 0) = false := by rw [beq_eq_false_iff_ne]; exact h0
    have hd : decide (v = 0) = false := decide_eq_false h0
    have hq : ∀ d t, (okS ⟨v, d, t⟩ || (decide (v = 0) && !d && !t)) = (decide (1 ≤ v) && decide (v ≤ 7) && !(d && t)) := fun d t => by
      rw [hd, okS]; cases d <;> cases t <;> simp
    replace hq := Hid.mk hq
    clear h0 hd
    cases h1 : decide (1 ≤ v) <;> cases h2 : decide (v ≤ 7) <;> cases d <;> cases t
    all_goals simp only [decide_eq_true_eq, decide_eq_false_iff_not] at h1 h2
    all_goals repeat' (with_reducible first | refine x_ops ?_ | refine wk ?_ | ((first | refine gd1 ?_ ?_ | refine gd2 ?_ ?_ | refine gd3 ?_ ?_) <;> (first | exact @False.elim _ | intro hc)))
    all_goals refine finV_lit vv (congrArg Value.bool (Eq.trans ?_ (hq.out _ _).symm))
    all_goals first
      | rw [decide_eq_true h1, decide_eq_true h2]; rfl
      | rw [decide_eq_false h1, decide_eq_true h2]; rfl
      | rw [decide_eq_true h1, decide_eq_false h2]; rfl
      | rw [decide_eq_false h1, decide_eq_false h2]; rfl
end Go.Proofs.YtdefefeifcdogaaGreat
namespace Go.Proofs.YtdefefeifcdogaaGreat
open Go.RowKit
set_option linter.unusedSimpArgs false
set_option linter.unusedVariables false

/-- A sign comes before another. -/
def befS (a b : Sg) : Bool := if a.v ≠ b.v then decide (a.v < b.v) else if a.d ≠ b.d then b.d else !a.t && b.t
/-- Signs that rise, and are some. -/
def risS (l : List Sg) : Bool := allB (l.length - 1) (fun i => befS (l.getD i default) (l.getD (i + 1) default)) && decide (0 < l.length)
end Go.Proofs.YtdefefeifcdogaaGreat
namespace Go.Proofs.YtdefefeifcdogaaGreat
open Go.RowKit
set_option linter.unusedSimpArgs false
set_option linter.unusedVariables false

/-- Where the first one is, or -1. -/
def idxI {α : Type} (p : α → Bool) (l : List α) : Int := if l.any p = true then (l.findIdx p : Int) else -1
theorem idxI_at {α : Type} [Inhabited α] {p : α → Bool} {l : List α} {k : Nat} (hk : k < l.length) (h : p (l.getD k default) = true) (hI : ∀ i, i < k → p (l.getD i default) = false) : idxI p l = k := by
  have e : ∀ i (hi : i < l.length), l.getD i default = l[i] := fun i hi => by rw [List.getD_eq_getElem?_getD, List.getElem?_eq_getElem hi]; rfl
  have h1 : l.findIdx p = k := by
    rw [List.findIdx_eq hk]
    refine ⟨by rw [← e k hk]; exact h, fun j hj => ?_⟩
    have := hI j hj
    rw [e j (by omega)] at this
    simpa using this
  rw [idxI, if_pos, h1]
  rw [List.any_eq_true]
  exact ⟨l[k], List.getElem_mem hk, by rw [← e k hk]; exact h⟩
theorem idxI_none {α : Type} [Inhabited α] {p : α → Bool} {l : List α} (hI : ∀ i, i < l.length → p (l.getD i default) = false) : idxI p l = -1 := by
  rw [idxI, if_neg]
  rw [List.any_eq_true]
  rintro ⟨x, hx, hp⟩
  obtain ⟨i, hi, rfl⟩ := List.mem_iff_getElem.1 hx
  have := hI i hi
  rw [List.getD_eq_getElem?_getD, List.getElem?_eq_getElem hi, Option.getD_some, hp] at this
  cases this
theorem idxI_ge {α : Type} (p : α → Bool) (l : List α) : decide (0 ≤ idxI p l) = l.any p := by
  rw [idxI]
  split
  · rename_i h; rw [h, decide_eq_true (by omega)]
  · rename_i h; rw [Bool.not_eq_true] at h; rw [h]; rfl
/-- Numbers that rise, and are some. -/
def risI (l : List Int) : Bool := allB (l.length - 1) (fun i => decide (l.getD i 0 < l.getD (i + 1) 0)) && decide (0 < l.length)
end Go.Proofs.YtdefefeifcdogaaGreat
namespace Go.Proofs.YtdefefeifcdogaaGreat
open Go.RowKit
set_option linter.unusedSimpArgs false
set_option linter.unusedVariables false

def Crs.val (c : Crs) : V := .agg c.cells
attribute [go_sem] Crs.val
theorem pure_crs (c : Crs) : c.val.pure = true := by
  rw [Crs.val, Crs.cells, V.pure]; simp only [V.pures, vint, vbool, V.pure, Bool.and_self]
def lastS (st : List Int) (k : Nat) : Int := if k = 0 then 0 else st.getD (k - 1) 0
def stB (st : List Int) : Bool := allB st.length fun i => decide (lastS st i < st.getD i 0) && decide (st.getD i 0 ≤ 127)
/-- The highest pitch of a course. -/
def topC (st : List Int) (c : Crs) : Int := c.p + (if 0 < c.f then st.getD (c.f - 1).toNat 0 else 0) + (if c.o = true then 12 else 0)
def crsE (st : List Int) (c : Crs) : Int := if c.f < 0 ∨ (st.length : Int) < c.f then 13 else if c.p < 0 ∨ 127 < c.p ∨ 127 < topC st c then 10 else 0
/-- The first error. -/
def firE {α : Type} (g : α → Int) : List α → Int
  | [] => 0
  | x :: l => if g x ≠ 0 then g x else firE g l
theorem firE_at {α : Type} [Inhabited α] {g : α → Int} : ∀ {l : List α} {k : Nat}, k < l.length → g (l.getD k default) ≠ 0 → (∀ i, i < k → g (l.getD i default) = 0) → firE g l = g (l.getD k default)
  | [], k, hk, _, _ => by simp at hk
  | x :: l, 0, _, h, _ => by rw [firE]; exact if_pos h
  | x :: l, k + 1, hk, h, hI => by
    rw [firE, if_neg (by have := hI 0 (by omega); simpa using this)]
    exact firE_at (by simpa using hk) h fun i hi => hI (i + 1) (by omega)
theorem firE_none {α : Type} [Inhabited α] {g : α → Int} : ∀ {l : List α}, (∀ i, i < l.length → g (l.getD i default) = 0) → firE g l = 0
  | [], _ => rfl
  | x :: l, hI => by
    rw [firE, if_neg (by have := hI 0 (by simp); simpa using this)]
    exact firE_none fun i hi => hI (i + 1) (by simpa using hi)
theorem firE_zero {α : Type} [Inhabited α] {g : α → Int} : ∀ {l : List α}, firE g l = 0 → ∀ i, i < l.length → g (l.getD i default) = 0
  | [], _, i, hi => by simp at hi
  | x :: l, h, i, hi => by
    rw [firE] at h
    split at h
    · rename_i h1; exact absurd h h1
    · rename_i h1
      cases i with
      | zero => simpa using h1
      | succ i => exact firE_zero h i (by simpa using hi)
/-- The first error of an instrument. -/
def chkI (x : Ins) : Int := if 14 < x.cs.length ∨ 18 < x.st.length then 2 else if x.cs.length = 0 then 11 else if stB x.st = true then firE (crsE x.st) x.cs else 11
theorem stB_all {st : List Int} (h : stB st = true) : ∀ i, i < st.length → 1 ≤ st.getD i 0 ∧ st.getD i 0 ≤ 127 ∧ (0 < i → st.getD (i - 1) 0 < st.getD i 0) := by
  have h1 : ∀ i, i < st.length → lastS st i < st.getD i 0 ∧ st.getD i 0 ≤ 127 := fun i hi => by
    rw [stB, allB_iff] at h
    simpa using h i hi
  intro i
  induction i with
  | zero => intro hi; have := h1 0 hi; rw [lastS, if_pos rfl] at this; exact ⟨by omega, this.2, fun h => by omega⟩
  | succ i ih =>
    intro hi
    have h2 := h1 (i + 1) hi
    have h3 := ih (by omega)
    rw [lastS, if_neg (by omega), Nat.add_sub_cancel] at h2
    exact ⟨by omega, h2.2, fun _ => h2.1⟩
theorem highest_fn (x : Ins) (c : Crs) (hf : 0 ≤ c.f ∧ c.f ≤ x.st.length) (hp : 0 ≤ c.p ∧ c.p ≤ 127) (hs : ∀ i, i < x.st.length → 1 ≤ x.st.getD i 0 ∧ x.st.getD i 0 ≤ 127) (hl : x.st.length ≤ 18) : Fn Tryz.prog Gd 142 [x.val, c.val] (vint (topC x.st c)) := by
  refine Fn.of_vx0 k_instrument_highest (by simp) (by rw [V.pures, pure_ins, V.pures, pure_crs]; rfl) ?_
  obtain ⟨p, f, o⟩ := c
  have hf1 : 0 ≤ f := hf.1
  have hf2 : f ≤ x.st.length := hf.2
  have hp1 : 0 ≤ p := hp.1
  have hp2 : p ≤ 127 := hp.2
  clear hf hp
  obtain ⟨n, rfl⟩ : ∃ n : Nat, f = n := ⟨f.toNat, by omega⟩
  unfold c_instrument_highest
  by_cases h0 : 0 < n
  · have c1 : (0 : Int) < (n : Int) := by omega
    have g1 := ints_at (l := x.st) (k := n - 1) (by omega)
    have c2 : ((n - 1 : Nat) : Int) < (x.st.length : Int) := by omega
    have w1 := w_sub1 (k := n) h0 (by omega)
    have h1 := hs (n - 1) (by omega)
    have hq : topC x.st ⟨p, n, o⟩ = p + x.st.getD (n - 1) 0 + (if o = true then 12 else 0) := by
      rw [topC, if_pos (by show (0 : Int) < n; omega)]
      show p + x.st.getD ((n : Int) - 1).toNat 0 + _ = _
      rw [show ((n : Int) - 1).toNat = n - 1 by omega]
    have w2 : IntKind.i64.wrap (p + x.st.getD (n - 1) 0) = p + x.st.getD (n - 1) 0 := w_in (by omega)
    have w3 : IntKind.i64.wrap (p + x.st.getD (n - 1) 0 + 12) = p + x.st.getD (n - 1) 0 + 12 := w_in (by omega)
    clear hs h1 hf1 hp1 hp2 hf2
    replace hq := Hid.mk hq
    clear h0
    cases o
    all_goals repeat' (with_reducible first | refine x_ops ?_ | refine wk ?_ | ((first | refine gd1 ?_ ?_ | refine gd2 ?_ ?_ | refine gd3 ?_ ?_) <;> (first | exact @False.elim _ | intro hc)))
    all_goals refine finV_lit vw ?_
    all_goals rw [hq.out]
    all_goals first
      | (rw [if_pos rfl]; done)
      | (rw [if_neg (by decide), Int.add_zero]; done)
      | (rw [if_pos rfl]; congr 1; omega)
  · have c1 : ¬ (0 : Int) < (n : Int) := by omega
    have hq : topC x.st ⟨p, n, o⟩ = p + (if o = true then 12 else 0) := by
      rw [topC, if_neg (by show ¬ (0 : Int) < n; omega), Int.add_zero]
    have w3 : IntKind.i64.wrap (p + 12) = p + 12 := w_in (by omega)
    clear hs hf1 hp1 hp2 hf2
    replace hq := Hid.mk hq
    clear h0
    cases o
    all_goals repeat' (with_reducible first | refine x_ops ?_ | refine wk ?_ | ((first | refine gd1 ?_ ?_ | refine gd2 ?_ ?_ | refine gd3 ?_ ?_) <;> (first | exact @False.elim _ | intro hc)))
    all_goals refine finV_lit vw ?_
    all_goals rw [hq.out]
    all_goals first
      | (rw [if_pos rfl]; done)
      | (rw [if_neg (by decide), Int.add_zero]; done)
set_option maxHeartbeats 1000000 in
theorem icheck_fn (x : Ins) : Fn Tryz.prog Gd 71 [x.val] (vint (chkI x)) := by
  refine Fn.of_vx0 k_instrument_Check (by simp) (by rw [V.pures, pure_ins]; rfl) ?_
  unfold c_instrument_Check
  by_cases h1 : 14 < x.cs.length
  · have c1 : (14 : Int) < (x.cs.length : Int) := by omega
    have hq : chkI x = 2 := by rw [chkI, if_pos (.inl h1)]
    clear h1
    repeat' (with_reducible first | refine x_ops ?_ | refine wk ?_ | ((first | refine gd1 ?_ ?_ | refine gd2 ?_ ?_ | refine gd3 ?_ ?_) <;> (first | exact @False.elim _ | intro hc)))
    exact finV_lit vv (by first | rfl | rw [hq])
  by_cases h2 : 18 < x.st.length
  · have c1 : ¬ (14 : Int) < (x.cs.length : Int) := by omega
    have c2 : (18 : Int) < (x.st.length : Int) := by omega
    have hq : chkI x = 2 := by rw [chkI, if_pos (.inr h2)]
    clear h1 h2
    repeat' (with_reducible first | refine x_ops ?_ | refine wk ?_ | ((first | refine gd1 ?_ ?_ | refine gd2 ?_ ?_ | refine gd3 ?_ ?_) <;> (first | exact @False.elim _ | intro hc)))
    exact finV_lit vv (by first | rfl | rw [hq])
  have c1 : ¬ (14 : Int) < (x.cs.length : Int) := by omega
  have c2 : ¬ (18 : Int) < (x.st.length : Int) := by omega
  by_cases h3 : x.cs.length = 0
  · have hq : chkI x = 11 := by rw [chkI, if_neg (by omega), if_pos h3]
    have c3 : ((x.cs.length : Int) == 0) = true := by rw [beq_iff_eq]; omega
    clear h1 h2 h3
    repeat' (with_reducible first | refine x_ops ?_ | refine wk ?_ | ((first | refine gd1 ?_ ?_ | refine gd2 ?_ ?_ | refine gd3 ?_ ?_) <;> (first | exact @False.elim _ | intro hc)))
    exact finV_lit vv (by first | rfl | rw [hq])
  have c3 : ((x.cs.length : Int) == 0) = false := by rw [beq_eq_false_iff_ne]; omega
  have hq : chkI x = if stB x.st = true then firE (crsE x.st) x.cs else 11 := by rw [chkI, if_neg (by omega), if_neg h3]
  replace hq := Hid.mk hq
  have hl14 : x.cs.length ≤ 14 := by omega
  have hl18 : x.st.length ≤ 18 := by omega
  clear h1 h2 h3
  replace hl14 := Hid.mk hl14
  replace hl18 := Hid.mk hl18
  repeat' (with_reducible first | refine x_ops ?_ | refine wk ?_ | ((first | refine gd1 ?_ ?_ | refine gd2 ?_ ?_ | refine gd3 ?_ ?_) <;> (first | exact @False.elim _ | intro hc)))
  refine x_loopF w_instrument_Check_p9 kr x.st.length (fun k t => t 25 = vint k ∧ t 3 = vint (lastS x.st k) ∧ ∀ i, i < k → lastS x.st i < x.st.getD i 0 ∧ x.st.getD i 0 ≤ 127) ?_ ?_
  · exact ⟨vv, vv, fun i h => by omega⟩
  rintro k t hk ⟨h25, h3, hI⟩
  replace hI := Hid.mk hI
  by_cases hlt : k < x.st.length
  · have g1 := ints_at (l := x.st) (k := k) hlt
    have c4 : (k : Int) < (x.st.length : Int) := by omega
    have w2 := w_add1 (k := k) (by have := hl18.out; omega)
    have hlt0 := Hid.mk hlt
    have hnext : lastS x.st (k + 1) = x.st.getD k 0 := by rw [lastS, if_neg (by omega), Nat.add_sub_cancel]
    replace hnext := Hid.mk hnext
    have bad : ¬ (lastS x.st k < x.st.getD k 0 ∧ x.st.getD k 0 ≤ 127) → (11 : Int) = chkI x := fun h => by
      rw [hq.out, if_neg]
      rw [stB, allB_iff]
      intro h'
      exact h (by simpa using h' k hlt)
    replace bad := Hid.mk bad
    clear hlt hk
    generalize hy : x.st.getD k 0 = y at *
    replace hy := Hid.mk hy
    generalize hz : lastS x.st k = z at *
    replace hz := Hid.mk hz
    repeat' (with_reducible first | refine x_ops ?_ | refine wk ?_ | ((first | refine gd1 ?_ ?_ | refine gd2 ?_ ?_ | refine gd3 ?_ ?_) <;> (first | exact @False.elim _ | intro hc)))
    all_goals first
      | (refine nf hlt0.out ⟨vv, ?_, fun i hi => ?_⟩ rfl
         · rw [hnext.out]; exact vv
         · by_cases e : i = k
           · subst e; rw [hy.out, hz.out]; omega
           · exact hI.out i (by omega))
      | (refine finV_lit vv ?_
         rw [bad.out (by omega)])
  have c4 : ¬ ((k : Int) < (x.st.length : Int)) := by omega
  have hst : stB x.st = true := by
    rw [stB, allB_iff]
    intro i hi
    simpa using hI.out i (by omega)
  have hall := stB_all hst
  replace hq : Hid (chkI x = firE (crsE x.st) x.cs) := Hid.mk (by rw [hq.out, if_pos hst])
  clear hI hlt hk hst h3
  replace hall := Hid.mk hall
  repeat' (with_reducible first | refine x_ops ?_ | refine wk ?_ | ((first | refine gd1 ?_ ?_ | refine gd2 ?_ ?_ | refine gd3 ?_ ?_) <;> (first | exact @False.elim _ | intro hc)))
  refine x_loopW w_instrument_Check_p18 kr x.cs.length (fun k t m => t 41 = vint k ∧ (m.obj 0 = some (.box [.sl x.cs.length (x.cs.flatMap Crs.cells) .no, .sl x.st.length (x.st.map vint) .no] 25) ∧ 0 < m.next) ∧ ∀ i, i < k → crsE x.st (x.cs.getD i default) = 0) ?_ ?_
  · exact ⟨vv, ⟨vv, by show 0 < 2; omega⟩, fun i h => by omega⟩
  clear c4 h25
  rintro k t m hk ⟨h41, ⟨hm, hn⟩, hI⟩
  replace hI := Hid.mk hI
  by_cases hlt : k < x.cs.length
  case neg =>
    have c4 : ¬ ((k : Int) < (x.cs.length : Int)) := by omega
    have hz : chkI x = 0 := by rw [hq.out]; exact firE_none fun i hi => hI.out i (by omega)
    clear hlt hk
    repeat' (with_reducible first | refine x_ops ?_ | refine wk ?_ | ((first | refine gd1 ?_ ?_ | refine gd2 ?_ ?_ | refine gd3 ?_ ?_) <;> (first | exact @False.elim _ | intro hc)))
    exact finV_lit vv (by first | rfl | rw [hz])
  have g1 := crs_take (l := x.cs) (k := k) hlt
  have hL := crss_len x.cs
  have c4 : (k : Int) < (x.cs.length : Int) := by omega
  have c5 : k * 3 + 3 ≤ x.cs.length * 3 := by omega
  have w2 := w_add1 (k := k) (by have := hl14.out; omega)
  have x2 : ¬ (0 : Nat) = m.next + 2 := by omega
  have hn2 := Hid.mk hn
  have hlt0 := Hid.mk hlt
  have bad : crsE x.st (x.cs.getD k default) ≠ 0 → crsE x.st (x.cs.getD k default) = chkI x := fun h => by rw [hq.out]; exact (firE_at hlt h hI.out).symm
  have step : crsE x.st (x.cs.getD k default) = 0 → ∀ i, i < k + 1 → crsE x.st (x.cs.getD i default) = 0 := fun h i hi => by
    by_cases e : i = k
    · subst e; exact h
    · exact hI.out i (by omega)
  replace bad := Hid.mk bad
  replace step := Hid.mk step
  clear hlt hk hn
  generalize x.cs.getD k default = c at *
  by_cases hf : c.f < 0 ∨ (x.st.length : Int) < c.f
  · have he : crsE x.st c = 13 := by rw [crsE, if_pos hf]
    have hz : chkI x = 13 := by rw [← bad.out (by rw [he]; decide), he]
    by_cases hf1 : c.f < 0
    · clear hf he
      repeat' (with_reducible first | refine x_ops ?_ | refine wk ?_ | ((first | refine gd1 ?_ ?_ | refine gd2 ?_ ?_ | refine gd3 ?_ ?_) <;> (first | exact @False.elim _ | intro hc)))
      exact finV_lit vv (by first | rfl | rw [hz])
    · have hf2 : (x.st.length : Int) < c.f := by omega
      clear hf he
      repeat' (with_reducible first | refine x_ops ?_ | refine wk ?_ | ((first | refine gd1 ?_ ?_ | refine gd2 ?_ ?_ | refine gd3 ?_ ?_) <;> (first | exact @False.elim _ | intro hc)))
      exact finV_lit vv (by first | rfl | rw [hz])
  have hf1 : ¬ c.f < 0 := by omega
  have hf2 : ¬ (x.st.length : Int) < c.f := by omega
  by_cases hp1 : c.p < 0
  · have he : crsE x.st c = 10 := by rw [crsE, if_neg hf, if_pos (.inl hp1)]
    have hz : chkI x = 10 := by rw [← bad.out (by rw [he]; decide), he]
    clear hf he
    repeat' (with_reducible first | refine x_ops ?_ | refine wk ?_ | ((first | refine gd1 ?_ ?_ | refine gd2 ?_ ?_ | refine gd3 ?_ ?_) <;> (first | exact @False.elim _ | intro hc)))
    exact finV_lit vv (by first | rfl | rw [hz])
  by_cases hp2 : 127 < c.p
  · have he : crsE x.st c = 10 := by rw [crsE, if_neg hf, if_pos (.inr (.inl hp2))]
    have hz : chkI x = 10 := by rw [← bad.out (by rw [he]; decide), he]
    clear hf he
    repeat' (with_reducible first | refine x_ops ?_ | refine wk ?_ | ((first | refine gd1 ?_ ?_ | refine gd2 ?_ ?_ | refine gd3 ?_ ?_) <;> (first | exact @False.elim _ | intro hc)))
    exact finV_lit vv (by first | rfl | rw [hz])
  have H := highest_fn x c (by omega) (by omega) (fun i hi => ⟨(hall.out i hi).1, (hall.out i hi).2.1⟩) hl18.out
  by_cases ht : 127 < topC x.st c
  · have he : crsE x.st c = 10 := by rw [crsE, if_neg hf, if_pos (.inr (.inr ht))]
    have hz : chkI x = 10 := by rw [← bad.out (by rw [he]; decide), he]
    clear hf he
    repeat' (with_reducible first | refine x_ops ?_ | refine wk ?_ | (with_reducible refine xc (H) ?_) | ((first | refine gd1 ?_ ?_ | refine gd2 ?_ ?_ | refine gd3 ?_ ?_) <;> (first | exact @False.elim _ | intro hc)))
    exact finV_lit vv (by first | rfl | rw [hz])
  · have he : crsE x.st c = 0 := by rw [crsE, if_neg hf, if_neg (by omega)]
    replace he := Hid.mk he
    clear hf
    repeat' (with_reducible first | refine x_ops ?_ | refine wk ?_ | (with_reducible refine xc (H) ?_) | ((first | refine gd1 ?_ ?_ | refine gd2 ?_ ?_ | refine gd3 ?_ ?_) <;> (first | exact @False.elim _ | intro hc)))
    refine nx hlt0.out ⟨vv, ⟨?_, ?_⟩, step.out he.out⟩
    · exact (put_other _ _ (by omega)).trans ((put_other _ _ (by omega)).trans hm)
    · show 0 < m.next + 4
      omega
end Go.Proofs.YtdefefeifcdogaaGreat
namespace Go.Proofs.YtdefefeifcdogaaGreat
open Go.RowKit
set_option linter.unusedSimpArgs false
set_option linter.unusedVariables false

set_option maxHeartbeats 1000000 in
theorem richeck_fn (x : Ins) : Fn Tryz.prog Gd 73 [x.val] (vint (chkI x)) := by
  refine Fn.of_vx0 k_theorboref01_Check (by simp) (by rw [V.pures, pure_ins]; rfl) ?_
  unfold c_theorboref01_Check
  by_cases h1 : 14 < x.cs.length
  · have c1 : (14 : Int) < (x.cs.length : Int) := by omega
    have hq : chkI x = 2 := by rw [chkI, if_pos (.inl h1)]
    clear h1
    repeat' (with_reducible first | refine x_ops ?_ | refine wk ?_ | ((first | refine gd1 ?_ ?_ | refine gd2 ?_ ?_ | refine gd3 ?_ ?_) <;> (first | exact @False.elim _ | intro hc)))
    exact finV_lit vv (by first | rfl | rw [hq])
  by_cases h2 : 18 < x.st.length
  · have c1 : ¬ (14 : Int) < (x.cs.length : Int) := by omega
    have c2 : (18 : Int) < (x.st.length : Int) := by omega
    have hq : chkI x = 2 := by rw [chkI, if_pos (.inr h2)]
    clear h1 h2
    repeat' (with_reducible first | refine x_ops ?_ | refine wk ?_ | ((first | refine gd1 ?_ ?_ | refine gd2 ?_ ?_ | refine gd3 ?_ ?_) <;> (first | exact @False.elim _ | intro hc)))
    exact finV_lit vv (by first | rfl | rw [hq])
  have c1 : ¬ (14 : Int) < (x.cs.length : Int) := by omega
  have c2 : ¬ (18 : Int) < (x.st.length : Int) := by omega
  by_cases h3 : x.cs.length = 0
  · have hq : chkI x = 11 := by rw [chkI, if_neg (by omega), if_pos h3]
    have c3 : ((x.cs.length : Int) == 0) = true := by rw [beq_iff_eq]; omega
    clear h1 h2 h3
    repeat' (with_reducible first | refine x_ops ?_ | refine wk ?_ | ((first | refine gd1 ?_ ?_ | refine gd2 ?_ ?_ | refine gd3 ?_ ?_) <;> (first | exact @False.elim _ | intro hc)))
    exact finV_lit vv (by first | rfl | rw [hq])
  have c3 : ((x.cs.length : Int) == 0) = false := by rw [beq_eq_false_iff_ne]; omega
  have hq : chkI x = if stB x.st = true then firE (crsE x.st) x.cs else 11 := by rw [chkI, if_neg (by omega), if_neg h3]
  replace hq := Hid.mk hq
  have hl14 : x.cs.length ≤ 14 := by omega
  have hl18 : x.st.length ≤ 18 := by omega
  clear h1 h2 h3
  replace hl14 := Hid.mk hl14
  replace hl18 := Hid.mk hl18
  repeat' (with_reducible first | refine x_ops ?_ | refine wk ?_ | ((first | refine gd1 ?_ ?_ | refine gd2 ?_ ?_ | refine gd3 ?_ ?_) <;> (first | exact @False.elim _ | intro hc)))
  refine x_loopF w_theorboref01_Check_p7 kr x.st.length (fun k t => t 4 = vint k ∧ t 3 = vint (lastS x.st k) ∧ ∀ i, i < k → lastS x.st i < x.st.getD i 0 ∧ x.st.getD i 0 ≤ 127) ?_ ?_
  · exact ⟨vv, vv, fun i h => by omega⟩
  rintro k t hk ⟨h25, h3, hI⟩
  replace hI := Hid.mk hI
  by_cases hlt : k < x.st.length
  · have g1 := ints_at (l := x.st) (k := k) hlt
    have c4 : (k : Int) < (x.st.length : Int) := by omega
    have w2 := w_add1 (k := k) (by have := hl18.out; omega)
    have hlt0 := Hid.mk hlt
    have hnext : lastS x.st (k + 1) = x.st.getD k 0 := by rw [lastS, if_neg (by omega), Nat.add_sub_cancel]
    replace hnext := Hid.mk hnext
    have bad : ¬ (lastS x.st k < x.st.getD k 0 ∧ x.st.getD k 0 ≤ 127) → (11 : Int) = chkI x := fun h => by
      rw [hq.out, if_neg]
      rw [stB, allB_iff]
      intro h'
      exact h (by simpa using h' k hlt)
    replace bad := Hid.mk bad
    clear hlt hk
    generalize hy : x.st.getD k 0 = y at *
    replace hy := Hid.mk hy
    generalize hz : lastS x.st k = z at *
    replace hz := Hid.mk hz
    repeat' (with_reducible first | refine x_ops ?_ | refine wk ?_ | ((first | refine gd1 ?_ ?_ | refine gd2 ?_ ?_ | refine gd3 ?_ ?_) <;> (first | exact @False.elim _ | intro hc)))
    all_goals first
      | (refine nf hlt0.out ⟨vv, ?_, fun i hi => ?_⟩ rfl
         · rw [hnext.out]; exact vv
         · by_cases e : i = k
           · subst e; rw [hy.out, hz.out]; omega
           · exact hI.out i (by omega))
      | (refine finV_lit vv ?_
         rw [bad.out (by omega)])
  have c4 : ¬ ((k : Int) < (x.st.length : Int)) := by omega
  have hst : stB x.st = true := by
    rw [stB, allB_iff]
    intro i hi
    simpa using hI.out i (by omega)
  have hall := stB_all hst
  replace hq : Hid (chkI x = firE (crsE x.st) x.cs) := Hid.mk (by rw [hq.out, if_pos hst])
  clear hI hlt hk hst h3
  replace hall := Hid.mk hall
  repeat' (with_reducible first | refine x_ops ?_ | refine wk ?_ | ((first | refine gd1 ?_ ?_ | refine gd2 ?_ ?_ | refine gd3 ?_ ?_) <;> (first | exact @False.elim _ | intro hc)))
  refine x_loopW w_theorboref01_Check_p22 kr x.cs.length (fun k t m => t 5 = vint k ∧ (m.obj 0 = some (.box [.sl x.cs.length (x.cs.flatMap Crs.cells) .no, .sl x.st.length (x.st.map vint) .no] 25) ∧ 0 < m.next) ∧ ∀ i, i < k → crsE x.st (x.cs.getD i default) = 0) ?_ ?_
  · exact ⟨vv, ⟨vv, by show 0 < 2; omega⟩, fun i h => by omega⟩
  clear c4 h25
  rintro k t m hk ⟨h41, ⟨hm, hn⟩, hI⟩
  replace hI := Hid.mk hI
  by_cases hlt : k < x.cs.length
  case neg =>
    have c4 : ¬ ((k : Int) < (x.cs.length : Int)) := by omega
    have hz : chkI x = 0 := by rw [hq.out]; exact firE_none fun i hi => hI.out i (by omega)
    clear hlt hk
    repeat' (with_reducible first | refine x_ops ?_ | refine wk ?_ | ((first | refine gd1 ?_ ?_ | refine gd2 ?_ ?_ | refine gd3 ?_ ?_) <;> (first | exact @False.elim _ | intro hc)))
    exact finV_lit vv (by first | rfl | rw [hz])
  have g1 := crs_take (l := x.cs) (k := k) hlt
  have hL := crss_len x.cs
  have c4 : (k : Int) < (x.cs.length : Int) := by omega
  have c5 : k * 3 + 3 ≤ x.cs.length * 3 := by omega
  have w2 := w_add1 (k := k) (by have := hl14.out; omega)
  have x2 : ¬ (0 : Nat) = m.next + 5 := by omega
  have hlt0 := Hid.mk hlt
  have bad : crsE x.st (x.cs.getD k default) ≠ 0 → crsE x.st (x.cs.getD k default) = chkI x := fun h => by rw [hq.out]; exact (firE_at hlt h hI.out).symm
  have step : crsE x.st (x.cs.getD k default) = 0 → ∀ i, i < k + 1 → crsE x.st (x.cs.getD i default) = 0 := fun h i hi => by
    by_cases e : i = k
    · subst e; exact h
    · exact hI.out i (by omega)
  replace bad := Hid.mk bad
  replace step := Hid.mk step
  replace hn := Hid.mk hn
  clear hlt hk
  generalize x.cs.getD k default = c at *
  obtain ⟨p, f, o⟩ := c
  dsimp only at g1
  by_cases hf : f < 0 ∨ (x.st.length : Int) < f
  · have he : crsE x.st ⟨p, f, o⟩ = 13 := by rw [crsE, if_pos hf]
    have hz : chkI x = 13 := by rw [← bad.out (by rw [he]; decide), he]
    by_cases hf1 : f < 0
    · clear hf he
      repeat' (with_reducible first | refine x_ops ?_ | refine wk ?_ | ((first | refine gd1 ?_ ?_ | refine gd2 ?_ ?_ | refine gd3 ?_ ?_) <;> (first | exact @False.elim _ | intro hc)))
      exact finV_lit vv (by first | rfl | rw [hz])
    · have hf2 : (x.st.length : Int) < f := by omega
      clear hf he
      repeat' (with_reducible first | refine x_ops ?_ | refine wk ?_ | ((first | refine gd1 ?_ ?_ | refine gd2 ?_ ?_ | refine gd3 ?_ ?_) <;> (first | exact @False.elim _ | intro hc)))
      exact finV_lit vv (by first | rfl | rw [hz])
  have hf1 : ¬ f < 0 := by omega
  have hf2 : ¬ (x.st.length : Int) < f := by omega
  by_cases hp1 : p < 0
  · have he : crsE x.st ⟨p, f, o⟩ = 10 := by rw [crsE, if_neg hf, if_pos (.inl hp1)]
    have hz : chkI x = 10 := by rw [← bad.out (by rw [he]; decide), he]
    clear hf he
    repeat' (with_reducible first | refine x_ops ?_ | refine wk ?_ | ((first | refine gd1 ?_ ?_ | refine gd2 ?_ ?_ | refine gd3 ?_ ?_) <;> (first | exact @False.elim _ | intro hc)))
    exact finV_lit vv (by first | rfl | rw [hz])
  by_cases hp2 : 127 < p
  · have he : crsE x.st ⟨p, f, o⟩ = 10 := by rw [crsE, if_neg hf, if_pos (.inr (.inl hp2))]
    have hz : chkI x = 10 := by rw [← bad.out (by rw [he]; decide), he]
    clear hf he
    repeat' (with_reducible first | refine x_ops ?_ | refine wk ?_ | ((first | refine gd1 ?_ ?_ | refine gd2 ?_ ?_ | refine gd3 ?_ ?_) <;> (first | exact @False.elim _ | intro hc)))
    exact finV_lit vv (by first | rfl | rw [hz])
  obtain ⟨n, rfl⟩ : ∃ n : Nat, f = n := ⟨f.toNat, by omega⟩
  have hlow : topC x.st ⟨p, n, o⟩ ≤ 127 → crsE x.st ⟨p, n, o⟩ = 0 := fun h => by
    rw [crsE, if_neg hf, if_neg]
    rintro (h1 | h1 | h1)
    · exact hp1 h1
    · exact hp2 h1
    · omega
  have hhigh : 127 < topC x.st ⟨p, n, o⟩ → chkI x = 10 := fun h => by
    have he : crsE x.st ⟨p, n, o⟩ = 10 := by rw [crsE, if_neg hf, if_pos (.inr (.inr h))]
    rw [← bad.out (by rw [he]; decide), he]
  replace hlow := Hid.mk hlow
  replace hhigh := Hid.mk hhigh
  by_cases h0 : 0 < n
  · have c6 : (0 : Int) < (n : Int) := by omega
    have g2 := ints_at (l := x.st) (k := n - 1) (by omega)
    have c7 : ((n - 1 : Nat) : Int) < (x.st.length : Int) := by omega
    have w1 := w_sub1 (k := n) h0 (by have := hl18.out; omega)
    have h1 := hall.out (n - 1) (by omega)
    have hqt : topC x.st ⟨p, n, o⟩ = p + x.st.getD (n - 1) 0 + (if o = true then 12 else 0) := by
      rw [topC, if_pos (by show (0 : Int) < n; omega)]
      show p + x.st.getD ((n : Int) - 1).toNat 0 + _ = _
      rw [show ((n : Int) - 1).toNat = n - 1 by omega]
    have w3 : IntKind.i64.wrap (p + x.st.getD (n - 1) 0) = p + x.st.getD (n - 1) 0 := w_in (by omega)
    have w4 : IntKind.i64.wrap (p + x.st.getD (n - 1) 0 + 12) = p + x.st.getD (n - 1) 0 + 12 := w_in (by omega)
    replace h1 := Hid.mk h1
    replace hqt := Hid.mk hqt
    replace hf := Hid.mk hf
    clear h0
    generalize x.st.getD (n - 1) 0 = y at *
    cases o
    all_goals repeat' (with_reducible first | refine x_ops ?_ | refine wk ?_ | ((first | refine gd1 ?_ ?_ | refine gd2 ?_ ?_ | refine gd3 ?_ ?_) <;> (first | exact @False.elim _ | intro hc)))
    all_goals first
      | (refine nx hlt0.out ⟨vv, ⟨?_, ?_⟩, step.out (hlow.out ?_)⟩
         · have := hn.out
           exact (put_other _ _ (by omega)).trans ((put_other _ _ (by omega)).trans hm)
         · show 0 < m.next + 7
           omega
         · rw [hqt.out]
           first
             | (rw [if_pos rfl]; omega)
             | (rw [if_neg (by decide)]; omega))
      | (refine finV_lit vv ?_
         rw [hhigh.out]
         rw [hqt.out]
         first
           | (rw [if_pos rfl]; omega)
           | (rw [if_neg (by decide)]; omega))
  · have c6 : ¬ (0 : Int) < (n : Int) := by omega
    have hqt : topC x.st ⟨p, n, o⟩ = p + (if o = true then 12 else 0) := by
      rw [topC, if_neg (by show ¬ (0 : Int) < n; omega), Int.add_zero]
    have w4 : IntKind.i64.wrap (p + 12) = p + 12 := w_in (by omega)
    replace hqt := Hid.mk hqt
    replace hf := Hid.mk hf
    clear h0
    cases o
    all_goals repeat' (with_reducible first | refine x_ops ?_ | refine wk ?_ | ((first | refine gd1 ?_ ?_ | refine gd2 ?_ ?_ | refine gd3 ?_ ?_) <;> (first | exact @False.elim _ | intro hc)))
    all_goals first
      | (refine nx hlt0.out ⟨vv, ⟨?_, ?_⟩, step.out (hlow.out ?_)⟩
         · have := hn.out
           exact (put_other _ _ (by omega)).trans ((put_other _ _ (by omega)).trans hm)
         · show 0 < m.next + 7
           omega
         · rw [hqt.out]
           first
             | (rw [if_pos rfl]; omega)
             | (rw [if_neg (by decide)]; omega))
      | (refine finV_lit vv ?_
         rw [hhigh.out]
         rw [hqt.out]
         first
           | (rw [if_pos rfl]; omega)
           | (rw [if_neg (by decide)]; omega))
end Go.Proofs.YtdefefeifcdogaaGreat
namespace Go.Proofs.YtdefefeifcdogaaGreat
open Go.RowKit
set_option linter.unusedSimpArgs false
set_option linter.unusedVariables false

/-- A valid cell of a course with some frets. -/
structure CelOk (l : List Int) (fr : Int) (tie : Bool) : Prop where
  ris : risI l = true
  lo : -1 ≤ l.getD 0 0
  hi : l.getD (l.length - 1) 0 ≤ fr
  ti : tie = true → l.getD (l.length - 1) 0 ≤ -1
/-- A valid column for an instrument. -/
structure ClmOk (x : Ins) (c : Clm) : Prop where
  len : c.ce.length = x.cs.length
  ris : risS c.sgs = true
  tks : (c.sgs.any fun s => tkS s == 0) = false
  cel : ∀ i, i < c.ce.length → CelOk (c.ce.getD i []) (x.cs.getD i default).f c.tie
theorem risI_pos {l : List Int} (h : risI l = true) : 0 < l.length := by rw [risI, Bool.and_eq_true] at h; simpa using h.2
theorem risI_lt {l : List Int} (h : risI l = true) : ∀ i, i + 1 < l.length → l.getD i 0 < l.getD (i + 1) 0 := fun i hi => by
  rw [risI, Bool.and_eq_true, allB_iff] at h; simpa using h.1 i (by omega)
theorem risS_pos {l : List Sg} (h : risS l = true) : 0 < l.length := by rw [risS, Bool.and_eq_true] at h; simpa using h.2

/-- What fits in memory. -/
structure ClmSm (c : Clm) : Prop where
  ls : c.sgs.length ≤ 17592186044416
  lc : c.ce.length ≤ 17592186044416
  le : ∀ i, i < c.ce.length → (c.ce.getD i []).length ≤ 17592186044416

end Go.Proofs.YtdefefeifcdogaaGreat
namespace Go.Proofs.YtdefefeifcdogaaGreat
open Go.RowKit
set_option linter.unusedSimpArgs false
set_option linter.unusedVariables false

theorem ris_mono {l : List Int} (h : ∀ i, i + 1 < l.length → l.getD i 0 < l.getD (i + 1) 0) (i : Nat) : ∀ j, i ≤ j → j < l.length → l.getD i 0 + ((j - i : Nat) : Int) ≤ l.getD j 0
  | 0, h1, h2 => by have : i = 0 := by omega
                    subst this; simp
  | j + 1, h1, h2 => by
    by_cases e : i = j + 1
    · subst e; simp
    · have h3 := ris_mono h i j (by omega) (by omega)
      have h4 := h j h2
      omega
theorem CelOk.all {l : List Int} {fr : Int} {tie : Bool} (h : CelOk l fr tie) : 0 < l.length ∧ (tie = true → l.length = 1 ∧ l.getD 0 0 = -1) ∧ ∀ j, j < l.length → -1 ≤ l.getD j 0 ∧ l.getD j 0 ≤ fr ∧ (0 < j → l.getD (j - 1) 0 < l.getD j 0) := by
  have hp := risI_pos h.ris
  have hm := ris_mono (risI_lt h.ris)
  have h1 := h.lo
  have h2 := h.hi
  refine ⟨hp, fun ht => ?_, fun j hj => ⟨?_, ?_, fun h0 => ?_⟩⟩
  · have h3 := h.ti ht
    have h4 := hm 0 (l.length - 1) (by omega) (by omega)
    omega
  · have h4 := hm 0 j (by omega) hj
    omega
  · have h4 := hm j (l.length - 1) (by omega) (by omega)
    omega
  · have h4 := risI_lt h.ris (j - 1) (by omega)
    rwa [Nat.sub_add_cancel h0] at h4
theorem CelOk.of {l : List Int} {fr : Int} {tie : Bool} (h0 : 0 < l.length) (ht : tie = true → l.length = 1 ∧ l.getD 0 0 = -1) (h : ∀ j, j < l.length → -1 ≤ l.getD j 0 ∧ l.getD j 0 ≤ fr ∧ (0 < j → l.getD (j - 1) 0 < l.getD j 0)) : CelOk l fr tie where
  ris := by
    rw [risI, decide_eq_true h0, Bool.and_true]
    exact allB_true fun i hi => decide_eq_true (by have := (h (i + 1) (by omega)).2.2 (by omega); simpa using this)
  lo := (h 0 h0).1
  hi := (h (l.length - 1) (by omega)).2.1
  ti := fun e => by have := ht e; rw [this.1]; show l.getD 0 0 ≤ -1; omega
theorem ClmOk.sgs {x : Ins} {c : Clm} (h : ClmOk x c) : 0 < c.sgs.length ∧ ∀ i, i < c.sgs.length → tkS (c.sgs.getD i default) ≠ 0 ∧ (0 < i → befS (c.sgs.getD (i - 1) default) (c.sgs.getD i default) = true) := by
  refine ⟨risS_pos h.ris, fun i hi => ⟨fun e => ?_, fun h0 => ?_⟩⟩
  · have := List.any_eq_false.1 h.tks (c.sgs.getD i default) (by rw [List.getD_eq_getElem?_getD, List.getElem?_eq_getElem hi]; exact List.getElem_mem hi)
    rw [e] at this
    exact this rfl
  · have h1 := h.ris
    rw [risS, Bool.and_eq_true, allB_iff] at h1
    have := h1.1 (i - 1) (by omega)
    rwa [Nat.sub_add_cancel h0] at this

end Go.Proofs.YtdefefeifcdogaaGreat
namespace Go.Proofs.YtdefefeifcdogaaGreat
open Go.RowKit
set_option linter.unusedSimpArgs false
set_option linter.unusedVariables false

/-- What fits in memory. -/
structure LfSm (f : Lf) : Prop where
  n : f.cols.length ≤ 17592186044416
  c : ∀ i, i < f.cols.length → ClmSm (f.cols.getD i default)
end Go.Proofs.YtdefefeifcdogaaGreat
namespace Go.Proofs.YtdefefeifcdogaaGreat
open Go.RowKit
set_option linter.unusedSimpArgs false
set_option linter.unusedVariables false

structure Hand where
  low : List Int
  high : List Int
  barre : List Bool
  top : Int
  jump : Int
  shift : Int
  lift : Int
  bar : Int
  stretch : Int
  slide : Int
def Hand.val (h : Hand) : V := .agg [tIs h.low, tIs h.high, tBs h.barre, vint h.top, vint h.jump, vint h.shift, vint h.lift, vint h.bar, vint h.stretch, vint h.slide]
end Go.Proofs.YtdefefeifcdogaaGreat
namespace Go.Proofs.YtdefefeifcdogaaGreat
open Go.RowKit
set_option linter.unusedSimpArgs false
set_option linter.unusedVariables false

structure Rls where
  hand : Hand
  meas : Int
  conc : Bool
def Rls.val (r : Rls) : V := .agg [tIs r.hand.low, tIs r.hand.high, tBs r.hand.barre, vint r.hand.top, vint r.hand.jump, vint r.hand.shift, vint r.hand.lift, vint r.hand.bar, vint r.hand.stretch, vint r.hand.slide, vint r.meas, vbool r.conc]
attribute [go_sem] Rls.val Hand.val
theorem clone_fn (l : List Int) (hl : l.length ≤ 1099511627776) : Fn Tryz.prog Gd 135 [tIs l] (tIs l) := by
  refine Fn.of_vx0 k_slices_Clone_int_int (by simp) (by rw [V.pures, pure_tIs]; rfl) ?_
  unfold c_slices_Clone_int_int tIs
  repeat' (with_reducible first | refine x_ops ?_ | refine wk ?_ | ((first | refine gd1 ?_ ?_ | refine gd2 ?_ ?_ | refine gd3 ?_ ?_) <;> (first | exact @False.elim _ | intro hc)))
  refine x_eqN (by exact vw) ?_
  intro b hb
  cases b
  · repeat' (with_reducible first | refine x_ops ?_ | refine wk ?_ | ((first | refine gd1 ?_ ?_ | refine gd2 ?_ ?_ | refine gd3 ?_ ?_) <;> (first | exact @False.elim _ | intro hc)))
    refine x_appE (xs := []) (n := 0) vw vw rfl (by simp) (by omega) (by unfold Go.maxLen; omega) ?_
    repeat' (with_reducible first | refine x_ops ?_ | refine wk ?_ | ((first | refine gd1 ?_ ?_ | refine gd2 ?_ ?_ | refine gd3 ?_ ?_) <;> (first | exact @False.elim _ | intro hc)))
    exact finV_ret vv (.sl _ _ _)
  · have hl0 : l = [] := by cases l with
      | nil => rfl
      | cons a l => exact absurd (hb (by simp)) (by simp)
    subst hl0
    repeat' (with_reducible first | refine x_ops ?_ | refine wk ?_ | ((first | refine gd1 ?_ ?_ | refine gd2 ?_ ?_ | refine gd3 ?_ ?_) <;> (first | exact @False.elim _ | intro hc)))
    exact finV_ret vv (.sl _ _ _)
theorem clonec_fn (l : List Crs) (hl : l.length ≤ 1099511627776) : Fn Tryz.prog Gd 134 [tL Crs.cells l] (tL Crs.cells l) := by
  refine Fn.of_vx0 k_slices_Clone_api_Course_api_Course (by simp) (by rw [V.pures, pure_tL]; rfl) ?_
  unfold c_slices_Clone_api_Course_api_Course tL
  repeat' (with_reducible first | refine x_ops ?_ | refine wk ?_ | ((first | refine gd1 ?_ ?_ | refine gd2 ?_ ?_ | refine gd3 ?_ ?_) <;> (first | exact @False.elim _ | intro hc)))
  refine x_eqN (by exact vw) ?_
  intro b hb
  cases b
  · repeat' (with_reducible first | refine x_ops ?_ | refine wk ?_ | ((first | refine gd1 ?_ ?_ | refine gd2 ?_ ?_ | refine gd3 ?_ ?_) <;> (first | exact @False.elim _ | intro hc)))
    refine x_appE (xs := []) (n := 0) vw vw rfl (crss_len l) (by omega) (by unfold Go.maxLen; omega) ?_
    repeat' (with_reducible first | refine x_ops ?_ | refine wk ?_ | ((first | refine gd1 ?_ ?_ | refine gd2 ?_ ?_ | refine gd3 ?_ ?_) <;> (first | exact @False.elim _ | intro hc)))
    exact finV_ret vv (.sl _ _ _)
  · have hl0 : l = [] := by cases l with
      | nil => rfl
      | cons a l => exact absurd (hb (by simp [Crs.cells])) (by simp)
    subst hl0
    repeat' (with_reducible first | refine x_ops ?_ | refine wk ?_ | ((first | refine gd1 ?_ ?_ | refine gd2 ?_ ?_ | refine gd3 ?_ ?_) <;> (first | exact @False.elim _ | intro hc)))
    exact finV_ret vv (.sl _ _ _)
theorem copied_fn (x : Ins) (h1 : x.cs.length ≤ 1099511627776) (h2 : x.st.length ≤ 1099511627776) : Fn Tryz.prog Gd 63 [x.val] x.val := by
  refine Fn.of_vx0 k_leaf_copied (by simp) (by rw [V.pures, pure_ins]; rfl) ?_
  have A := clonec_fn x.cs h1
  have B := clone_fn x.st h2
  unfold c_leaf_copied
  repeat' (with_reducible first | refine x_ops ?_ | refine wk ?_ | (with_reducible refine xc (A) ?_) | (with_reducible refine xc (B) ?_) | ((first | refine gd1 ?_ ?_ | refine gd2 ?_ ?_ | refine gd3 ?_ ?_) <;> (first | exact @False.elim _ | intro hc)))
  exact finV_ret vv (.agg (.cons (.sl _ _ _) (.cons (.sl _ _ _) .nil)))
theorem rcopy_fn (x : Ins) (h1 : x.cs.length ≤ 1099511627776) (h2 : x.st.length ≤ 1099511627776) : Fn Tryz.prog Gd 139 [x.val] x.val := by
  refine Fn.of_vx0 k_theorboref01_Copy (by simp) (by rw [V.pures, pure_ins]; rfl) ?_
  unfold c_theorboref01_Copy
  repeat' (with_reducible first | refine x_ops ?_ | refine wk ?_ | ((first | refine gd1 ?_ ?_ | refine gd2 ?_ ?_ | refine gd3 ?_ ?_) <;> (first | exact @False.elim _ | intro hc)))
  refine x_appE (xs := []) (n := 0) vw vw rfl (crss_len x.cs) (by omega) (by unfold Go.maxLen; omega) ?_
  repeat' (with_reducible first | refine x_ops ?_ | refine wk ?_ | ((first | refine gd1 ?_ ?_ | refine gd2 ?_ ?_ | refine gd3 ?_ ?_) <;> (first | exact @False.elim _ | intro hc)))
  refine x_appE (xs := []) (n := 0) vw vw rfl (by simp) (by omega) (by unfold Go.maxLen; omega) ?_
  repeat' (with_reducible first | refine x_ops ?_ | refine wk ?_ | ((first | refine gd1 ?_ ?_ | refine gd2 ?_ ?_ | refine gd3 ?_ ?_) <;> (first | exact @False.elim _ | intro hc)))
  exact finV_ret vv (.agg (.cons (.sl _ _ _) (.cons (.sl _ _ _) .nil)))
end Go.Proofs.YtdefefeifcdogaaGreat
namespace Go.Proofs.YtdefefeifcdogaaGreat
open Go.RowKit
set_option linter.unusedSimpArgs false
set_option linter.unusedVariables false

/-- A reading. -/
structure Rdg where
  sg : Sg
  ns : List Int
deriving Inhabited, DecidableEq
def Rdg.cells (r : Rdg) : List V := [vint r.sg.v, vbool r.sg.d, vbool r.sg.t, tIs r.ns]
def Rdg.val (r : Rdg) : V := .agg r.cells
attribute [go_sem] Rdg.cells Rdg.val
end Go.Proofs.YtdefefeifcdogaaGreat
namespace Go.Proofs.YtdefefeifcdogaaGreat
open Go.RowKit
set_option linter.unusedSimpArgs false
set_option linter.unusedVariables false

theorem lst_eq {α : Type} [Inhabited α] {l l' : List α} (hl : l.length = l'.length) (h : ∀ i, i < l.length → l.getD i default = l'.getD i default) : l = l' := by
  apply List.ext_getElem hl
  intro i h1 h2
  have := h i h1
  rwa [List.getD_eq_getElem?_getD, List.getElem?_eq_getElem h1, List.getD_eq_getElem?_getD, List.getElem?_eq_getElem h2] at this
theorem getD_mem {α : Type} [Inhabited α] {l : List α} {i : Nat} (h : i < l.length) : l.getD i default ∈ l := by
  rw [List.getD_eq_getElem?_getD, List.getElem?_eq_getElem h]; exact List.getElem_mem h
theorem rsameI_fn (x y : Ins) (hx1 : x.cs.length ≤ 17592186044416) (hx2 : x.st.length ≤ 17592186044416) : Fn Tryz.prog Gd 70 [x.val, y.val] (vbool (decide (x = y))) := by
  refine Fn.of_vx0 k_theorboref01_Same (by simp) (by rw [V.pures, pure_ins, V.pures, pure_ins]; rfl) ?_
  unfold c_theorboref01_Same
  by_cases h1 : x.cs.length = y.cs.length
  case neg =>
    have c1 : ((x.cs.length : Int) == (y.cs.length : Int)) = false := by rw [beq_eq_false_iff_ne]; omega
    rw [decide_eq_false fun e => h1 (by rw [e])]
    clear h1
    repeat' (with_reducible first | refine x_ops ?_ | refine wk ?_ | ((first | refine gd1 ?_ ?_ | refine gd2 ?_ ?_ | refine gd3 ?_ ?_) <;> (first | exact @False.elim _ | intro hc)))
    exact finV_lit vv rfl
  have c1 : ((x.cs.length : Int) == (y.cs.length : Int)) = true := by rw [beq_iff_eq]; omega
  by_cases h2 : x.st.length = y.st.length
  case neg =>
    have c2 : ((x.st.length : Int) == (y.st.length : Int)) = false := by rw [beq_eq_false_iff_ne]; omega
    rw [decide_eq_false fun e => h2 (by rw [e])]
    clear h1 h2
    repeat' (with_reducible first | refine x_ops ?_ | refine wk ?_ | ((first | refine gd1 ?_ ?_ | refine gd2 ?_ ?_ | refine gd3 ?_ ?_) <;> (first | exact @False.elim _ | intro hc)))
    exact finV_lit vv rfl
  have c2 : ((x.st.length : Int) == (y.st.length : Int)) = true := by rw [beq_iff_eq]; omega
  have hy1 := Hid.mk h1
  have hy2 := Hid.mk h2
  have hdec : decide (x = y) = true ↔ x = y := decide_eq_true_iff
  replace hdec := Hid.mk hdec
  clear h1 h2
  repeat' (with_reducible first | refine x_ops ?_ | refine wk ?_ | ((first | refine gd1 ?_ ?_ | refine gd2 ?_ ?_ | refine gd3 ?_ ?_) <;> (first | exact @False.elim _ | intro hc)))
  clear c1 c2
  refine x_loopF w_theorboref01_Same_p5 kr x.cs.length (fun k t => t 5 = vint k ∧ ∀ i, i < k → x.cs.getD i default = y.cs.getD i default) ?_ ?_
  · exact ⟨vv, fun i h => by omega⟩
  rintro k t hk ⟨h5, hI⟩
  replace hI := Hid.mk hI
  by_cases hlt : k < x.cs.length
  case pos =>
    have g1 := crs_take (l := x.cs) (k := k) hlt
    have g2 := crs_take (l := y.cs) (k := k) (by have := hy1.out; omega)
    have hL1 := crss_len x.cs
    have hL2 := crss_len y.cs
    have c1 : (k : Int) < (x.cs.length : Int) := by omega
    have c2 : (k : Int) < (y.cs.length : Int) := by have := hy1.out; omega
    have c3 : k * 3 + 3 ≤ x.cs.length * 3 := by omega
    have c4 : k * 3 + 3 ≤ y.cs.length * 3 := by have := hy1.out; omega
    have w1 := w_add1 (k := k) (by omega)
    have hlt0 := Hid.mk hlt
    have hne : x.cs.getD k default ≠ y.cs.getD k default → x ≠ y := fun h e => h (by rw [e])
    replace hne := Hid.mk hne
    generalize ha : x.cs.getD k default = a at *
    generalize hb : y.cs.getD k default = b at *
    replace ha := Hid.mk ha
    replace hb := Hid.mk hb
    obtain ⟨a1, a2, a3⟩ := a
    obtain ⟨b1, b2, b3⟩ := b
    clear hlt hk
    by_cases e1 : a1 = b1
    case neg =>
      have d1 : (a1 == b1) = false := by rw [beq_eq_false_iff_ne]; exact e1
      rw [decide_eq_false (hne.out fun e => e1 (by injection e))]
      clear e1
      repeat' (with_reducible first | refine x_ops ?_ | simp only [go_sem, Nat.reduceAdd, Nat.reduceEqDiff, Nat.reduceLT, Nat.reduceLeDiff, Nat.reduceMul, Nat.reduceSub, Nat.reducePow, Nat.reduceDiv, Nat.reduceMod, Nat.reduceBEq, Int.reduceBEq, Int.reduceLT, reduceIte, tIs, tBs, tPs, Bool.false_and, *] | ((first | refine gd1 ?_ ?_ | refine gd2 ?_ ?_ | refine gd3 ?_ ?_) <;> (first | exact @False.elim _ | intro hc)))
      exact finV_lit vv rfl
    by_cases e2 : a2 = b2
    case neg =>
      have d1 : (a1 == b1) = true := by rw [beq_iff_eq]; exact e1
      have d2 : (a2 == b2) = false := by rw [beq_eq_false_iff_ne]; exact e2
      rw [decide_eq_false (hne.out fun e => e2 (by injection e))]
      clear e1 e2
      repeat' (with_reducible first | refine x_ops ?_ | simp only [go_sem, Nat.reduceAdd, Nat.reduceEqDiff, Nat.reduceLT, Nat.reduceLeDiff, Nat.reduceMul, Nat.reduceSub, Nat.reducePow, Nat.reduceDiv, Nat.reduceMod, Nat.reduceBEq, Int.reduceBEq, Int.reduceLT, reduceIte, tIs, tBs, tPs, Bool.false_and, Bool.true_and, *] | ((first | refine gd1 ?_ ?_ | refine gd2 ?_ ?_ | refine gd3 ?_ ?_) <;> (first | exact @False.elim _ | intro hc)))
      exact finV_lit vv rfl
    by_cases e3 : a3 = b3
    case neg =>
      have d1 : (a1 == b1) = true := by rw [beq_iff_eq]; exact e1
      have d2 : (a2 == b2) = true := by rw [beq_iff_eq]; exact e2
      have d3 : (a3 == b3) = false := by rw [beq_eq_false_iff_ne]; exact e3
      rw [decide_eq_false (hne.out fun e => e3 (by injection e))]
      clear e1 e2 e3
      repeat' (with_reducible first | refine x_ops ?_ | simp only [go_sem, Nat.reduceAdd, Nat.reduceEqDiff, Nat.reduceLT, Nat.reduceLeDiff, Nat.reduceMul, Nat.reduceSub, Nat.reducePow, Nat.reduceDiv, Nat.reduceMod, Nat.reduceBEq, Int.reduceBEq, Int.reduceLT, reduceIte, tIs, tBs, tPs, Bool.false_and, Bool.true_and, *] | ((first | refine gd1 ?_ ?_ | refine gd2 ?_ ?_ | refine gd3 ?_ ?_) <;> (first | exact @False.elim _ | intro hc)))
      exact finV_lit vv rfl
    subst e1 e2 e3
    repeat' (with_reducible first | refine x_ops ?_ | simp only [go_sem, Nat.reduceAdd, Nat.reduceEqDiff, Nat.reduceLT, Nat.reduceLeDiff, Nat.reduceMul, Nat.reduceSub, Nat.reducePow, Nat.reduceDiv, Nat.reduceMod, Nat.reduceBEq, Int.reduceBEq, Int.reduceLT, reduceIte, tIs, tBs, tPs, Bool.true_and, *] | ((first | refine gd1 ?_ ?_ | refine gd2 ?_ ?_ | refine gd3 ?_ ?_) <;> (first | exact @False.elim _ | intro hc)))
    refine nf hlt0.out ⟨vv, fun i hi => ?_⟩ rfl
    by_cases e : i = k
    · subst e; rw [ha.out, hb.out]
    · exact hI.out i (by omega)
  have c1 : ¬ ((k : Int) < (x.cs.length : Int)) := by omega
  have hcs : x.cs = y.cs := lst_eq hy1.out fun i hi => hI.out i (by omega)
  replace hcs := Hid.mk hcs
  clear hlt hk hI
  repeat' (with_reducible first | refine x_ops ?_ | refine wk ?_ | ((first | refine gd1 ?_ ?_ | refine gd2 ?_ ?_ | refine gd3 ?_ ?_) <;> (first | exact @False.elim _ | intro hc)))
  clear c1
  refine x_loopF w_theorboref01_Same_p10 kr x.st.length (fun k t => t 6 = vint k ∧ ∀ i, i < k → x.st.getD i default = y.st.getD i default) ?_ ?_
  · exact ⟨vv, fun i h => by omega⟩
  rintro k t hk ⟨h6, hI⟩
  replace hI := Hid.mk hI
  by_cases hlt : k < x.st.length
  case pos =>
    have g1 := ints_at (l := x.st) (k := k) hlt
    have g2 := ints_at (l := y.st) (k := k) (by have := hy2.out; omega)
    have c1 : (k : Int) < (x.st.length : Int) := by omega
    have c2 : (k : Int) < (y.st.length : Int) := by have := hy2.out; omega
    have w1 := w_add1 (k := k) (by omega)
    have hlt0 := Hid.mk hlt
    clear hlt hk
    by_cases e1 : x.st.getD k 0 = y.st.getD k 0
    case neg =>
      have d1 : (x.st.getD k 0 == y.st.getD k 0) = false := by rw [beq_eq_false_iff_ne]; exact e1
      rw [decide_eq_false fun e => e1 (by rw [e])]
      clear e1
      repeat' (with_reducible first | refine x_ops ?_ | refine wk ?_ | ((first | refine gd1 ?_ ?_ | refine gd2 ?_ ?_ | refine gd3 ?_ ?_) <;> (first | exact @False.elim _ | intro hc)))
      exact finV_lit vv rfl
    have d1 : (x.st.getD k 0 == y.st.getD k 0) = true := by rw [beq_iff_eq]; exact e1
    have e10 := Hid.mk e1
    clear e1
    repeat' (with_reducible first | refine x_ops ?_ | refine wk ?_ | ((first | refine gd1 ?_ ?_ | refine gd2 ?_ ?_ | refine gd3 ?_ ?_) <;> (first | exact @False.elim _ | intro hc)))
    refine nf hlt0.out ⟨vv, fun i hi => ?_⟩ rfl
    by_cases e : i = k
    · subst e; exact e10.out
    · exact hI.out i (by omega)
  have c1 : ¬ ((k : Int) < (x.st.length : Int)) := by omega
  have hst : x.st = y.st := lst_eq hy2.out fun i hi => hI.out i (by omega)
  have hxy : x = y := by
    obtain ⟨a, b⟩ := x; obtain ⟨a', b'⟩ := y
    have h1 := hcs.out
    dsimp only at h1 hst
    rw [h1, hst]
  rw [decide_eq_true hxy]
  clear hlt hk hI hst hxy
  repeat' (with_reducible first | refine x_ops ?_ | refine wk ?_ | ((first | refine gd1 ?_ ?_ | refine gd2 ?_ ?_ | refine gd3 ?_ ?_) <;> (first | exact @False.elim _ | intro hc)))
  exact finV_lit vv rfl
/-- What fits in memory. -/
structure PcSm (p : Pce) : Prop where
  n : p.es.length ≤ 17592186044416
  c : p.ins.cs.length ≤ 17592186044416
  s : p.ins.st.length ≤ 17592186044416
  e : ∀ i, i < p.es.length → (p.es.getD i default).ss.length ≤ 17592186044416
def Rls.cells (r : Rls) : List V := [tIs r.hand.low, tIs r.hand.high, tBs r.hand.barre, vint r.hand.top, vint r.hand.jump, vint r.hand.shift, vint r.hand.lift, vint r.hand.bar, vint r.hand.stretch, vint r.hand.slide, vint r.meas, vbool r.conc]
def Lf.cells (f : Lf) : List V := [tL Crs.cells f.ins.cs, tIs f.ins.st, tL Clm.cells f.cols]
/-- A leaf with rules. -/
def caseV (f : Lf) (r : Rls) : V := .agg (f.cells ++ r.cells)
attribute [go_sem] Rls.cells Lf.cells caseV
end Go.Proofs.YtdefefeifcdogaaGreat
namespace Go.Proofs.YtdefefeifcdogaaGreat
open Go.ChangeShapes Go.WideShapes Go.ChangeAt Go.RowKit
set_option maxRecDepth 100000

theorem laidOut : laidOutB Tryz.prog = true := by kernel_rfl
theorem ownK : ownKnob Tryz.prog.godebug = none := by kernel_rfl

/-! ### Data of the leaf's types -/
theorem dt_int {d : Dt} (h : d.ok .int) : ∃ n : Int, d.cells = [vint n] ∧ -9223372036854775808 ≤ n ∧ n ≤ 9223372036854775807 := by
  cases d <;> first | (rw [Dt.ok] at h; exact ⟨_, by rw [Dt.cells], h⟩) | (simp [Dt.ok] at h)
theorem dt_bool {d : Dt} (h : d.ok .bool) : ∃ n : Bool, d.cells = [vbool n] ∧ True := by
  cases d <;> first | (rw [Dt.ok] at h; exact ⟨_, by rw [Dt.cells], h⟩) | (simp [Dt.ok] at h)
theorem dt_list {α : Type} {t : Ty} {b : Nat} {d : Dt} {enc : α → List V} {Q : α → Prop} (h : d.ok (.sl t b)) (hdec : ∀ d : Dt, d.ok t → ∃ a, d.cells = enc a ∧ Q a) :
    ∃ l : List α, d.cells = [.sl l.length (l.flatMap enc) .no] ∧ l.length * b ≤ 140737488351232 ∧ ∀ a ∈ l, Q a := by
  cases d with
  | sl l =>
    rw [Dt.ok] at h
    obtain ⟨hb, he⟩ := h
    have gen : ∀ l : List Dt, (∀ d ∈ l, d.ok t) → ∃ xs : List α, xs.length = l.length ∧ Dt.cellsL l = xs.flatMap enc ∧ ∀ a ∈ xs, Q a := by
      intro l
      induction l with
      | nil => intro _; exact ⟨[], rfl, by rw [Dt.cellsL]; rfl, fun a ha => by cases ha⟩
      | cons d l ih =>
        intro he
        obtain ⟨a, h1, h2⟩ := hdec d (he d (List.mem_cons_self ..))
        obtain ⟨xs, h3, h4, h5⟩ := ih fun d hd => he d (List.mem_cons_of_mem _ hd)
        refine ⟨a :: xs, by simp [h3], by rw [Dt.cellsL, h1, h4]; rfl, fun x hx => ?_⟩
        rcases List.mem_cons.1 hx with rfl | hx
        · exact h2
        · exact h5 x hx
    obtain ⟨xs, h1, h2, h3⟩ := gen l he
    exact ⟨xs, by rw [Dt.cells, h2, h1], by rw [h1]; exact hb, h3⟩
  | _ => simp [Dt.ok] at h
theorem flat_vint (l : List Int) : l.flatMap (fun n => [vint n]) = l.map vint := by
  induction l with
  | nil => rfl
  | cons a l ih => rw [List.flatMap_cons, ih]; rfl
theorem dt_ints {b : Nat} {d : Dt} (h : d.ok (.sl .int b)) : ∃ l : List Int, d.cells = [tIs l] ∧ l.length * b ≤ 140737488351232 ∧ ∀ a ∈ l, -9223372036854775808 ≤ a ∧ a ≤ 9223372036854775807 := by
  obtain ⟨l, h1, h2⟩ := dt_list (enc := fun n : Int => [vint n]) h fun d hd => dt_int hd
  rw [flat_vint] at h1
  exact ⟨l, h1, h2⟩
theorem oks_cons {t : Ty} {ts : List Ty} {l : List Dt} (h : Dt.oks (t :: ts) l) : ∃ d r, l = d :: r ∧ d.ok t ∧ Dt.oks ts r ∧ Dt.cellsL l = d.cells ++ Dt.cellsL r := by
  cases l with
  | nil => simp [Dt.oks] at h
  | cons d r => rw [Dt.oks] at h; exact ⟨d, r, rfl, h.1, h.2, by rw [Dt.cellsL]⟩
theorem oks_nil {l : List Dt} (h : Dt.oks [] l) : Dt.cellsL l = [] := by
  cases l with
  | nil => rw [Dt.cellsL]
  | cons d r => simp [Dt.oks] at h
theorem ok_st {ts : List Ty} {d : Dt} (h : d.ok (.st ts)) : ∃ l, d = .st l ∧ Dt.oks ts l ∧ d.cells = Dt.cellsL l ∧ d.val = .agg (Dt.cellsL l) := by
  cases d with
  | st l => rw [Dt.ok] at h; exact ⟨l, rfl, h, by rw [Dt.cells], by rw [Dt.val]⟩
  | _ => simp [Dt.ok] at h
def tyCrs : Ty := .st [.int, .int, .bool]
def tyIns : Ty := .st [.sl tyCrs 24, .sl .int 8]
def tySg : Ty := .st [.int, .bool, .bool]
def tyStp : Ty := .st [.int, .int, .int, .int, .int]
def tyEvt : Ty := .st [.bool, tySg, .bool, .sl tyStp 40]
def tyPce : Ty := .st [tyIns, .sl tyEvt 56]
/-- A number of the machine. -/
def I64 (n : Int) : Prop := -9223372036854775808 ≤ n ∧ n ≤ 9223372036854775807
def Crs.Sm (c : Crs) : Prop := I64 c.p ∧ I64 c.f
def Sg.Sm (c : Sg) : Prop := I64 c.v
def Stp.Sm (s : Stp) : Prop := I64 s.co ∧ I64 s.fr ∧ I64 s.ri ∧ I64 s.gr ∧ I64 s.ho
def Ins.Sm (x : Ins) : Prop := (x.cs.length ≤ 17592186044416 ∧ ∀ c ∈ x.cs, c.Sm) ∧ x.st.length ≤ 17592186044416 ∧ ∀ n ∈ x.st, I64 n
def Evt.Sm (x : Evt) : Prop := x.sg.Sm ∧ x.ss.length ≤ 17592186044416 ∧ ∀ s ∈ x.ss, s.Sm
def Pce.Sm (p : Pce) : Prop := p.ins.Sm ∧ p.es.length ≤ 17592186044416 ∧ ∀ x ∈ p.es, x.Sm
def Clm.Sm (c : Clm) : Prop := (c.sgs.length ≤ 17592186044416 ∧ ∀ s ∈ c.sgs, s.Sm) ∧ c.ce.length ≤ 17592186044416 ∧ ∀ l ∈ c.ce, l.length ≤ 17592186044416 ∧ ∀ n ∈ l, I64 n
def Lf.Sm (f : Lf) : Prop := f.ins.Sm ∧ f.cols.length ≤ 17592186044416 ∧ ∀ c ∈ f.cols, c.Sm
theorem dt_crs {d : Dt} (h : d.ok tyCrs) : ∃ c : Crs, d.cells = c.cells ∧ c.Sm := by
  obtain ⟨l, _, h1, hc, _⟩ := ok_st h
  obtain ⟨d1, r1, rfl, k1, h2, e1⟩ := oks_cons h1
  obtain ⟨d2, r2, rfl, k2, h3, e2⟩ := oks_cons h2
  obtain ⟨d3, r3, rfl, k3, h4, e3⟩ := oks_cons h3
  obtain ⟨a, ea, ra⟩ := dt_int k1
  obtain ⟨b, eb, rb⟩ := dt_int k2
  obtain ⟨c, ec, _⟩ := dt_bool k3
  exact ⟨⟨a, b, c⟩, by rw [hc, e1, e2, e3, oks_nil h4, ea, eb, ec]; rfl, ra, rb⟩
theorem dt_sg {d : Dt} (h : d.ok tySg) : ∃ c : Sg, d.cells = c.cells ∧ c.Sm := by
  obtain ⟨l, _, h1, hc, _⟩ := ok_st h
  obtain ⟨d1, r1, rfl, k1, h2, e1⟩ := oks_cons h1
  obtain ⟨d2, r2, rfl, k2, h3, e2⟩ := oks_cons h2
  obtain ⟨d3, r3, rfl, k3, h4, e3⟩ := oks_cons h3
  obtain ⟨a, ea, ra⟩ := dt_int k1
  obtain ⟨b, eb, _⟩ := dt_bool k2
  obtain ⟨c, ec, _⟩ := dt_bool k3
  exact ⟨⟨a, b, c⟩, by rw [hc, e1, e2, e3, oks_nil h4, ea, eb, ec]; rfl, ra⟩
theorem dt_stp {d : Dt} (h : d.ok tyStp) : ∃ c : Stp, d.cells = c.cells ∧ c.Sm := by
  obtain ⟨l, _, h1, hc, _⟩ := ok_st h
  obtain ⟨d1, r1, rfl, k1, h2, e1⟩ := oks_cons h1
  obtain ⟨d2, r2, rfl, k2, h3, e2⟩ := oks_cons h2
  obtain ⟨d3, r3, rfl, k3, h4, e3⟩ := oks_cons h3
  obtain ⟨d4, r4, rfl, k4, h5, e4⟩ := oks_cons h4
  obtain ⟨d5, r5, rfl, k5, h6, e5⟩ := oks_cons h5
  obtain ⟨x1, f1, b1⟩ := dt_int k1
  obtain ⟨x2, f2, b2⟩ := dt_int k2
  obtain ⟨x3, f3, b3⟩ := dt_int k3
  obtain ⟨x4, f4, b4⟩ := dt_int k4
  obtain ⟨x5, f5, b5⟩ := dt_int k5
  exact ⟨⟨x1, x2, x3, x4, x5⟩, by rw [hc, e1, e2, e3, e4, e5, oks_nil h6, f1, f2, f3, f4, f5]; rfl, b1, b2, b3, b4, b5⟩
theorem dt_ins {d : Dt} (h : d.ok tyIns) : ∃ x : Ins, d.cells = [tL Crs.cells x.cs, tIs x.st] ∧ x.Sm := by
  obtain ⟨l, _, h1, hc, _⟩ := ok_st h
  obtain ⟨d1, r1, rfl, k1, h2, e1⟩ := oks_cons h1
  obtain ⟨d2, r2, rfl, k2, h3, e2⟩ := oks_cons h2
  obtain ⟨a, ea, ra, qa⟩ := dt_list (enc := Crs.cells) (Q := Crs.Sm) k1 fun _ hd => dt_crs hd
  obtain ⟨b, eb, rb, qb⟩ := dt_ints k2
  exact ⟨⟨a, b⟩, by rw [hc, e1, e2, oks_nil h3, ea, eb]; rfl, ⟨by show a.length ≤ _; omega, qa⟩, by show b.length ≤ _; omega, qb⟩
theorem dt_evt {d : Dt} (h : d.ok tyEvt) : ∃ x : Evt, d.cells = x.cells ∧ x.Sm := by
  obtain ⟨l, _, h1, hc, _⟩ := ok_st h
  obtain ⟨d1, r1, rfl, k1, h2, e1⟩ := oks_cons h1
  obtain ⟨d2, r2, rfl, k2, h3, e2⟩ := oks_cons h2
  obtain ⟨d3, r3, rfl, k3, h4, e3⟩ := oks_cons h3
  obtain ⟨d4, r4, rfl, k4, h5, e4⟩ := oks_cons h4
  obtain ⟨a, ea, _⟩ := dt_bool k1
  obtain ⟨b, eb, rb⟩ := dt_sg k2
  obtain ⟨c, ec, _⟩ := dt_bool k3
  obtain ⟨s, es, rs, qs⟩ := dt_list (enc := Stp.cells) (Q := Stp.Sm) k4 fun _ hd => dt_stp hd
  exact ⟨⟨a, b, c, s⟩, by rw [hc, e1, e2, e3, e4, oks_nil h5, ea, eb, ec, es]; rfl, rb, by show s.length ≤ _; omega, qs⟩
theorem dt_pceV {d : Dt} (h : d.ok tyPce) : ∃ p : Pce, d.val = p.val ∧ p.Sm := by
  obtain ⟨l, _, h1, _, hv⟩ := ok_st h
  obtain ⟨d1, r1, rfl, k1, h2, e1⟩ := oks_cons h1
  obtain ⟨d2, r2, rfl, k2, h3, e2⟩ := oks_cons h2
  obtain ⟨a, ea, ra⟩ := dt_ins k1
  obtain ⟨b, eb, rb, qb⟩ := dt_list (enc := Evt.cells) (Q := Evt.Sm) k2 fun _ hd => dt_evt hd
  exact ⟨⟨a, b⟩, by rw [hv, e1, e2, oks_nil h3, ea, eb]; rfl, ra, by show b.length ≤ _; omega, qb⟩
theorem Pce.Sm.pc {p : Pce} (h : p.Sm) : PcSm p := ⟨h.2.1, h.1.1.1, by have := h.1.2.1; omega, fun i hi => (h.2.2 _ (getD_mem hi)).2.1⟩
theorem ty_pce : tyOf Tryz.prog 10 49 = some tyPce := by kernel_rfl
/-! ### A law's call -/
theorem law_call {f : FuncId} {args : List V} (h : Fn Tryz.prog Gd f args (vbool true)) {W : World} {cargs : Array Value} (hv : VRs (EW W) args cargs.toList) :
    Calls Tryz.prog f cargs W fun e w' => e = .returned (.bool true) ∧ Below W.heap.size W w' := by
  refine (h.calls trivial (fun _ _ _ x => x) hv).mono ?_
  rintro e w' ⟨v, E', rfl, hb, hr, _⟩
  have := VR_lit hr
  subst this
  exact ⟨rfl, hb⟩
theorem VRs.cons1 {E : Env} {v : V} {c : Value} {vs : List V} {cs : List Value} (h : VR E v c) (h' : VRs E vs cs) : VRs E (v :: vs) (c :: cs) := by rw [VRs]; exact ⟨c, cs, rfl, h, h'⟩
theorem VRs.nil1 {E : Env} : VRs E [] [] := by rw [VRs]

section
variable {H : Type} {enc : TypeId × Value → H}
theorem trodAll_below {P : Program} (hl : laidOutB P = true) {W W' : World} (hb : Below W.heap.size W W') {ts : List TypeId} : ∀ {vs : List Value} {ds : List (DataW H)} {ps : List MemPlace},
    (∀ t ∈ ts, P.readableRec t = true ∧ t < P.types.size) → (∀ x ∈ ps, x.block < W.heap.size) → DataW.TrodAll enc P W 0 (fun _ => true) true ts vs ds ps →
    DataW.TrodAll enc P W' 0 (fun b => decide (b < W.heap.size)) true ts vs ds ps := by
  induction ts with
  | nil =>
    intro vs ds ps _ _ h
    cases vs with
    | nil =>
      cases ds with
      | nil => exact h
      | cons _ _ => exact h.elim
    | cons _ _ => exact h.elim
  | cons t ts ih =>
    intro vs ds ps hp hlt h
    cases vs with
    | nil => exact h.elim
    | cons v vs =>
      cases ds with
      | nil => exact h.elim
      | cons d ds =>
        obtain ⟨p, q, h1, h2, rfl⟩ := h
        have ht := hp t (List.mem_cons_self ..)
        exact ⟨p, q, Below.trod hl ht.1 ht.2 h1 hb (fun x hx => hlt x (List.mem_append_left _ hx)), ih (fun t ht => hp t (List.mem_cons_of_mem _ ht)) (fun x hx => hlt x (List.mem_append_right _ hx)) h2, rfl⟩
/-- A law that answers true and only makes memory: what its row asks behind the call. -/
theorem law_post {f : Func} {s : ChangeSpec} {W W' : World} {args : Array Value} {ds gs : List (DataW H)} {before : List MemPlace}
    (hp : f.params.toList.all (fun t => Tryz.prog.readableRec t && decide (t < Tryz.prog.types.size)) = true) (hr : f.resultTypes = #[4]) (hv : s.vars = [])
    (hs : s.fn H ds = { results := [.lit (.bool true)], args := ds }) (hW : DataW.Whole enc Tryz.prog f.params.toList s.vars false W args.toList ds gs before) (hb : Below W.heap.size W W') :
    s.post enc Tryz.prog f false true false false W args (.bool true) W' := by
  have hW' := hW
  obtain ⟨p, q, hA, hV, rfl, _, _⟩ := hW
  rw [hv] at hV
  obtain ⟨rfl, rfl⟩ := trodVars_none hV
  have hlt := hW'.lt
  simp only [List.append_nil] at hlt hW' 
  refine ⟨ds, [], p, [], p, [], hW', ?_, ?_, ?_, hb.frame _, fun h => by cases h⟩
  · rw [List.append_nil, hs, hr]
    exact trodAll_cons_mk (shut_bool Tryz.underlying4 _) trodAll_mk0
  · rw [List.append_nil, hs]
    exact trodAll_below laidOut hb (fun t ht => by have h := List.all_eq_true.1 hp t ht; simpa using h) hlt hA
  · rw [List.append_nil, hs, hv]
    rfl
end
end Go.Proofs.YtdefefeifcdogaaGreat
namespace Go.Proofs.YtdefefeifcdogaaGreat
open Go.RowKit
set_option maxRecDepth 100000

abbrev c_piece_Check_p1 : VC := (.seq (.ops 0 [oo 15 .mv [.t 3], oo 2 .mv [.t 15]]) .ret)
abbrev c_piece_Check_p2 : VC := (.seq (.ops 0 [oo 13 .mv [.t 3], oo 14 (.bin .neq) [.t 13, kk 0]]) (.cond (.t 14) c_piece_Check_p1 .skip))
abbrev c_piece_Check_p3 : VC := (.seq (.ops 0 [oo 2 .mv [kk 2]]) .ret)
abbrev c_piece_Check_p4 : VC := (.seq (.ops 0 [oo 2 .mv [kk 20]]) .ret)
abbrev c_piece_Check_p5 : VC := (.seq (.ops 0 [oo 2 .mv [kk 21]]) .ret)
abbrev c_piece_Check_p6 : VC := (.seq (.ops 0 [oo 68 .mv [.t 9], oo 2 .mv [.t 68]]) .ret)
abbrev c_piece_Check_p7 : VC := (.seq (.ops 0 [oo 66 .mv [.t 9], oo 67 (.bin .neq) [.t 66, kk 0]]) (.cond (.t 67) c_piece_Check_p6 .skip))
abbrev c_piece_Check_p8 : VC := (.ops 0 [oo 69 (.fldA 0) [.t 8], oo 70 .ld1 [.t 69], oo 6 .mv [.t 70]])
abbrev c_piece_Check_p9 : VC := (.seq (.seq (.ops 0 [oo 61 (.ldA 3) [.t 1], oo 62 .mv [.t 4], oo 63 (.ldA 5) [.t 8], oo 64 .mv [.t 6], oo 65 (.call 221) [.t 61, .t 62, .t 63, .t 64], oo 9 .mv [.t 65]]) c_piece_Check_p7) c_piece_Check_p8)
abbrev c_piece_Check_p10 : VC := (.ops 0 [oo 71 (.bin .add) [.t 57, kk 1], oo 57 .mv [.t 71]])
abbrev c_piece_Check_p11 : VC := (.seq (.block 3 (.seq (.ops 4 [oo 59 (.ixA 5) [.t 55, .t 57], oo 60 (.ldA 5) [.t 59], oo 8 (.alloc 152 [li 0, li 0, li 0, li 0, li 0]) [], ⟨none, none, (.st 5), [.t 8, .t 60], none⟩]) c_piece_Check_p9)) c_piece_Check_p10)
abbrev c_piece_Check_p12 : VC := (.seq (.ops 0 [oo 58 (.bin .lss) [.t 57, .t 56]]) (.seq (.cond (.t 58) .skip (.exit 2)) c_piece_Check_p11))
@[go_sem] abbrev w_piece_Check_p12 : Nat := 4722222367681569358660
abbrev c_piece_Check_p14 : VC := (.seq (.ops 0 [oo 54 (.fldA 5) [.t 5], oo 55 .ld1 [.t 54], oo 56 .len [.t 55], oo 57 .mv [kk 0]]) (.block 2 (.loop c_piece_Check_p12)))
abbrev c_piece_Check_p15 : VC := (.seq (.ops 0 [oo 6 .mv [kk 0]]) c_piece_Check_p14)
abbrev c_piece_Check_p16 : VC := (.seq (.seq (.ops 0 [oo 42 (.fldA 4) [.t 5], oo 43 .ld1 [.t 42], oo 44 .mv [.t 43], og 45 44 true .mv [.t 4], og 46 44 true (.bin .eql) [.t 45, kk 0], og 47 44 true .mv [.t 46], og 48 47 false (.fldA 5) [.t 5], og 49 47 false .ld1 [.t 48], og 50 47 false .len [.t 49], og 51 47 false (.bin .gtr) [.t 50, kk 0], og 52 44 true .pick [.t 47, (.c (.lit (.bool true))), .t 51], oo 53 .pick [.t 44, .t 52, (.c (.lit (.bool false)))]]) (.cond (.t 53) c_piece_Check_p5 .skip)) c_piece_Check_p15)
abbrev c_piece_Check_p17 : VC := (.seq (.seq (.ops 0 [oo 28 (.fldA 1) [.t 5], oo 29 (.ldA 3) [.t 28], oo 30 (.call 220) [.t 29], oo 31 (.un .not) [.t 30], oo 32 .mv [.t 31], og 33 32 false .mv [.t 4], og 34 32 false (.bin .eql) [.t 33, kk 0], og 35 32 false .mv [.t 34], og 36 35 true (.fldA 1) [.t 5], og 37 35 true (.ldA 3) [.t 36], og 38 35 true (.build [li 0, (.lit (.bool false)), (.lit (.bool false))] []) [], og 39 35 true (.eqP [(0, 0), (1, 1), (2, 1)] false) [.t 37, .t 38], og 40 32 false .pick [.t 35, .t 39, (.c (.lit (.bool false)))], oo 41 .pick [.t 32, (.c (.lit (.bool true))), .t 40]]) (.cond (.t 41) c_piece_Check_p4 .skip)) c_piece_Check_p16)
abbrev c_piece_Check_p18 : VC := (.ops 0 [oo 72 (.bin .add) [.t 23, kk 1], oo 23 .mv [.t 72]])
abbrev c_piece_Check_p19 : VC := (.seq (.block 1 (.seq (.ops 6 [oo 25 .mv [.t 23], oo 26 (.ixA 6) [.t 21, .t 23], oo 27 (.ldA 6) [.t 26], ⟨(some 5), none, (.alloc 136 [(.lit (.bool false)), li 0, (.lit (.bool false)), (.lit (.bool false)), (.lit (.bool false)), (.sl 0 [] .exact)]), [], none⟩, oo 4 .mv [.t 25], ⟨none, none, (.st 6), [.t 5, .t 27], none⟩]) c_piece_Check_p17)) c_piece_Check_p18)
abbrev c_piece_Check_p20 : VC := (.seq (.ops 0 [oo 24 (.bin .lss) [.t 23, .t 22]]) (.seq (.cond (.t 24) .skip (.exit 0)) c_piece_Check_p19))
@[go_sem] abbrev w_piece_Check_p20 : Nat := 9444732965739282039668
abbrev c_piece_Check_p22 : VC := (.seq (.ops 0 [oo 2 .mv [kk 0]]) .ret)
abbrev c_piece_Check_p23 : VC := (.seq (.seq (.ops 0 [oo 20 (.fldA 2) [.t 1], oo 21 .ld1 [.t 20], oo 22 .len [.t 21], oo 23 .mv [kk 0]]) (.block 0 (.loop c_piece_Check_p20))) c_piece_Check_p22)
abbrev c_piece_Check_p24 : VC := (.seq (.seq (.ops 0 [oo 16 (.fldA 2) [.t 1], oo 17 .ld1 [.t 16], oo 18 .len [.t 17], oo 19 (.bin .gtr) [.t 18, kk 400]]) (.cond (.t 19) c_piece_Check_p3 .skip)) c_piece_Check_p23)
abbrev c_piece_Check_p25 : VC := (.seq (.seq (.ops 0 [oo 10 (.fldA 0) [.t 1], oo 11 (.ldA 2) [.t 10], oo 12 (.call 71) [.t 11], oo 3 .mv [.t 12]]) c_piece_Check_p2) c_piece_Check_p24)
def c_piece_Check : VC := (.seq (.ops 2 [oo 1 (.box 49) [.t 0], oo 2 .mv [kk 0]]) c_piece_Check_p25)
theorem k_piece_Check : Comp Tryz.prog nobx gtab 169 73 c_piece_Check [.t 2] := ⟨⟨Tryz.f169, _, Tryz.func169, rfl, rfl, kr, kr⟩⟩
abbrev c_piece_checkStop_p1 : VC := (.seq (.ops 0 [oo 8 .mv [kk 12]]) .ret)
abbrev c_piece_checkStop_p2 : VC := (.seq (.ops 0 [oo 8 .mv [kk 13]]) .ret)
abbrev c_piece_checkStop_p3 : VC := (.seq (.ops 0 [oo 8 .mv [kk 22]]) .ret)
abbrev c_piece_checkStop_p4 : VC := (.seq (.ops 0 [oo 8 .mv [kk 23]]) .ret)
abbrev c_piece_checkStop_p5 : VC := (.seq (.ops 0 [oo 8 .mv [kk 24]]) .ret)
abbrev c_piece_checkStop_p6 : VC := (.seq (.ops 0 [oo 65 (.fldA 4) [.t 6], oo 66 .ld1 [.t 65], oo 67 (.bin .lss) [.t 66, kk 0], oo 68 .mv [.t 67], og 69 68 false (.fldA 4) [.t 6], ⟨(some 70), (some (68, false)), .ld1, [.t 69], (some [0, 1, 2, 3, 4])⟩, ⟨(some 71), (some (68, false)), (.ldA 3), [.t 4], (some [0, 1, 2, 3])⟩, og 72 68 false .mv [.t 1], og 73 68 false (.fldA 0) [.t 6], ⟨(some 74), (some (68, false)), .ld1, [.t 73], (some [0, 1, 2, 3, 8])⟩, ⟨(some 75), (some (68, false)), (.call 261), [.t 71, .t 72, .t 74], (some [0, 1, 2, 3, 6, 7, 8, 9])⟩, og 76 68 false (.bin .gtr) [.t 70, .t 75], oo 77 .pick [.t 68, (.c (.lit (.bool true))), .t 76], oo 78 .mv [.t 77], og 79 78 false (.fldA 4) [.t 6], og 80 78 false .ld1 [.t 79], og 81 78 false (.bin .gtr) [.t 80, kk 0], og 82 78 false .mv [.t 81], og 83 82 true (.fldA 1) [.t 6], og 84 82 true .ld1 [.t 83], og 85 82 true (.bin .eql) [.t 84, kk 0], og 86 78 false .pick [.t 82, .t 85, (.c (.lit (.bool false)))], oo 87 .pick [.t 78, (.c (.lit (.bool true))), .t 86], oo 64 .mv [.t 87]]) (.cond (.t 64) c_piece_checkStop_p5 .skip))
abbrev c_piece_checkStop_p7 : VC := (.seq (.ops 0 [oo 46 (.fldA 2) [.t 6], oo 47 .ld1 [.t 46], oo 48 (.bin .lss) [.t 47, kk 0], oo 49 .mv [.t 48], og 50 49 false (.fldA 2) [.t 6], og 51 49 false .ld1 [.t 50], og 52 49 false (.bin .gtr) [.t 51, kk 3], oo 53 .pick [.t 49, (.c (.lit (.bool true))), .t 52], oo 54 .mv [.t 53], og 55 54 false (.fldA 3) [.t 6], og 56 54 false .ld1 [.t 55], og 57 54 false (.bin .lss) [.t 56, kk 0], oo 58 .pick [.t 54, (.c (.lit (.bool true))), .t 57], oo 59 .mv [.t 58], og 60 59 false (.fldA 3) [.t 6], og 61 59 false .ld1 [.t 60], og 62 59 false (.bin .gtr) [.t 61, kk 4], oo 63 .pick [.t 59, (.c (.lit (.bool true))), .t 62], oo 45 .mv [.t 63]]) (.cond (.t 45) c_piece_checkStop_p4 c_piece_checkStop_p6))
abbrev c_piece_checkStop_p8 : VC := (.seq (.ops 0 [oo 41 (.fldA 0) [.t 6], oo 42 .ld1 [.t 41], oo 43 .mv [.t 3], oo 44 (.bin .leq) [.t 42, .t 43], oo 40 .mv [.t 44]]) (.cond (.t 40) c_piece_checkStop_p3 c_piece_checkStop_p7))
abbrev c_piece_checkStop_p9 : VC := (.seq (.ops 0 [oo 23 (.fldA 1) [.t 6], oo 24 .ld1 [.t 23], oo 25 (.bin .lss) [.t 24, kk 0], oo 26 .mv [.t 25], og 27 26 false (.fldA 1) [.t 6], ⟨(some 28), (some (26, false)), .ld1, [.t 27], (some [0, 1, 2, 3, 4])⟩, og 29 26 false (.fldA 0) [.t 4], og 30 26 false (.fldA 0) [.t 29], ⟨(some 31), (some (26, false)), .ld1, [.t 30], (some [0, 1, 2, 3, 6, 7])⟩, og 32 26 false (.fldA 0) [.t 6], ⟨(some 33), (some (26, false)), .ld1, [.t 32], (some [0, 1, 2, 3, 9])⟩, og 34 26 false (.bin .sub) [.t 33, kk 1], og 35 26 false (.ixA 3) [.t 31, .t 34], og 36 26 false (.fldA 1) [.t 35], ⟨(some 37), (some (26, false)), .ld1, [.t 36], (some [0, 1, 2, 3, 6, 7, 8, 9, 10, 11, 12, 13])⟩, og 38 26 false (.bin .gtr) [.t 28, .t 37], oo 39 .pick [.t 26, (.c (.lit (.bool true))), .t 38], oo 22 .mv [.t 39]]) (.cond (.t 22) c_piece_checkStop_p2 c_piece_checkStop_p8))
abbrev c_piece_checkStop_p10 : VC := (.seq (.ops 0 [oo 8 .mv [kk 0]]) .ret)
abbrev c_piece_checkStop_p11 : VC := (.seq (.block 0 (.seq (.ops 0 [oo 10 (.fldA 0) [.t 6], oo 11 .ld1 [.t 10], oo 12 (.bin .lss) [.t 11, kk 1], oo 13 .mv [.t 12], og 14 13 false (.fldA 0) [.t 6], og 15 13 false .ld1 [.t 14], og 16 13 false (.fldA 0) [.t 4], og 17 13 false (.fldA 0) [.t 16], og 18 13 false .ld1 [.t 17], og 19 13 false .len [.t 18], og 20 13 false (.bin .gtr) [.t 15, .t 19], oo 21 .pick [.t 13, (.c (.lit (.bool true))), .t 20], oo 9 .mv [.t 21]]) (.cond (.t 9) c_piece_checkStop_p1 c_piece_checkStop_p9))) c_piece_checkStop_p10)
def c_piece_checkStop : VC := (.seq (.ops 3 [oo 4 (.box 49) [.t 0], oo 6 (.box 152) [.t 2], oo 8 .mv [kk 0]]) c_piece_checkStop_p11)
theorem k_piece_checkStop : Comp Tryz.prog nobx gtab 221 88 c_piece_checkStop [.t 8] := ⟨⟨Tryz.f221, _, Tryz.func221, rfl, rfl, kr, kr⟩⟩
abbrev c_piece_Longest_p1 : VC := (.seq (.ops 0 [oo 6 .mv [kk 0]]) .ret)
abbrev c_piece_Longest_p2 : VC := (.ops 0 [oo 40 .mv [.t 7], oo 41 (.bin .add) [.t 40, kk 1], oo 7 .mv [.t 41]])
abbrev c_piece_Longest_p3 : VC := (.seq (.seq (.ops 0 [oo 29 .mv [.t 7], oo 30 (.bin .eql) [.t 29, kk 15], oo 31 .mv [.t 30], og 32 31 false (.ldA 6) [.t 9], og 33 31 false (.call 316) [.t 32], oo 34 .pick [.t 31, (.c (.lit (.bool true))), .t 33], oo 35 .mv [.t 34], og 36 35 false (.ldA 6) [.t 9], og 37 35 false .mv [.t 2], og 38 35 false (.call 317) [.t 36, .t 37], oo 39 .pick [.t 35, (.c (.lit (.bool true))), .t 38]]) (.cond (.t 39) (.exit 0) .skip)) c_piece_Longest_p2)
abbrev c_piece_Longest_p4 : VC := (.ops 0 [oo 42 (.bin .add) [.t 25, kk 1], oo 25 .mv [.t 42]])
abbrev c_piece_Longest_p5 : VC := (.seq (.block 1 (.seq (.ops 4 [oo 27 (.ixA 6) [.t 23, .t 25], oo 28 (.ldA 6) [.t 27], ⟨(some 9), none, (.alloc 136 [(.lit (.bool false)), li 0, (.lit (.bool false)), (.lit (.bool false)), (.lit (.bool false)), (.sl 0 [] .exact)]), [], none⟩, ⟨none, none, (.st 6), [.t 9, .t 28], none⟩]) c_piece_Longest_p3)) c_piece_Longest_p4)
abbrev c_piece_Longest_p6 : VC := (.seq (.ops 0 [oo 26 (.bin .lss) [.t 25, .t 24]]) (.seq (.cond (.t 26) .skip (.exit 0)) c_piece_Longest_p5))
@[go_sem] abbrev w_piece_Longest_p6 : Nat := 8796059468416
abbrev c_piece_Longest_p8 : VC := (.seq (.ops 0 [oo 43 .mv [.t 7], oo 6 .mv [.t 43]]) .ret)
abbrev c_piece_Longest_p9 : VC := (.seq (.seq (.ops 0 [oo 19 (.fldA 2) [.t 3], oo 20 .ld1 [.t 19], oo 21 .mv [.t 1], oo 22 (.bin .add) [.t 21, kk 1], oo 23 (.slc 6 true false) [.t 20, .t 22], oo 24 .len [.t 23], oo 25 .mv [kk 0]]) (.block 0 (.loop c_piece_Longest_p6))) c_piece_Longest_p8)
abbrev c_piece_Longest_p10 : VC := (.seq (.ops 0 [oo 7 .mv [kk 0]]) c_piece_Longest_p9)
abbrev c_piece_Longest_p11 : VC := (.seq (.seq (.ops 0 [oo 10 .mv [.t 1], oo 11 (.bin .lss) [.t 10, kk 0], oo 12 .mv [.t 11], og 13 12 false .mv [.t 1], og 14 12 false (.fldA 2) [.t 3], og 15 12 false .ld1 [.t 14], og 16 12 false .len [.t 15], og 17 12 false (.bin .geq) [.t 13, .t 16], oo 18 .pick [.t 12, (.c (.lit (.bool true))), .t 17]]) (.cond (.t 18) c_piece_Longest_p1 .skip)) c_piece_Longest_p10)
def c_piece_Longest : VC := (.seq (.ops 2 [oo 3 (.box 49) [.t 0], oo 6 .mv [kk 0]]) c_piece_Longest_p11)
theorem k_piece_Longest : Comp Tryz.prog nobx gtab 261 44 c_piece_Longest [.t 6] := ⟨⟨Tryz.f261, _, Tryz.func261, rfl, rfl, kr, kr⟩⟩
abbrev c_piece_isRest_p1 : VC := (.seq (.ops 0 [oo 3 (.fldA 5) [.t 1], oo 4 .ld1 [.t 3], oo 5 .len [.t 4], oo 6 (.bin .eql) [.t 5, kk 0], oo 7 .mv [.t 6], og 8 7 true (.fldA 4) [.t 1], og 9 7 true .ld1 [.t 8], og 10 7 true (.un .not) [.t 9], oo 11 .pick [.t 7, .t 10, (.c (.lit (.bool false)))], oo 2 .mv [.t 11]]) .ret)
def c_piece_isRest : VC := (.seq (.ops 2 [oo 1 (.box 136) [.t 0], oo 2 .mv [(.c (.lit (.bool false)))]]) c_piece_isRest_p1)
theorem k_piece_isRest : Comp Tryz.prog nobx gtab 316 12 c_piece_isRest [.t 2] := ⟨⟨Tryz.f316, _, Tryz.func316, rfl, rfl, kr, kr⟩⟩
abbrev c_piece_plucks_1_p1 : VC := (.seq (.ops 0 [oo 4 (.fldA 0) [.t 2], oo 5 .ld1 [.t 4], oo 6 .ld1 [.t 1], oo 7 (.bin .eql) [.t 5, .t 6], oo 3 .mv [.t 7]]) .ret)
def c_piece_plucks_1 : VC := (.seq (.ops 2 [oo 2 (.box 152) [.t 0], oo 3 .mv [(.c (.lit (.bool false)))]]) c_piece_plucks_1_p1)
theorem k_piece_plucks_1 : Comp Tryz.prog nobx gtab 346 8 c_piece_plucks_1 [.t 3] := ⟨⟨Tryz.f346, _, Tryz.func346, rfl, rfl, kr, kr⟩⟩
abbrev c_slices_ContainsFunc_api_Stop_api_Stop_p1 : VC := (.seq (.ops 0 [oo 5 .mv [.t 0], oo 6 .mv [.t 1], oo 7 (.call 232) [.t 5, .t 6], oo 8 (.bin .geq) [.t 7, kk 0], oo 4 .mv [.t 8]]) .ret)
def c_slices_ContainsFunc_api_Stop_api_Stop : VC := (.seq (.ops 0 [oo 4 .mv [(.c (.lit (.bool false)))]]) c_slices_ContainsFunc_api_Stop_api_Stop_p1)
theorem k_slices_ContainsFunc_api_Stop_api_Stop : Comp Tryz.prog nobx gtab 188 9 c_slices_ContainsFunc_api_Stop_api_Stop [.t 4] := ⟨⟨Tryz.f188, _, Tryz.func188, rfl, rfl, kr, kr⟩⟩
abbrev c_slices_IndexFunc_api_Stop_api_Stop_p1 : VC := (.seq (.ops 0 [oo 17 .mv [.t 5], oo 4 .mv [.t 17]]) .ret)
abbrev c_slices_IndexFunc_api_Stop_api_Stop_p2 : VC := (.cond (.t 16) c_slices_IndexFunc_api_Stop_api_Stop_p1 .skip)
abbrev c_slices_IndexFunc_api_Stop_api_Stop_p3 : VC := (.seq (.ops 0 [oo 11 .mv [.t 1], oo 12 .mv [.t 0], oo 13 .mv [.t 5], oo 14 (.ixA 5) [.t 12, .t 13], oo 15 (.ldA 5) [.t 14], oo 16 .callv [.t 11, .t 15]]) c_slices_IndexFunc_api_Stop_api_Stop_p2)
abbrev c_slices_IndexFunc_api_Stop_api_Stop_p4 : VC := (.ops 0 [oo 18 (.bin .add) [.t 8, kk 1], oo 8 .mv [.t 18]])
abbrev c_slices_IndexFunc_api_Stop_api_Stop_p5 : VC := (.seq (.block 1 (.seq (.ops 0 [oo 10 .mv [.t 8], oo 5 .mv [.t 10]]) c_slices_IndexFunc_api_Stop_api_Stop_p3)) c_slices_IndexFunc_api_Stop_api_Stop_p4)
abbrev c_slices_IndexFunc_api_Stop_api_Stop_p6 : VC := (.seq (.cond (.t 9) .skip (.exit 0)) c_slices_IndexFunc_api_Stop_api_Stop_p5)
abbrev c_slices_IndexFunc_api_Stop_api_Stop_p7 : VC := (.seq (.ops 0 [oo 9 (.bin .lss) [.t 8, .t 7]]) c_slices_IndexFunc_api_Stop_api_Stop_p6)
@[go_sem] abbrev w_slices_IndexFunc_api_Stop_api_Stop_p7 : Nat := 524080
abbrev c_slices_IndexFunc_api_Stop_api_Stop_p9 : VC := (.seq (.ops 0 [oo 4 .mv [kk (-1)]]) .ret)
abbrev c_slices_IndexFunc_api_Stop_api_Stop_p10 : VC := (.seq (.seq (.ops 0 [oo 6 .mv [.t 0], oo 7 .len [.t 6], oo 8 .mv [kk 0]]) (.block 0 (.loop c_slices_IndexFunc_api_Stop_api_Stop_p7))) c_slices_IndexFunc_api_Stop_api_Stop_p9)
def c_slices_IndexFunc_api_Stop_api_Stop : VC := (.seq (.ops 0 [oo 4 .mv [kk 0]]) c_slices_IndexFunc_api_Stop_api_Stop_p10)
theorem k_slices_IndexFunc_api_Stop_api_Stop : Comp Tryz.prog nobx gtab 232 19 c_slices_IndexFunc_api_Stop_api_Stop [.t 4] := ⟨⟨Tryz.f232, _, Tryz.func232, rfl, rfl, kr, kr⟩⟩
abbrev c_piece_valid_p1 : VC := (.seq (.ops 0 [oo 3 (.ldA 3) [.t 1], oo 4 (.build [li 0, (.lit (.bool false)), (.lit (.bool false))] []) [], oo 5 (.eqP [(0, 0), (1, 1), (2, 1)] false) [.t 3, .t 4], oo 6 .mv [.t 5], og 7 6 false (.ldA 3) [.t 1], og 8 6 false (.call 146) [.t 7], og 9 6 false (.bin .gtr) [.t 8, kk 0], oo 10 .pick [.t 6, (.c (.lit (.bool true))), .t 9], oo 2 .mv [.t 10]]) .ret)
def c_piece_valid : VC := (.seq (.ops 2 [oo 1 (.box 110) [.t 0], oo 2 .mv [(.c (.lit (.bool false)))]]) c_piece_valid_p1)
theorem k_piece_valid : Comp Tryz.prog nobx gtab 220 11 c_piece_valid [.t 2] := ⟨⟨Tryz.f220, _, Tryz.func220, rfl, rfl, kr, kr⟩⟩
abbrev c_piece_rewritten_p1 : VC := (.seq (.ops 0 [⟨(some 12), none, (.build [(.sl 0 [] .exact), (.sl 0 [] .exact), (.sl 0 [] .exact)] []), [], none⟩, oo 13 .mv [.t 6], ⟨none, none, (.st 3), [.t 4, .t 12], none⟩, oo 5 .mv [.t 13]]) .ret)
abbrev c_piece_rewritten_p2 : VC := (.seq (.ops 0 [oo 10 .mv [.t 6], oo 11 (.bin .neq) [.t 10, kk 0]]) (.cond (.t 11) c_piece_rewritten_p1 .skip))
abbrev c_piece_rewritten_p3 : VC := (.seq (.ops 0 [oo 23 (.ldA 3) [.t 7], ⟨none, none, (.st 3), [.t 4, .t 23], none⟩, oo 5 .mv [kk 0]]) .ret)
abbrev c_piece_rewritten_p4 : VC := (.seq (.ops 0 [oo 18 (.fldA 2) [.t 2], oo 19 .ld1 [.t 18], oo 20 (.mkfn 173) [.t 3], oo 21 (.call 172) [.t 19, .t 20], oo 22 (.fldA 2) [.t 7], ⟨none, none, (.st 1), [.t 22, .t 21], none⟩]) c_piece_rewritten_p3)
abbrev c_piece_rewritten_p5 : VC := (.seq (.ops 6 [oo 14 (.fldA 0) [.t 2], oo 15 (.ldA 2) [.t 14], oo 16 (.call 171) [.t 15], ⟨(some 17), none, (.build [(.sl 0 [] .exact), (.sl 0 [] .exact), (.sl 0 [] .exact)] [(0, 2)]), [.t 16], none⟩, ⟨(some 7), none, (.alloc 49 [(.sl 0 [] .exact), (.sl 0 [] .exact), (.sl 0 [] .exact)]), [], none⟩, ⟨none, none, (.st 3), [.t 7, .t 17], none⟩]) c_piece_rewritten_p4)
abbrev c_piece_rewritten_p6 : VC := (.seq (.seq (.ops 0 [oo 8 (.ldA 3) [.t 2], oo 9 (.call 169) [.t 8], oo 6 .mv [.t 9]]) c_piece_rewritten_p2) c_piece_rewritten_p5)
def c_piece_rewritten : VC := (.seq (.ops 4 [oo 2 (.box 49) [.t 0], oo 3 (.box 164) [.t 1], ⟨(some 4), none, (.alloc 49 [(.sl 0 [] .exact), (.sl 0 [] .exact), (.sl 0 [] .exact)]), [], none⟩, oo 5 .mv [kk 0]]) c_piece_rewritten_p6)
theorem k_piece_rewritten : Comp Tryz.prog nobx gtab 108 24 c_piece_rewritten [(.c 4 3 true), .t 5] := ⟨⟨Tryz.f108, _, Tryz.func108, rfl, rfl, kr, kr⟩⟩
abbrev c_piece_mapped_api_Event_p1 : VC := (.ops 7 [oo 14 .mv [.t 5], oo 15 .mv [.t 1], oo 16 (.ldA 6) [.t 7], oo 17 .callv [.t 15, .t 16], ⟨(some 18), none, (.mksl 1 6 [(.lit (.bool false)), li 0, (.lit (.bool false)), (.lit (.bool false)), (.lit (.bool false)), (.sl 0 [] .exact)] [(0, 6)]), [.t 17], none⟩, oo 19 (.app 136 6 56) [.t 14, .t 18], oo 5 .mv [.t 19]])
abbrev c_piece_mapped_api_Event_p2 : VC := (.ops 0 [oo 20 (.bin .add) [.t 10, kk 1], oo 10 .mv [.t 20]])
abbrev c_piece_mapped_api_Event_p3 : VC := (.seq (.block 1 (.seq (.ops 4 [oo 12 (.ixA 6) [.t 8, .t 10], oo 13 (.ldA 6) [.t 12], ⟨(some 7), none, (.alloc 136 [(.lit (.bool false)), li 0, (.lit (.bool false)), (.lit (.bool false)), (.lit (.bool false)), (.sl 0 [] .exact)]), [], none⟩, ⟨none, none, (.st 6), [.t 7, .t 13], none⟩]) c_piece_mapped_api_Event_p1)) c_piece_mapped_api_Event_p2)
abbrev c_piece_mapped_api_Event_p4 : VC := (.seq (.cond (.t 11) .skip (.exit 0)) c_piece_mapped_api_Event_p3)
abbrev c_piece_mapped_api_Event_p5 : VC := (.seq (.ops 0 [oo 11 (.bin .lss) [.t 10, .t 9]]) c_piece_mapped_api_Event_p4)
@[go_sem] abbrev w_piece_mapped_api_Event_p5 : Nat := 2096288
abbrev c_piece_mapped_api_Event_p7 : VC := (.seq (.ops 0 [oo 21 .mv [.t 5], oo 4 .mv [.t 21]]) .ret)
abbrev c_piece_mapped_api_Event_p8 : VC := (.seq (.seq (.ops 0 [oo 8 .mv [.t 0], oo 9 .len [.t 8], oo 10 .mv [kk 0]]) (.block 0 (.loop c_piece_mapped_api_Event_p5))) c_piece_mapped_api_Event_p7)
abbrev c_piece_mapped_api_Event_p9 : VC := (.seq (.ops 0 [oo 5 .mv [(.c (.sl 0 [] .exact))]]) c_piece_mapped_api_Event_p8)
def c_piece_mapped_api_Event : VC := (.seq (.ops 0 [oo 4 .mv [(.c (.sl 0 [] .exact))]]) c_piece_mapped_api_Event_p9)
theorem k_piece_mapped_api_Event : Comp Tryz.prog nobx gtab 172 22 c_piece_mapped_api_Event [.t 4] := ⟨⟨Tryz.f172, _, Tryz.func172, rfl, rfl, kr, kr⟩⟩
abbrev c_piece_rewritten_1_p1 : VC := (.seq (.ops 0 [od 4 .ld1 [.t 1] [], od 5 (.ldA 6) [.t 2] [], od 6 (.call 174) [.t 5] [1], oo 7 .callv [.t 4, .t 6], ⟨none, none, (.st 6), [.t 3, .t 7], none⟩]) .ret)
def c_piece_rewritten_1 : VC := (.seq (.ops 2 [oo 2 (.box 136) [.t 0], ⟨(some 3), none, (.alloc 136 [(.lit (.bool false)), li 0, (.lit (.bool false)), (.lit (.bool false)), (.lit (.bool false)), (.sl 0 [] .exact)]), [], none⟩]) c_piece_rewritten_1_p1)
theorem k_piece_rewritten_1 : Comp Tryz.prog nobx gtab 173 8 c_piece_rewritten_1 [(.c 3 6 true)] := ⟨⟨Tryz.f173, _, Tryz.func173, rfl, rfl, kr, kr⟩⟩
abbrev c_piece_copied_p1 : VC := (.seq (.ops 0 [oo 7 (.ldA 6) [.t 1], ⟨none, none, (.st 6), [.t 2, .t 7], none⟩]) .ret)
abbrev c_piece_copied_p2 : VC := (.seq (.ops 0 [oo 3 (.fldA 5) [.t 1], oo 4 .ld1 [.t 3], oo 5 (.call 157) [.t 4], oo 6 (.fldA 5) [.t 1], ⟨none, none, (.st 1), [.t 6, .t 5], none⟩]) c_piece_copied_p1)
def c_piece_copied : VC := (.seq (.ops 2 [oo 1 (.box 136) [.t 0], ⟨(some 2), none, (.alloc 136 [(.lit (.bool false)), li 0, (.lit (.bool false)), (.lit (.bool false)), (.lit (.bool false)), (.sl 0 [] .exact)]), [], none⟩]) c_piece_copied_p2)
theorem k_piece_copied : Comp Tryz.prog nobx gtab 174 8 c_piece_copied [(.c 2 6 true)] := ⟨⟨Tryz.f174, _, Tryz.func174, rfl, rfl, kr, kr⟩⟩
abbrev c_piece_copiedInstrument_p1 : VC := (.seq (.ops 0 [oo 3 (.fldA 0) [.t 1], od 4 .ld1 [.t 3] [0], od 5 (.call 134) [.t 4] [0, 1], oo 6 (.fldA 1) [.t 1], od 7 .ld1 [.t 6] [3], oo 8 (.call 135) [.t 7], ⟨(some 9), none, (.build [(.sl 0 [] .exact), (.sl 0 [] .exact)] [(0, 1), (1, 1)]), [.t 5, .t 8], none⟩, ⟨none, none, (.st 2), [.t 2, .t 9], none⟩]) .ret)
def c_piece_copiedInstrument : VC := (.seq (.ops 2 [oo 1 (.box 25) [.t 0], ⟨(some 2), none, (.alloc 25 [(.sl 0 [] .exact), (.sl 0 [] .exact)]), [], none⟩]) c_piece_copiedInstrument_p1)
theorem k_piece_copiedInstrument : Comp Tryz.prog nobx gtab 171 10 c_piece_copiedInstrument [(.c 2 2 true)] := ⟨⟨Tryz.f171, _, Tryz.func171, rfl, rfl, kr, kr⟩⟩
abbrev c_piece_Plain_p1 : VC := (.seq (.ops 0 [oo 6 (.ldA 3) [.t 1], oo 7 (.mkfn 112) [.t 4], oo 8 (.call 108) [.t 6, .t 7], oo 9 (.ext 0) [.t 8], oo 10 (.ext 1) [.t 8], ⟨none, none, (.st 3), [.t 2, .t 9], none⟩, oo 3 .mv [.t 10]]) .ret)
abbrev c_piece_Plain_p2 : VC := (.seq (.ops 3 [oo 5 (.build [li 0, (.lit (.bool false)), (.lit (.bool false))] []) [], oo 4 (.alloc 110 [li 0, (.lit (.bool false)), (.lit (.bool false))]) [], ⟨none, none, (.st 3), [.t 4, .t 5], none⟩]) c_piece_Plain_p1)
def c_piece_Plain : VC := (.seq (.ops 3 [oo 1 (.box 49) [.t 0], ⟨(some 2), none, (.alloc 49 [(.sl 0 [] .exact), (.sl 0 [] .exact), (.sl 0 [] .exact)]), [], none⟩, oo 3 .mv [kk 0]]) c_piece_Plain_p2)
theorem k_piece_Plain : Comp Tryz.prog nobx gtab 47 11 c_piece_Plain [(.c 2 3 true), .t 3] := ⟨⟨Tryz.f47, _, Tryz.func47, rfl, rfl, kr, kr⟩⟩
abbrev c_piece_Plain_1_p1 : VC := (.ops 0 [oo 8 (.fldA 1) [.t 2], oo 9 (.ldA 3) [.t 8], ⟨none, none, (.st 3), [.t 1, .t 9], none⟩])
abbrev c_piece_Plain_1_p2 : VC := (.seq (.ops 0 [oo 12 (.ldA 6) [.t 2], ⟨none, none, (.st 6), [.t 3, .t 12], none⟩]) .ret)
abbrev c_piece_Plain_1_p3 : VC := (.seq (.ops 0 [oo 10 (.ldA 3) [.t 1], oo 11 (.fldA 1) [.t 2], ⟨none, none, (.st 3), [.t 11, .t 10], none⟩]) c_piece_Plain_1_p2)
abbrev c_piece_Plain_1_p4 : VC := (.seq (.seq (.ops 0 [oo 4 (.fldA 1) [.t 2], oo 5 (.ldA 3) [.t 4], oo 6 (.build [li 0, (.lit (.bool false)), (.lit (.bool false))] []) [], oo 7 (.eqP [(0, 0), (1, 1), (2, 1)] true) [.t 5, .t 6]]) (.cond (.t 7) c_piece_Plain_1_p1 .skip)) c_piece_Plain_1_p3)
def c_piece_Plain_1 : VC := (.seq (.ops 2 [oo 2 (.box 136) [.t 0], ⟨(some 3), none, (.alloc 136 [(.lit (.bool false)), li 0, (.lit (.bool false)), (.lit (.bool false)), (.lit (.bool false)), (.sl 0 [] .exact)]), [], none⟩]) c_piece_Plain_1_p4)
theorem k_piece_Plain_1 : Comp Tryz.prog nobx gtab 112 13 c_piece_Plain_1 [(.c 3 6 true)] := ⟨⟨Tryz.f112, _, Tryz.func112, rfl, rfl, kr, kr⟩⟩
abbrev c_slices_Clone_api_Stop_api_Stop_p1 : VC := (.seq (.ops 0 [oo 2 .mv [(.c (.sl 0 [] .exact))]]) .ret)
abbrev c_slices_Clone_api_Stop_api_Stop_p2 : VC := (.seq (.ops 4 [oo 5 (.mksl 0 5 [] []) [], oo 6 .mv [.t 0], oo 7 (.app 152 5 40) [.t 5, .t 6], oo 2 .mv [.t 7]]) .ret)
abbrev c_slices_Clone_api_Stop_api_Stop_p3 : VC := (.seq (.seq (.ops 0 [oo 3 .mv [.t 0], oo 4 (.eqN false) [.t 3]]) (.cond (.t 4) c_slices_Clone_api_Stop_api_Stop_p1 .skip)) c_slices_Clone_api_Stop_api_Stop_p2)
def c_slices_Clone_api_Stop_api_Stop : VC := (.seq (.ops 0 [oo 2 .mv [(.c (.sl 0 [] .exact))]]) c_slices_Clone_api_Stop_api_Stop_p3)
theorem k_slices_Clone_api_Stop_api_Stop : Comp Tryz.prog nobx gtab 157 8 c_slices_Clone_api_Stop_api_Stop [.t 2] := ⟨⟨Tryz.f157, _, Tryz.func157, rfl, rfl, kr, kr⟩⟩
abbrev c_leaf_Of_p1 : VC := (.seq (.ops 0 [⟨(some 21), none, (.build [(.sl 0 [] .exact), (.sl 0 [] .exact), (.sl 0 [] .exact)] []), [], none⟩, oo 22 .mv [.t 5], ⟨none, none, (.st 3), [.t 2, .t 21], none⟩, oo 3 .mv [.t 22]]) .ret)
abbrev c_leaf_Of_p2 : VC := (.ops 0 [oo 61 (.fldA 1) [.t 13], oo 62 .ld1 [.t 61], oo 11 .mv [.t 62]])
abbrev c_leaf_Of_p3 : VC := (.seq (.ops 0 [oo 56 (.fldA 0) [.t 13], oo 57 .ld1 [.t 56], oo 58 .mv [.t 10], oo 59 (.bin .add) [.t 58, kk 1], oo 60 (.bin .eql) [.t 57, .t 59]]) (.cond (.t 60) c_leaf_Of_p2 .skip))
abbrev c_leaf_Of_p4 : VC := (.ops 0 [oo 63 (.bin .add) [.t 52, kk 1], oo 52 .mv [.t 63]])
abbrev c_leaf_Of_p5 : VC := (.seq (.block 5 (.seq (.ops 4 [oo 54 (.ixA 5) [.t 50, .t 52], oo 55 (.ldA 5) [.t 54], oo 13 (.alloc 152 [li 0, li 0, li 0, li 0, li 0]) [], ⟨none, none, (.st 5), [.t 13, .t 55], none⟩]) c_leaf_Of_p3)) c_leaf_Of_p4)
abbrev c_leaf_Of_p6 : VC := (.seq (.ops 0 [oo 53 (.bin .lss) [.t 52, .t 51]]) (.seq (.cond (.t 53) .skip (.exit 4)) c_leaf_Of_p5))
@[go_sem] abbrev w_leaf_Of_p6 : Nat := 18442240474082191360
abbrev c_leaf_Of_p8 : VC := (.ops 8 [oo 64 (.fldA 3) [.t 9], oo 65 .ld1 [.t 64], oo 66 .mv [.t 11], oo 67 (.mksl 1 1 [li 0] [(0, 1)]) [.t 66], ⟨(some 68), none, (.mksl 1 1 [(.sl 0 [] .exact)] [(0, 1)]), [.t 67], none⟩, oo 69 (.app 23 1 24) [.t 65, .t 68], oo 70 (.fldA 3) [.t 9], ⟨none, none, (.st 1), [.t 70, .t 69], none⟩])
abbrev c_leaf_Of_p9 : VC := (.seq (.seq (.ops 0 [oo 49 (.fldA 5) [.t 8], oo 50 .ld1 [.t 49], oo 51 .len [.t 50], oo 52 .mv [kk 0]]) (.block 4 (.loop c_leaf_Of_p6))) c_leaf_Of_p8)
abbrev c_leaf_Of_p10 : VC := (.seq (.ops 0 [oo 11 .mv [kk (-1)]]) c_leaf_Of_p9)
abbrev c_leaf_Of_p11 : VC := (.ops 0 [oo 71 (.bin .add) [.t 46, kk 1], oo 46 .mv [.t 71]])
abbrev c_leaf_Of_p12 : VC := (.seq (.block 3 (.seq (.ops 0 [oo 48 .mv [.t 46], oo 10 .mv [.t 48]]) c_leaf_Of_p10)) c_leaf_Of_p11)
abbrev c_leaf_Of_p13 : VC := (.seq (.ops 0 [oo 47 (.bin .lss) [.t 46, .t 45]]) (.seq (.cond (.t 47) .skip (.exit 2)) c_leaf_Of_p12))
@[go_sem] abbrev w_leaf_Of_p13 : Nat := 4722366412500901047296
abbrev c_leaf_Of_p15 : VC := (.ops 7 [oo 72 (.fldA 2) [.t 6], oo 73 .ld1 [.t 72], oo 74 (.ldA 4) [.t 9], ⟨(some 75), none, (.mksl 1 4 [(.lit (.bool false)), (.lit (.bool false)), (.sl 0 [] .exact), (.sl 0 [] .exact)] [(0, 4)]), [.t 74], none⟩, oo 76 (.app 84 4 56) [.t 73, .t 75], oo 77 (.fldA 2) [.t 6], ⟨none, none, (.st 1), [.t 77, .t 76], none⟩])
abbrev c_leaf_Of_p16 : VC := (.seq (.seq (.ops 0 [oo 42 (.fldA 0) [.t 1], oo 43 (.fldA 0) [.t 42], oo 44 .ld1 [.t 43], oo 45 .len [.t 44], oo 46 .mv [kk 0]]) (.block 2 (.loop c_leaf_Of_p13))) c_leaf_Of_p15)
abbrev c_leaf_Of_p17 : VC := (.seq (.ops 10 [oo 34 (.fldA 0) [.t 8], oo 35 .ld1 [.t 34], oo 36 (.fldA 4) [.t 8], oo 37 .ld1 [.t 36], oo 38 (.fldA 1) [.t 8], oo 39 (.ldA 3) [.t 38], oo 40 (.mksl 1 3 [li 0, (.lit (.bool false)), (.lit (.bool false))] [(0, 3)]) [.t 39], ⟨(some 41), none, (.build [(.lit (.bool false)), (.lit (.bool false)), (.sl 0 [] .exact), (.sl 0 [] .exact)] [(0, 1), (1, 1), (2, 1)]), [.t 35, .t 37, .t 40], none⟩, ⟨(some 9), none, (.alloc 84 [(.lit (.bool false)), (.lit (.bool false)), (.sl 0 [] .exact), (.sl 0 [] .exact)]), [], none⟩, ⟨none, none, (.st 4), [.t 9, .t 41], none⟩]) c_leaf_Of_p16)
abbrev c_leaf_Of_p18 : VC := (.ops 0 [oo 78 (.bin .add) [.t 30, kk 1], oo 30 .mv [.t 78]])
abbrev c_leaf_Of_p19 : VC := (.seq (.block 1 (.seq (.ops 4 [oo 32 (.ixA 6) [.t 28, .t 30], oo 33 (.ldA 6) [.t 32], ⟨(some 8), none, (.alloc 136 [(.lit (.bool false)), li 0, (.lit (.bool false)), (.lit (.bool false)), (.lit (.bool false)), (.sl 0 [] .exact)]), [], none⟩, ⟨none, none, (.st 6), [.t 8, .t 33], none⟩]) c_leaf_Of_p17)) c_leaf_Of_p18)
abbrev c_leaf_Of_p20 : VC := (.seq (.ops 0 [oo 31 (.bin .lss) [.t 30, .t 29]]) (.seq (.cond (.t 31) .skip (.exit 0)) c_leaf_Of_p19))
@[go_sem] abbrev w_leaf_Of_p20 : Nat := 604462909807313513623296
abbrev c_leaf_Of_p22 : VC := (.seq (.ops 0 [oo 79 (.ldA 3) [.t 6], ⟨none, none, (.st 3), [.t 2, .t 79], none⟩, oo 3 .mv [kk 0]]) .ret)
abbrev c_leaf_Of_p23 : VC := (.seq (.seq (.ops 0 [oo 27 (.fldA 2) [.t 4], oo 28 .ld1 [.t 27], oo 29 .len [.t 28], oo 30 .mv [kk 0]]) (.block 0 (.loop c_leaf_Of_p20))) c_leaf_Of_p22)
abbrev c_leaf_Of_p24 : VC := (.seq (.ops 6 [oo 23 (.fldA 0) [.t 1], oo 24 (.ldA 2) [.t 23], oo 25 (.call 63) [.t 24], ⟨(some 26), none, (.build [(.sl 0 [] .exact), (.sl 0 [] .exact), (.sl 0 [] .exact)] [(0, 2)]), [.t 25], none⟩, ⟨(some 6), none, (.alloc 28 [(.sl 0 [] .exact), (.sl 0 [] .exact), (.sl 0 [] .exact)]), [], none⟩, ⟨none, none, (.st 3), [.t 6, .t 26], none⟩]) c_leaf_Of_p23)
abbrev c_leaf_Of_p25 : VC := (.seq (.seq (.ops 0 [oo 19 .mv [.t 5], oo 20 (.bin .neq) [.t 19, kk 0]]) (.cond (.t 20) c_leaf_Of_p1 .skip)) c_leaf_Of_p24)
abbrev c_leaf_Of_p26 : VC := (.seq (.ops 8 [oo 15 (.ldA 3) [.t 1], oo 16 (.call 47) [.t 15], oo 14 .mv [.t 16], oo 17 (.ext 0) [.t 14], oo 18 (.ext 1) [.t 14], ⟨(some 4), none, (.alloc 49 [(.sl 0 [] .exact), (.sl 0 [] .exact), (.sl 0 [] .exact)]), [], none⟩, ⟨none, none, (.st 3), [.t 4, .t 17], none⟩, oo 5 .mv [.t 18]]) c_leaf_Of_p25)
def c_leaf_Of : VC := (.seq (.ops 3 [oo 1 (.box 49) [.t 0], ⟨(some 2), none, (.alloc 28 [(.sl 0 [] .exact), (.sl 0 [] .exact), (.sl 0 [] .exact)]), [], none⟩, oo 3 .mv [kk 0]]) c_leaf_Of_p26)
theorem k_leaf_Of : Comp Tryz.prog nobx gtab 39 80 c_leaf_Of [(.c 2 3 true), .t 3] := ⟨⟨Tryz.f39, _, Tryz.func39, rfl, rfl, kr, kr⟩⟩
abbrev c_theorboref02_Check_p1 : VC := (.seq (.ops 0 [oo 10 .mv [.t 3], oo 2 .mv [.t 10]]) .ret)
abbrev c_theorboref02_Check_p2 : VC := (.seq (.ops 0 [oo 2 .mv [kk 2]]) .ret)
abbrev c_theorboref02_Check_p3 : VC := (.seq (.ops 0 [oo 27 .mv [.t 3], oo 2 .mv [.t 27]]) .ret)
abbrev c_theorboref02_Check_p4 : VC := (.seq (.ops 0 [oo 25 .mv [.t 3], oo 26 (.bin .neq) [.t 25, kk 0]]) (.cond (.t 26) c_theorboref02_Check_p3 .skip))
abbrev c_theorboref02_Check_p5 : VC := (.ops 0 [oo 20 .mv [.t 4], oo 21 (.bin .add) [.t 20, kk 1], oo 4 .mv [.t 21]])
abbrev c_theorboref02_Check_p6 : VC := (.seq (.block 1 (.seq (.ops 0 [oo 22 (.ldA 3) [.t 1], oo 23 .mv [.t 4], oo 24 (.call 219) [.t 22, .t 23], oo 3 .mv [.t 24]]) c_theorboref02_Check_p4)) c_theorboref02_Check_p5)
abbrev c_theorboref02_Check_p7 : VC := (.seq (.seq (.ops 0 [oo 15 .mv [.t 4], oo 16 (.fldA 2) [.t 1], oo 17 .ld1 [.t 16], oo 18 .len [.t 17], oo 19 (.bin .lss) [.t 15, .t 18]]) (.cond (.t 19) .skip (.exit 0))) c_theorboref02_Check_p6)
@[go_sem] abbrev w_theorboref02_Check_p7 : Nat := 268402716
abbrev c_theorboref02_Check_p9 : VC := (.seq (.ops 0 [oo 2 .mv [kk 0]]) .ret)
abbrev c_theorboref02_Check_p10 : VC := (.seq (.seq (.ops 0 [oo 4 .mv [kk 0]]) (.block 0 (.loop c_theorboref02_Check_p7))) c_theorboref02_Check_p9)
abbrev c_theorboref02_Check_p11 : VC := (.seq (.seq (.ops 0 [oo 11 (.fldA 2) [.t 1], oo 12 .ld1 [.t 11], oo 13 .len [.t 12], oo 14 (.bin .gtr) [.t 13, kk 400]]) (.cond (.t 14) c_theorboref02_Check_p2 .skip)) c_theorboref02_Check_p10)
abbrev c_theorboref02_Check_p12 : VC := (.seq (.seq (.ops 0 [oo 8 .mv [.t 3], oo 9 (.bin .neq) [.t 8, kk 0]]) (.cond (.t 9) c_theorboref02_Check_p1 .skip)) c_theorboref02_Check_p11)
abbrev c_theorboref02_Check_p13 : VC := (.seq (.ops 0 [oo 5 (.fldA 0) [.t 1], oo 6 (.ldA 2) [.t 5], oo 7 (.call 73) [.t 6], oo 3 .mv [.t 7]]) c_theorboref02_Check_p12)
def c_theorboref02_Check : VC := (.seq (.ops 2 [oo 1 (.box 49) [.t 0], oo 2 .mv [kk 0]]) c_theorboref02_Check_p13)
theorem k_theorboref02_Check : Comp Tryz.prog nobx gtab 163 28 c_theorboref02_Check [.t 2] := ⟨⟨Tryz.f163, _, Tryz.func163, rfl, rfl, kr, kr⟩⟩
abbrev c_theorboref02_event_p1 : VC := (.seq (.ops 0 [oo 4 .mv [kk 20]]) .ret)
abbrev c_theorboref02_event_p2 : VC := (.seq (.ops 0 [oo 4 .mv [kk 21]]) .ret)
abbrev c_theorboref02_event_p3 : VC := (.seq (.ops 0 [oo 4 .mv [kk 12]]) .ret)
abbrev c_theorboref02_event_p4 : VC := (.seq (.ops 0 [oo 4 .mv [kk 13]]) .ret)
abbrev c_theorboref02_event_p5 : VC := (.seq (.ops 0 [oo 4 .mv [kk 22]]) .ret)
abbrev c_theorboref02_event_p6 : VC := (.seq (.ops 0 [oo 4 .mv [kk 23]]) .ret)
abbrev c_theorboref02_event_p7 : VC := (.seq (.ops 0 [oo 4 .mv [kk 24]]) .ret)
abbrev c_theorboref02_event_p8 : VC := (.seq (.ops 0 [oo 112 (.fldA 4) [.t 7], oo 113 .ld1 [.t 112], oo 114 (.bin .lss) [.t 113, kk 0], oo 115 .mv [.t 114], og 116 115 false (.fldA 4) [.t 7], ⟨(some 117), (some (115, false)), .ld1, [.t 116], (some [0, 1, 2, 3, 4])⟩, ⟨(some 118), (some (115, false)), (.ldA 3), [.t 2], (some [0, 1, 2, 3])⟩, og 119 115 false .mv [.t 1], og 120 115 false (.fldA 0) [.t 7], ⟨(some 121), (some (115, false)), .ld1, [.t 120], (some [0, 1, 2, 3, 8])⟩, ⟨(some 122), (some (115, false)), (.call 260), [.t 118, .t 119, .t 121], (some [0, 1, 2, 3, 6, 7, 8, 9])⟩, og 123 115 false (.bin .gtr) [.t 117, .t 122], oo 124 .pick [.t 115, (.c (.lit (.bool true))), .t 123], oo 125 .mv [.t 124], og 126 125 false (.fldA 4) [.t 7], og 127 125 false .ld1 [.t 126], og 128 125 false (.bin .gtr) [.t 127, kk 0], og 129 125 false .mv [.t 128], og 130 129 true (.fldA 1) [.t 7], og 131 129 true .ld1 [.t 130], og 132 129 true (.bin .eql) [.t 131, kk 0], og 133 125 false .pick [.t 129, .t 132, (.c (.lit (.bool false)))], oo 134 .pick [.t 125, (.c (.lit (.bool true))), .t 133]]) (.cond (.t 134) c_theorboref02_event_p7 .skip))
abbrev c_theorboref02_event_p9 : VC := (.seq (.seq (.ops 0 [oo 94 (.fldA 2) [.t 7], oo 95 .ld1 [.t 94], oo 96 (.bin .lss) [.t 95, kk 0], oo 97 .mv [.t 96], og 98 97 false (.fldA 2) [.t 7], og 99 97 false .ld1 [.t 98], og 100 97 false (.bin .gtr) [.t 99, kk 3], oo 101 .pick [.t 97, (.c (.lit (.bool true))), .t 100], oo 102 .mv [.t 101], og 103 102 false (.fldA 3) [.t 7], og 104 102 false .ld1 [.t 103], og 105 102 false (.bin .lss) [.t 104, kk 0], oo 106 .pick [.t 102, (.c (.lit (.bool true))), .t 105], oo 107 .mv [.t 106], og 108 107 false (.fldA 3) [.t 7], og 109 107 false .ld1 [.t 108], og 110 107 false (.bin .gtr) [.t 109, kk 4], oo 111 .pick [.t 107, (.c (.lit (.bool true))), .t 110]]) (.cond (.t 111) c_theorboref02_event_p6 .skip)) c_theorboref02_event_p8)
abbrev c_theorboref02_event_p10 : VC := (.seq (.seq (.ops 0 [oo 80 .mv [.t 6], oo 81 (.bin .gtr) [.t 80, kk 0], oo 82 .mv [.t 81], og 83 82 true (.fldA 0) [.t 7], ⟨(some 84), (some (82, true)), .ld1, [.t 83], (some [0, 1, 2, 3])⟩, og 85 82 true (.fldA 5) [.t 5], ⟨(some 86), (some (82, true)), .ld1, [.t 85], (some [0, 1, 2, 5])⟩, og 87 82 true .mv [.t 6], og 88 82 true (.bin .sub) [.t 87, kk 1], og 89 82 true (.ixA 5) [.t 86, .t 88], og 90 82 true (.fldA 0) [.t 89], ⟨(some 91), (some (82, true)), .ld1, [.t 90], (some [0, 1, 2, 5, 6, 7, 8, 9, 10])⟩, og 92 82 true (.bin .leq) [.t 84, .t 91], oo 93 .pick [.t 82, .t 92, (.c (.lit (.bool false)))]]) (.cond (.t 93) c_theorboref02_event_p5 .skip)) c_theorboref02_event_p9)
abbrev c_theorboref02_event_p11 : VC := (.seq (.seq (.ops 0 [oo 63 (.fldA 1) [.t 7], oo 64 .ld1 [.t 63], oo 65 (.bin .lss) [.t 64, kk 0], oo 66 .mv [.t 65], og 67 66 false (.fldA 1) [.t 7], ⟨(some 68), (some (66, false)), .ld1, [.t 67], (some [0, 1, 2, 3, 4])⟩, og 69 66 false (.fldA 0) [.t 2], og 70 66 false (.fldA 0) [.t 69], ⟨(some 71), (some (66, false)), .ld1, [.t 70], (some [0, 1, 2, 3, 6, 7])⟩, og 72 66 false (.fldA 0) [.t 7], ⟨(some 73), (some (66, false)), .ld1, [.t 72], (some [0, 1, 2, 3, 9])⟩, og 74 66 false (.bin .sub) [.t 73, kk 1], og 75 66 false (.ixA 3) [.t 71, .t 74], og 76 66 false (.fldA 1) [.t 75], ⟨(some 77), (some (66, false)), .ld1, [.t 76], (some [0, 1, 2, 3, 6, 7, 8, 9, 10, 11, 12, 13])⟩, og 78 66 false (.bin .gtr) [.t 68, .t 77], oo 79 .pick [.t 66, (.c (.lit (.bool true))), .t 78]]) (.cond (.t 79) c_theorboref02_event_p4 .skip)) c_theorboref02_event_p10)
abbrev c_theorboref02_event_p12 : VC := (.seq (.seq (.ops 0 [oo 51 (.fldA 0) [.t 7], oo 52 .ld1 [.t 51], oo 53 (.bin .lss) [.t 52, kk 1], oo 54 .mv [.t 53], og 55 54 false (.fldA 0) [.t 7], og 56 54 false .ld1 [.t 55], og 57 54 false (.fldA 0) [.t 2], og 58 54 false (.fldA 0) [.t 57], og 59 54 false .ld1 [.t 58], og 60 54 false .len [.t 59], og 61 54 false (.bin .gtr) [.t 56, .t 60], oo 62 .pick [.t 54, (.c (.lit (.bool true))), .t 61]]) (.cond (.t 62) c_theorboref02_event_p3 .skip)) c_theorboref02_event_p11)
abbrev c_theorboref02_event_p13 : VC := (.ops 0 [oo 44 .mv [.t 6], oo 45 (.bin .add) [.t 44, kk 1], oo 6 .mv [.t 45]])
abbrev c_theorboref02_event_p14 : VC := (.seq (.block 1 (.seq (.ops 7 [oo 46 (.fldA 5) [.t 5], oo 47 .ld1 [.t 46], oo 48 .mv [.t 6], oo 49 (.ixA 5) [.t 47, .t 48], oo 50 (.ldA 5) [.t 49], oo 7 (.alloc 152 [li 0, li 0, li 0, li 0, li 0]) [], ⟨none, none, (.st 5), [.t 7, .t 50], none⟩]) c_theorboref02_event_p12)) c_theorboref02_event_p13)
abbrev c_theorboref02_event_p15 : VC := (.seq (.seq (.ops 0 [oo 39 .mv [.t 6], oo 40 (.fldA 5) [.t 5], oo 41 .ld1 [.t 40], oo 42 .len [.t 41], oo 43 (.bin .lss) [.t 39, .t 42]]) (.cond (.t 43) .skip (.exit 0))) c_theorboref02_event_p14)
@[go_sem] abbrev w_theorboref02_event_p15 : Nat := 43556142965880123323311949750716575252688
abbrev c_theorboref02_event_p17 : VC := (.seq (.ops 0 [oo 4 .mv [kk 0]]) .ret)
def c_theorboref02_event_p18 : VC := (.seq (.seq (.ops 0 [oo 6 .mv [kk 0]]) (.block 0 (.loop c_theorboref02_event_p15))) c_theorboref02_event_p17)
abbrev c_theorboref02_event_p19 : VC := (.seq (.seq (.ops 0 [oo 27 (.fldA 4) [.t 5], oo 28 .ld1 [.t 27], oo 29 .mv [.t 28], og 30 29 true (.fldA 5) [.t 5], og 31 29 true .ld1 [.t 30], og 32 29 true .len [.t 31], og 33 29 true (.bin .gtr) [.t 32, kk 0], og 34 29 true .mv [.t 33], og 35 34 false .mv [.t 1], og 36 34 false (.bin .eql) [.t 35, kk 0], og 37 29 true .pick [.t 34, (.c (.lit (.bool true))), .t 36], oo 38 .pick [.t 29, .t 37, (.c (.lit (.bool false)))]]) (.cond (.t 38) c_theorboref02_event_p2 .skip)) c_theorboref02_event_p18)
abbrev c_theorboref02_event_p20 : VC := (.seq (.seq (.ops 0 [oo 13 (.fldA 1) [.t 5], oo 14 (.ldA 3) [.t 13], oo 15 (.call 204) [.t 14], oo 16 (.un .not) [.t 15], oo 17 .mv [.t 16], og 18 17 false .mv [.t 1], og 19 17 false (.bin .eql) [.t 18, kk 0], og 20 17 false .mv [.t 19], og 21 20 true (.fldA 1) [.t 5], og 22 20 true (.fldA 0) [.t 21], og 23 20 true .ld1 [.t 22], og 24 20 true (.bin .eql) [.t 23, kk 0], og 25 17 false .pick [.t 20, .t 24, (.c (.lit (.bool false)))], oo 26 .pick [.t 17, (.c (.lit (.bool true))), .t 25]]) (.cond (.t 26) c_theorboref02_event_p1 .skip)) c_theorboref02_event_p19)
abbrev c_theorboref02_event_p21 : VC := (.seq (.ops 7 [oo 8 (.fldA 2) [.t 2], oo 9 .ld1 [.t 8], oo 10 .mv [.t 1], oo 11 (.ixA 6) [.t 9, .t 10], oo 12 (.ldA 6) [.t 11], ⟨(some 5), none, (.alloc 136 [(.lit (.bool false)), li 0, (.lit (.bool false)), (.lit (.bool false)), (.lit (.bool false)), (.sl 0 [] .exact)]), [], none⟩, ⟨none, none, (.st 6), [.t 5, .t 12], none⟩]) c_theorboref02_event_p20)
def c_theorboref02_event : VC := (.seq (.ops 2 [oo 2 (.box 49) [.t 0], oo 4 .mv [kk 0]]) c_theorboref02_event_p21)
theorem k_theorboref02_event : Comp Tryz.prog nobx gtab 219 135 c_theorboref02_event [.t 4] := ⟨⟨Tryz.f219, _, Tryz.func219, rfl, rfl, kr, kr⟩⟩
abbrev c_theorboref02_Longest_p1 : VC := (.seq (.ops 0 [oo 6 .mv [kk 0]]) .ret)
abbrev c_theorboref02_Longest_p2 : VC := (.ops 0 [oo 45 .mv [.t 7], oo 46 (.bin .add) [.t 45, kk 1], oo 7 .mv [.t 46]])
abbrev c_theorboref02_Longest_p3 : VC := (.seq (.seq (.ops 0 [oo 38 (.ldA 6) [.t 8], oo 39 (.call 314) [.t 38], oo 40 .mv [.t 39], og 41 40 false (.ldA 6) [.t 8], og 42 40 false .mv [.t 2], og 43 40 false (.call 315) [.t 41, .t 42], oo 44 .pick [.t 40, (.c (.lit (.bool true))), .t 43]]) (.cond (.t 44) (.exit 0) .skip)) c_theorboref02_Longest_p2)
abbrev c_theorboref02_Longest_p4 : VC := (.block 1 (.seq (.ops 10 [oo 30 (.fldA 2) [.t 3], oo 31 .ld1 [.t 30], oo 32 .mv [.t 1], oo 33 .mv [.t 7], oo 34 (.bin .add) [.t 32, .t 33], oo 35 (.bin .add) [.t 34, kk 1], oo 36 (.ixA 6) [.t 31, .t 35], oo 37 (.ldA 6) [.t 36], ⟨(some 8), none, (.alloc 136 [(.lit (.bool false)), li 0, (.lit (.bool false)), (.lit (.bool false)), (.lit (.bool false)), (.sl 0 [] .exact)]), [], none⟩, ⟨none, none, (.st 6), [.t 8, .t 37], none⟩]) c_theorboref02_Longest_p3))
abbrev c_theorboref02_Longest_p5 : VC := (.seq (.seq (.ops 0 [oo 18 .mv [.t 7], oo 19 (.bin .lss) [.t 18, kk 15], oo 20 .mv [.t 19], og 21 20 true .mv [.t 1], og 22 20 true .mv [.t 7], og 23 20 true (.bin .add) [.t 21, .t 22], og 24 20 true (.bin .add) [.t 23, kk 1], og 25 20 true (.fldA 2) [.t 3], og 26 20 true .ld1 [.t 25], og 27 20 true .len [.t 26], og 28 20 true (.bin .lss) [.t 24, .t 27], oo 29 .pick [.t 20, .t 28, (.c (.lit (.bool false)))]]) (.cond (.t 29) .skip (.exit 0))) c_theorboref02_Longest_p4)
@[go_sem] abbrev w_theorboref02_Longest_p5 : Nat := 140737488093568
abbrev c_theorboref02_Longest_p7 : VC := (.seq (.ops 0 [oo 47 .mv [.t 7], oo 6 .mv [.t 47]]) .ret)
abbrev c_theorboref02_Longest_p8 : VC := (.seq (.block 0 (.loop c_theorboref02_Longest_p5)) c_theorboref02_Longest_p7)
abbrev c_theorboref02_Longest_p9 : VC := (.seq (.ops 0 [oo 7 .mv [kk 0]]) c_theorboref02_Longest_p8)
abbrev c_theorboref02_Longest_p10 : VC := (.seq (.seq (.ops 0 [oo 9 .mv [.t 1], oo 10 (.bin .lss) [.t 9, kk 0], oo 11 .mv [.t 10], og 12 11 false .mv [.t 1], og 13 11 false (.fldA 2) [.t 3], og 14 11 false .ld1 [.t 13], og 15 11 false .len [.t 14], og 16 11 false (.bin .geq) [.t 12, .t 15], oo 17 .pick [.t 11, (.c (.lit (.bool true))), .t 16]]) (.cond (.t 17) c_theorboref02_Longest_p1 .skip)) c_theorboref02_Longest_p9)
def c_theorboref02_Longest : VC := (.seq (.ops 2 [oo 3 (.box 49) [.t 0], oo 6 .mv [kk 0]]) c_theorboref02_Longest_p10)
theorem k_theorboref02_Longest : Comp Tryz.prog nobx gtab 260 48 c_theorboref02_Longest [.t 6] := ⟨⟨Tryz.f260, _, Tryz.func260, rfl, rfl, kr, kr⟩⟩
abbrev c_theorboref02_Rest_p1 : VC := (.seq (.ops 0 [oo 3 (.fldA 5) [.t 1], oo 4 .ld1 [.t 3], oo 5 .len [.t 4], oo 6 (.bin .eql) [.t 5, kk 0], oo 7 .mv [.t 6], og 8 7 true (.fldA 4) [.t 1], og 9 7 true .ld1 [.t 8], og 10 7 true (.un .not) [.t 9], oo 11 .pick [.t 7, .t 10, (.c (.lit (.bool false)))], oo 2 .mv [.t 11]]) .ret)
def c_theorboref02_Rest : VC := (.seq (.ops 2 [oo 1 (.box 136) [.t 0], oo 2 .mv [(.c (.lit (.bool false)))]]) c_theorboref02_Rest_p1)
theorem k_theorboref02_Rest : Comp Tryz.prog nobx gtab 314 12 c_theorboref02_Rest [.t 2] := ⟨⟨Tryz.f314, _, Tryz.func314, rfl, rfl, kr, kr⟩⟩
abbrev c_theorboref02_Has_p1 : VC := (.seq (.ops 0 [oo 4 .mv [(.c (.lit (.bool true)))]]) .ret)
abbrev c_theorboref02_Has_p2 : VC := (.ops 0 [oo 11 .mv [.t 5], oo 12 (.bin .add) [.t 11, kk 1], oo 5 .mv [.t 12]])
abbrev c_theorboref02_Has_p3 : VC := (.seq (.block 1 (.seq (.ops 0 [oo 13 (.fldA 5) [.t 2], oo 14 .ld1 [.t 13], oo 15 .mv [.t 5], oo 16 (.ixA 5) [.t 14, .t 15], oo 17 (.fldA 0) [.t 16], oo 18 .ld1 [.t 17], oo 19 .mv [.t 1], oo 20 (.bin .eql) [.t 18, .t 19]]) (.cond (.t 20) c_theorboref02_Has_p1 .skip))) c_theorboref02_Has_p2)
abbrev c_theorboref02_Has_p4 : VC := (.seq (.seq (.ops 0 [oo 6 .mv [.t 5], oo 7 (.fldA 5) [.t 2], oo 8 .ld1 [.t 7], oo 9 .len [.t 8], oo 10 (.bin .lss) [.t 6, .t 9]]) (.cond (.t 10) .skip (.exit 0))) c_theorboref02_Has_p3)
@[go_sem] abbrev w_theorboref02_Has_p4 : Nat := 2097136
abbrev c_theorboref02_Has_p6 : VC := (.seq (.ops 0 [oo 4 .mv [(.c (.lit (.bool false)))]]) .ret)
abbrev c_theorboref02_Has_p7 : VC := (.seq (.seq (.ops 0 [oo 5 .mv [kk 0]]) (.block 0 (.loop c_theorboref02_Has_p4))) c_theorboref02_Has_p6)
def c_theorboref02_Has : VC := (.seq (.ops 2 [oo 2 (.box 136) [.t 0], oo 4 .mv [(.c (.lit (.bool false)))]]) c_theorboref02_Has_p7)
theorem k_theorboref02_Has : Comp Tryz.prog nobx gtab 315 21 c_theorboref02_Has [.t 4] := ⟨⟨Tryz.f315, _, Tryz.func315, rfl, rfl, kr, kr⟩⟩
abbrev c_theorboref02_Forces_p1 : VC := (.ops 0 [oo 22 (.fldA 2) [.t 1], oo 23 .ld1 [.t 22], oo 24 .mv [.t 5], oo 25 (.ixA 6) [.t 23, .t 24], oo 26 (.fldA 1) [.t 25], oo 27 (.ldA 3) [.t 26], ⟨none, none, (.st 3), [.t 4, .t 27], none⟩])
abbrev c_theorboref02_Forces_p2 : VC := (.ops 5 [oo 28 .mv [.t 3], oo 29 (.ldA 3) [.t 4], oo 30 (.mksl 1 3 [li 0, (.lit (.bool false)), (.lit (.bool false))] [(0, 3)]) [.t 29], oo 31 (.app 110 3 16) [.t 28, .t 30], oo 3 .mv [.t 31]])
abbrev c_theorboref02_Forces_p3 : VC := (.ops 0 [oo 12 .mv [.t 5], oo 13 (.bin .add) [.t 12, kk 1], oo 5 .mv [.t 13]])
abbrev c_theorboref02_Forces_p4 : VC := (.seq (.block 1 (.seq (.seq (.ops 0 [oo 14 (.fldA 2) [.t 1], oo 15 .ld1 [.t 14], oo 16 .mv [.t 5], oo 17 (.ixA 6) [.t 15, .t 16], oo 18 (.fldA 1) [.t 17], oo 19 (.fldA 0) [.t 18], oo 20 .ld1 [.t 19], oo 21 (.bin .neq) [.t 20, kk 0]]) (.cond (.t 21) c_theorboref02_Forces_p1 .skip)) c_theorboref02_Forces_p2)) c_theorboref02_Forces_p3)
abbrev c_theorboref02_Forces_p5 : VC := (.seq (.seq (.ops 0 [oo 7 .mv [.t 5], oo 8 (.fldA 2) [.t 1], oo 9 .ld1 [.t 8], oo 10 .len [.t 9], oo 11 (.bin .lss) [.t 7, .t 10]]) (.cond (.t 11) .skip (.exit 0))) c_theorboref02_Forces_p4)
@[go_sem] abbrev w_theorboref02_Forces_p5 : Nat := 4294967208
abbrev c_theorboref02_Forces_p7 : VC := (.seq (.ops 0 [oo 32 .mv [.t 3], oo 2 .mv [.t 32]]) .ret)
abbrev c_theorboref02_Forces_p8 : VC := (.seq (.seq (.ops 0 [oo 5 .mv [kk 0]]) (.block 0 (.loop c_theorboref02_Forces_p5))) c_theorboref02_Forces_p7)
abbrev c_theorboref02_Forces_p9 : VC := (.seq (.ops 3 [oo 6 (.build [li 0, (.lit (.bool false)), (.lit (.bool false))] []) [], oo 4 (.alloc 110 [li 0, (.lit (.bool false)), (.lit (.bool false))]) [], ⟨none, none, (.st 3), [.t 4, .t 6], none⟩]) c_theorboref02_Forces_p8)
abbrev c_theorboref02_Forces_p10 : VC := (.seq (.ops 0 [oo 3 .mv [(.c (.sl 0 [] .exact))]]) c_theorboref02_Forces_p9)
def c_theorboref02_Forces : VC := (.seq (.ops 2 [oo 1 (.box 49) [.t 0], oo 2 .mv [(.c (.sl 0 [] .exact))]]) c_theorboref02_Forces_p10)
theorem k_theorboref02_Forces : Comp Tryz.prog nobx gtab 165 33 c_theorboref02_Forces [.t 2] := ⟨⟨Tryz.f165, _, Tryz.func165, rfl, rfl, kr, kr⟩⟩
abbrev c_theorboref02_Plain_p1 : VC := (.seq (.ops 0 [⟨(some 12), none, (.build [(.sl 0 [] .exact), (.sl 0 [] .exact), (.sl 0 [] .exact)] []), [], none⟩, oo 13 .mv [.t 4], ⟨none, none, (.st 3), [.t 2, .t 12], none⟩, oo 3 .mv [.t 13]]) .ret)
abbrev c_theorboref02_Plain_p2 : VC := (.ops 0 [oo 22 .mv [.t 7], oo 23 (.bin .add) [.t 22, kk 1], oo 7 .mv [.t 23]])
abbrev c_theorboref02_Plain_p3 : VC := (.seq (.block 1 (.ops 0 [oo 24 (.fldA 2) [.t 5], od 25 .ld1 [.t 24] [0], oo 26 .mv [.t 7], oo 27 .mv [.t 6], oo 28 .mv [.t 7], oo 29 (.ixA 3) [.t 27, .t 28], od 30 (.ldA 3) [.t 29] [3, 4, 5], oo 31 (.ixA 6) [.t 25, .t 26], oo 32 (.fldA 1) [.t 31], ⟨none, none, (.st 3), [.t 32, .t 30], none⟩])) c_theorboref02_Plain_p2)
abbrev c_theorboref02_Plain_p4 : VC := (.seq (.seq (.ops 0 [oo 18 .mv [.t 7], oo 19 .mv [.t 6], oo 20 .len [.t 19], oo 21 (.bin .lss) [.t 18, .t 20]]) (.cond (.t 21) .skip (.exit 0))) c_theorboref02_Plain_p3)
@[go_sem] abbrev w_theorboref02_Plain_p4 : Nat := 8589672576
abbrev c_theorboref02_Plain_p6 : VC := (.seq (.ops 0 [oo 33 (.ldA 3) [.t 5], ⟨none, none, (.st 3), [.t 2, .t 33], none⟩, oo 3 .mv [kk 0]]) .ret)
abbrev c_theorboref02_Plain_p7 : VC := (.seq (.seq (.ops 0 [oo 7 .mv [kk 0]]) (.block 0 (.loop c_theorboref02_Plain_p4))) c_theorboref02_Plain_p6)
abbrev c_theorboref02_Plain_p8 : VC := (.seq (.ops 0 [oo 16 (.ldA 3) [.t 1], oo 17 (.call 165) [.t 16], oo 6 .mv [.t 17]]) c_theorboref02_Plain_p7)
abbrev c_theorboref02_Plain_p9 : VC := (.seq (.ops 4 [oo 14 (.ldA 3) [.t 1], oo 15 (.call 164) [.t 14], ⟨(some 5), none, (.alloc 49 [(.sl 0 [] .exact), (.sl 0 [] .exact), (.sl 0 [] .exact)]), [], none⟩, ⟨none, none, (.st 3), [.t 5, .t 15], none⟩]) c_theorboref02_Plain_p8)
abbrev c_theorboref02_Plain_p10 : VC := (.seq (.seq (.ops 0 [oo 10 .mv [.t 4], oo 11 (.bin .neq) [.t 10, kk 0]]) (.cond (.t 11) c_theorboref02_Plain_p1 .skip)) c_theorboref02_Plain_p9)
abbrev c_theorboref02_Plain_p11 : VC := (.seq (.ops 0 [oo 8 (.ldA 3) [.t 1], oo 9 (.call 163) [.t 8], oo 4 .mv [.t 9]]) c_theorboref02_Plain_p10)
def c_theorboref02_Plain : VC := (.seq (.ops 3 [oo 1 (.box 49) [.t 0], ⟨(some 2), none, (.alloc 49 [(.sl 0 [] .exact), (.sl 0 [] .exact), (.sl 0 [] .exact)]), [], none⟩, oo 3 .mv [kk 0]]) c_theorboref02_Plain_p11)
theorem k_theorboref02_Plain : Comp Tryz.prog nobx gtab 94 34 c_theorboref02_Plain [(.c 2 3 true), .t 3] := ⟨⟨Tryz.f94, _, Tryz.func94, rfl, rfl, kr, kr⟩⟩
abbrev c_theorboref10_Of_p1 : VC := (.seq (.ops 0 [⟨(some 19), none, (.build [(.sl 0 [] .exact), (.sl 0 [] .exact), (.sl 0 [] .exact)] []), [], none⟩, oo 20 .mv [.t 4], ⟨none, none, (.st 3), [.t 2, .t 19], none⟩, oo 3 .mv [.t 20]]) .ret)
abbrev c_theorboref10_Of_p2 : VC := (.ops 0 [oo 68 (.fldA 5) [.t 7], oo 69 .ld1 [.t 68], oo 70 .mv [.t 11], oo 71 (.ixA 5) [.t 69, .t 70], oo 72 (.fldA 1) [.t 71], oo 73 .ld1 [.t 72], oo 10 .mv [.t 73]])
abbrev c_theorboref10_Of_p3 : VC := (.ops 0 [oo 57 .mv [.t 11], oo 58 (.bin .add) [.t 57, kk 1], oo 11 .mv [.t 58]])
abbrev c_theorboref10_Of_p4 : VC := (.seq (.block 5 (.seq (.ops 0 [oo 59 (.fldA 5) [.t 7], oo 60 .ld1 [.t 59], oo 61 .mv [.t 11], oo 62 (.ixA 5) [.t 60, .t 61], oo 63 (.fldA 0) [.t 62], oo 64 .ld1 [.t 63], oo 65 .mv [.t 9], oo 66 (.bin .add) [.t 65, kk 1], oo 67 (.bin .eql) [.t 64, .t 66]]) (.cond (.t 67) c_theorboref10_Of_p2 .skip))) c_theorboref10_Of_p3)
abbrev c_theorboref10_Of_p5 : VC := (.seq (.seq (.ops 0 [oo 52 .mv [.t 11], oo 53 (.fldA 5) [.t 7], oo 54 .ld1 [.t 53], oo 55 .len [.t 54], oo 56 (.bin .lss) [.t 52, .t 55]]) (.cond (.t 56) .skip (.exit 4))) c_theorboref10_Of_p4)
@[go_sem] abbrev w_theorboref10_Of_p5 : Nat := 18889461427878953487360
abbrev c_theorboref10_Of_p7 : VC := (.ops 8 [oo 74 (.fldA 3) [.t 8], oo 75 .ld1 [.t 74], oo 76 .mv [.t 10], oo 77 (.mksl 1 1 [li 0] [(0, 1)]) [.t 76], ⟨(some 78), none, (.mksl 1 1 [(.sl 0 [] .exact)] [(0, 1)]), [.t 77], none⟩, oo 79 (.app 23 1 24) [.t 75, .t 78], oo 80 (.fldA 3) [.t 8], ⟨none, none, (.st 1), [.t 80, .t 79], none⟩])
abbrev c_theorboref10_Of_p8 : VC := (.seq (.seq (.ops 0 [oo 11 .mv [kk 0]]) (.block 4 (.loop c_theorboref10_Of_p5))) c_theorboref10_Of_p7)
abbrev c_theorboref10_Of_p9 : VC := (.ops 0 [oo 50 .mv [.t 9], oo 51 (.bin .add) [.t 50, kk 1], oo 9 .mv [.t 51]])
abbrev c_theorboref10_Of_p10 : VC := (.seq (.block 3 (.seq (.ops 0 [oo 10 .mv [kk (-1)]]) c_theorboref10_Of_p8)) c_theorboref10_Of_p9)
abbrev c_theorboref10_Of_p11 : VC := (.seq (.seq (.ops 0 [oo 44 .mv [.t 9], oo 45 (.fldA 0) [.t 1], oo 46 (.fldA 0) [.t 45], oo 47 .ld1 [.t 46], oo 48 .len [.t 47], oo 49 (.bin .lss) [.t 44, .t 48]]) (.cond (.t 49) .skip (.exit 2))) c_theorboref10_Of_p10)
@[go_sem] abbrev w_theorboref10_Of_p11 : Nat := 2417851639211666163371520
abbrev c_theorboref10_Of_p13 : VC := (.ops 7 [oo 81 (.fldA 2) [.t 5], oo 82 .ld1 [.t 81], oo 83 (.ldA 4) [.t 8], ⟨(some 84), none, (.mksl 1 4 [(.lit (.bool false)), (.lit (.bool false)), (.sl 0 [] .exact), (.sl 0 [] .exact)] [(0, 4)]), [.t 83], none⟩, oo 85 (.app 84 4 56) [.t 82, .t 84], oo 86 (.fldA 2) [.t 5], ⟨none, none, (.st 1), [.t 86, .t 85], none⟩])
abbrev c_theorboref10_Of_p14 : VC := (.seq (.seq (.ops 0 [oo 9 .mv [kk 0]]) (.block 2 (.loop c_theorboref10_Of_p11))) c_theorboref10_Of_p13)
abbrev c_theorboref10_Of_p15 : VC := (.seq (.ops 10 [oo 36 (.fldA 0) [.t 7], oo 37 .ld1 [.t 36], oo 38 (.fldA 4) [.t 7], oo 39 .ld1 [.t 38], oo 40 (.fldA 1) [.t 7], oo 41 (.ldA 3) [.t 40], oo 42 (.mksl 1 3 [li 0, (.lit (.bool false)), (.lit (.bool false))] [(0, 3)]) [.t 41], ⟨(some 43), none, (.build [(.lit (.bool false)), (.lit (.bool false)), (.sl 0 [] .exact), (.sl 0 [] .exact)] [(0, 1), (1, 1), (2, 1)]), [.t 37, .t 39, .t 42], none⟩, ⟨(some 8), none, (.alloc 84 [(.lit (.bool false)), (.lit (.bool false)), (.sl 0 [] .exact), (.sl 0 [] .exact)]), [], none⟩, ⟨none, none, (.st 4), [.t 8, .t 43], none⟩]) c_theorboref10_Of_p14)
abbrev c_theorboref10_Of_p16 : VC := (.ops 0 [oo 29 .mv [.t 6], oo 30 (.bin .add) [.t 29, kk 1], oo 6 .mv [.t 30]])
abbrev c_theorboref10_Of_p17 : VC := (.seq (.block 1 (.seq (.ops 7 [oo 31 (.fldA 2) [.t 1], oo 32 .ld1 [.t 31], oo 33 .mv [.t 6], oo 34 (.ixA 6) [.t 32, .t 33], oo 35 (.ldA 6) [.t 34], ⟨(some 7), none, (.alloc 136 [(.lit (.bool false)), li 0, (.lit (.bool false)), (.lit (.bool false)), (.lit (.bool false)), (.sl 0 [] .exact)]), [], none⟩, ⟨none, none, (.st 6), [.t 7, .t 35], none⟩]) c_theorboref10_Of_p15)) c_theorboref10_Of_p16)
abbrev c_theorboref10_Of_p18 : VC := (.seq (.seq (.ops 0 [oo 24 .mv [.t 6], oo 25 (.fldA 2) [.t 1], oo 26 .ld1 [.t 25], oo 27 .len [.t 26], oo 28 (.bin .lss) [.t 24, .t 27]]) (.cond (.t 28) .skip (.exit 0))) c_theorboref10_Of_p17)
@[go_sem] abbrev w_theorboref10_Of_p18 : Nat := 154742504910672534345617344
abbrev c_theorboref10_Of_p20 : VC := (.seq (.ops 0 [oo 87 (.ldA 3) [.t 5], ⟨none, none, (.st 3), [.t 2, .t 87], none⟩, oo 3 .mv [kk 0]]) .ret)
abbrev c_theorboref10_Of_p21 : VC := (.seq (.seq (.ops 0 [oo 6 .mv [kk 0]]) (.block 0 (.loop c_theorboref10_Of_p18))) c_theorboref10_Of_p20)
abbrev c_theorboref10_Of_p22 : VC := (.seq (.ops 5 [oo 21 (.fldA 0) [.t 1], oo 22 (.ldA 2) [.t 21], ⟨(some 23), none, (.build [(.sl 0 [] .exact), (.sl 0 [] .exact), (.sl 0 [] .exact)] [(0, 2)]), [.t 22], none⟩, ⟨(some 5), none, (.alloc 28 [(.sl 0 [] .exact), (.sl 0 [] .exact), (.sl 0 [] .exact)]), [], none⟩, ⟨none, none, (.st 3), [.t 5, .t 23], none⟩]) c_theorboref10_Of_p21)
abbrev c_theorboref10_Of_p23 : VC := (.seq (.seq (.ops 0 [oo 17 .mv [.t 4], oo 18 (.bin .neq) [.t 17, kk 0]]) (.cond (.t 18) c_theorboref10_Of_p1 .skip)) c_theorboref10_Of_p22)
abbrev c_theorboref10_Of_p24 : VC := (.seq (.ops 0 [oo 13 (.ldA 3) [.t 1], oo 14 (.call 94) [.t 13], oo 12 .mv [.t 14], oo 15 (.ext 0) [.t 12], oo 16 (.ext 1) [.t 12], ⟨none, none, (.st 3), [.t 1, .t 15], none⟩, oo 4 .mv [.t 16]]) c_theorboref10_Of_p23)
def c_theorboref10_Of : VC := (.seq (.ops 3 [oo 1 (.box 49) [.t 0], ⟨(some 2), none, (.alloc 28 [(.sl 0 [] .exact), (.sl 0 [] .exact), (.sl 0 [] .exact)]), [], none⟩, oo 3 .mv [kk 0]]) c_theorboref10_Of_p24)
theorem k_theorboref10_Of : Comp Tryz.prog nobx gtab 40 88 c_theorboref10_Of [(.c 2 3 true), .t 3] := ⟨⟨Tryz.f40, _, Tryz.func40, rfl, rfl, kr, kr⟩⟩
abbrev c_theorbolaw10_LeafOf_p1 : VC := (.seq (.ops 0 [oo 17 .mv [.t 4], oo 18 .mv [.t 6], oo 19 (.bin .eql) [.t 17, .t 18], oo 20 .mv [.t 19], og 21 20 true (.ldA 3) [.t 3], og 22 20 true (.ldA 3) [.t 5], og 23 20 true (.call 22) [.t 21, .t 22], oo 24 .pick [.t 20, .t 23, (.c (.lit (.bool false)))], oo 25 .mv [.t 24], og 26 25 true (.call 19) [], oo 27 .pick [.t 25, .t 26, (.c (.lit (.bool false)))], oo 2 .mv [.t 27]]) .ret)
abbrev c_theorbolaw10_LeafOf_p2 : VC := (.seq (.ops 8 [oo 13 (.ldA 3) [.t 1], oo 14 (.call 40) [.t 13], oo 12 .mv [.t 14], oo 15 (.ext 0) [.t 12], oo 16 (.ext 1) [.t 12], ⟨(some 5), none, (.alloc 28 [(.sl 0 [] .exact), (.sl 0 [] .exact), (.sl 0 [] .exact)]), [], none⟩, ⟨none, none, (.st 3), [.t 5, .t 15], none⟩, oo 6 .mv [.t 16]]) c_theorbolaw10_LeafOf_p1)
abbrev c_theorbolaw10_LeafOf_p3 : VC := (.seq (.ops 8 [oo 8 (.ldA 3) [.t 1], oo 9 (.call 39) [.t 8], oo 7 .mv [.t 9], oo 10 (.ext 0) [.t 7], oo 11 (.ext 1) [.t 7], ⟨(some 3), none, (.alloc 28 [(.sl 0 [] .exact), (.sl 0 [] .exact), (.sl 0 [] .exact)]), [], none⟩, ⟨none, none, (.st 3), [.t 3, .t 10], none⟩, oo 4 .mv [.t 11]]) c_theorbolaw10_LeafOf_p2)
def c_theorbolaw10_LeafOf : VC := (.seq (.ops 2 [oo 1 (.box 49) [.t 0], oo 2 .mv [(.c (.lit (.bool false)))]]) c_theorbolaw10_LeafOf_p3)
theorem k_theorbolaw10_LeafOf : Comp Tryz.prog nobx gtab 8 28 c_theorbolaw10_LeafOf [.t 2] := ⟨⟨Tryz.f8, _, Tryz.func8, rfl, rfl, kr, kr⟩⟩
abbrev c_theorbolaw10_SameLeaf_p1 : VC := (.seq (.ops 0 [oo 4 .mv [(.c (.lit (.bool false)))]]) .ret)
abbrev c_theorbolaw10_SameLeaf_p2 : VC := (.seq (.ops 0 [oo 4 .mv [(.c (.lit (.bool false)))]]) .ret)
abbrev c_theorbolaw10_SameLeaf_p3 : VC := (.seq (.ops 0 [oo 4 .mv [(.c (.lit (.bool false)))]]) .ret)
abbrev c_theorbolaw10_SameLeaf_p4 : VC := (.ops 0 [oo 77 .mv [.t 8], oo 78 (.bin .add) [.t 77, kk 1], oo 8 .mv [.t 78]])
abbrev c_theorbolaw10_SameLeaf_p5 : VC := (.seq (.block 3 (.seq (.ops 0 [oo 79 (.fldA 2) [.t 6], od 80 .ld1 [.t 79] [0], oo 81 .mv [.t 8], oo 82 (.ixA 3) [.t 80, .t 81], od 83 (.ldA 3) [.t 82] [0, 1, 2, 3], oo 84 (.fldA 2) [.t 7], od 85 .ld1 [.t 84] [5], oo 86 .mv [.t 8], oo 87 (.ixA 3) [.t 85, .t 86], od 88 (.ldA 3) [.t 87] [5, 6, 7, 8], oo 89 (.eqP [(0, 0), (1, 1), (2, 1)] true) [.t 83, .t 88]]) (.cond (.t 89) c_theorbolaw10_SameLeaf_p3 .skip))) c_theorbolaw10_SameLeaf_p4)
abbrev c_theorbolaw10_SameLeaf_p6 : VC := (.seq (.seq (.ops 0 [oo 72 .mv [.t 8], oo 73 (.fldA 2) [.t 6], oo 74 .ld1 [.t 73], oo 75 .len [.t 74], oo 76 (.bin .lss) [.t 72, .t 75]]) (.cond (.t 76) .skip (.exit 2))) c_theorbolaw10_SameLeaf_p5)
@[go_sem] abbrev w_theorbolaw10_SameLeaf_p6 : Nat := 1237935316918897405253910800
abbrev c_theorbolaw10_SameLeaf_p8 : VC := (.seq (.ops 0 [oo 4 .mv [(.c (.lit (.bool false)))]]) .ret)
abbrev c_theorbolaw10_SameLeaf_p9 : VC := (.ops 0 [oo 95 .mv [.t 9], oo 96 (.bin .add) [.t 95, kk 1], oo 9 .mv [.t 96]])
abbrev c_theorbolaw10_SameLeaf_p10 : VC := (.seq (.block 5 (.seq (.ops 0 [oo 97 (.fldA 3) [.t 6], od 98 .ld1 [.t 97] [0], oo 99 .mv [.t 9], oo 100 (.ixA 1) [.t 98, .t 99], od 101 .ld1 [.t 100] [0, 1, 2, 3], oo 102 (.fldA 3) [.t 7], od 103 .ld1 [.t 102] [5], oo 104 .mv [.t 9], oo 105 (.ixA 1) [.t 103, .t 104], od 106 .ld1 [.t 105] [5, 6, 7, 8], oo 107 (.call 61) [.t 101, .t 106], oo 108 (.un .not) [.t 107]]) (.cond (.t 108) c_theorbolaw10_SameLeaf_p8 .skip))) c_theorbolaw10_SameLeaf_p9)
abbrev c_theorbolaw10_SameLeaf_p11 : VC := (.seq (.seq (.ops 0 [oo 90 .mv [.t 9], oo 91 (.fldA 3) [.t 6], oo 92 .ld1 [.t 91], oo 93 .len [.t 92], oo 94 (.bin .lss) [.t 90, .t 93]]) (.cond (.t 94) .skip (.exit 4))) c_theorbolaw10_SameLeaf_p10)
@[go_sem] abbrev w_theorbolaw10_SameLeaf_p11 : Nat := 649035869376814168186037142028816
abbrev c_theorbolaw10_SameLeaf_p13 : VC := (.seq (.ops 0 [oo 9 .mv [kk 0]]) (.block 4 (.loop c_theorbolaw10_SameLeaf_p11)))
abbrev c_theorbolaw10_SameLeaf_p14 : VC := (.seq (.seq (.ops 0 [oo 8 .mv [kk 0]]) (.block 2 (.loop c_theorbolaw10_SameLeaf_p6))) c_theorbolaw10_SameLeaf_p13)
abbrev c_theorbolaw10_SameLeaf_p15 : VC := (.seq (.seq (.ops 0 [oo 42 (.fldA 0) [.t 6], oo 43 .ld1 [.t 42], oo 44 (.fldA 0) [.t 7], oo 45 .ld1 [.t 44], oo 46 (.eqB true) [.t 43, .t 45], oo 47 .mv [.t 46], og 48 47 false (.fldA 1) [.t 6], og 49 47 false .ld1 [.t 48], og 50 47 false (.fldA 1) [.t 7], og 51 47 false .ld1 [.t 50], og 52 47 false (.eqB true) [.t 49, .t 51], oo 53 .pick [.t 47, (.c (.lit (.bool true))), .t 52], oo 54 .mv [.t 53], og 55 54 false (.fldA 2) [.t 6], og 56 54 false .ld1 [.t 55], og 57 54 false .len [.t 56], og 58 54 false (.fldA 2) [.t 7], og 59 54 false .ld1 [.t 58], og 60 54 false .len [.t 59], og 61 54 false (.bin .neq) [.t 57, .t 60], oo 62 .pick [.t 54, (.c (.lit (.bool true))), .t 61], oo 63 .mv [.t 62], og 64 63 false (.fldA 3) [.t 6], og 65 63 false .ld1 [.t 64], og 66 63 false .len [.t 65], og 67 63 false (.fldA 3) [.t 7], og 68 63 false .ld1 [.t 67], og 69 63 false .len [.t 68], og 70 63 false (.bin .neq) [.t 66, .t 69], oo 71 .pick [.t 63, (.c (.lit (.bool true))), .t 70]]) (.cond (.t 71) c_theorbolaw10_SameLeaf_p2 .skip)) c_theorbolaw10_SameLeaf_p14)
abbrev c_theorbolaw10_SameLeaf_p16 : VC := (.ops 0 [oo 30 .mv [.t 5], oo 31 (.bin .add) [.t 30, kk 1], oo 5 .mv [.t 31]])
abbrev c_theorbolaw10_SameLeaf_p17 : VC := (.seq (.block 1 (.seq (.ops 14 [oo 32 (.fldA 2) [.t 2], od 33 .ld1 [.t 32] [0], oo 34 .mv [.t 5], oo 35 (.ixA 4) [.t 33, .t 34], od 36 (.ldA 4) [.t 35] [0, 1, 2, 3], oo 37 (.fldA 2) [.t 3], od 38 .ld1 [.t 37] [5], oo 39 .mv [.t 5], oo 40 (.ixA 4) [.t 38, .t 39], od 41 (.ldA 4) [.t 40] [5, 6, 7, 8], ⟨(some 6), none, (.alloc 84 [(.lit (.bool false)), (.lit (.bool false)), (.sl 0 [] .exact), (.sl 0 [] .exact)]), [], (some [])⟩, ⟨(some 7), none, (.alloc 84 [(.lit (.bool false)), (.lit (.bool false)), (.sl 0 [] .exact), (.sl 0 [] .exact)]), [], (some [])⟩, ⟨none, none, (.st 4), [.t 6, .t 36], (some [10])⟩, ⟨none, none, (.st 4), [.t 7, .t 41], none⟩]) c_theorbolaw10_SameLeaf_p15)) c_theorbolaw10_SameLeaf_p16)
abbrev c_theorbolaw10_SameLeaf_p18 : VC := (.seq (.seq (.ops 0 [oo 25 .mv [.t 5], oo 26 (.fldA 2) [.t 2], oo 27 .ld1 [.t 26], oo 28 .len [.t 27], oo 29 (.bin .lss) [.t 25, .t 28]]) (.cond (.t 29) .skip (.exit 0))) c_theorbolaw10_SameLeaf_p17)
@[go_sem] abbrev w_theorbolaw10_SameLeaf_p18 : Nat := 649037107316853453566312007599088
abbrev c_theorbolaw10_SameLeaf_p20 : VC := (.seq (.ops 0 [oo 4 .mv [(.c (.lit (.bool true)))]]) .ret)
abbrev c_theorbolaw10_SameLeaf_p21 : VC := (.seq (.seq (.ops 0 [oo 5 .mv [kk 0]]) (.block 0 (.loop c_theorbolaw10_SameLeaf_p18))) c_theorbolaw10_SameLeaf_p20)
abbrev c_theorbolaw10_SameLeaf_p22 : VC := (.seq (.seq (.ops 0 [oo 10 (.fldA 0) [.t 2], oo 11 (.ldA 2) [.t 10], oo 12 (.fldA 0) [.t 3], oo 13 (.ldA 2) [.t 12], oo 14 (.call 70) [.t 11, .t 13], oo 15 (.un .not) [.t 14], oo 16 .mv [.t 15], og 17 16 false (.fldA 2) [.t 2], og 18 16 false .ld1 [.t 17], og 19 16 false .len [.t 18], og 20 16 false (.fldA 2) [.t 3], og 21 16 false .ld1 [.t 20], og 22 16 false .len [.t 21], og 23 16 false (.bin .neq) [.t 19, .t 22], oo 24 .pick [.t 16, (.c (.lit (.bool true))), .t 23]]) (.cond (.t 24) c_theorbolaw10_SameLeaf_p1 .skip)) c_theorbolaw10_SameLeaf_p21)
def c_theorbolaw10_SameLeaf : VC := (.seq (.ops 3 [oo 2 (.box 28) [.t 0], oo 3 (.box 28) [.t 1], oo 4 .mv [(.c (.lit (.bool false)))]]) c_theorbolaw10_SameLeaf_p22)
theorem k_theorbolaw10_SameLeaf : Comp Tryz.prog nobx gtab 22 109 c_theorbolaw10_SameLeaf [.t 4] := ⟨⟨Tryz.f22, _, Tryz.func22, rfl, rfl, kr, kr⟩⟩
end Go.Proofs.YtdefefeifcdogaaGreat
namespace Go.Proofs.YtdefefeifcdogaaGreat
open Go.RowKit
set_option maxRecDepth 100000

abbrev c_piece_plucks_a_p1 : VC := (.seq (.ops 0 [oo 5 (.fldA 5) [.t 2], oo 6 .ld1 [.t 5], oo 7 (.mkfn 346) [.t 3], oo 8 (.call 188) [.t 6, .t 7], oo 4 .mv [.t 8]]) .ret)
def c_piece_plucks_a : VC := (.seq (.ops 0 [oo 2 .boxE [.t 0], oo 3 .boxE [.t 1], oo 4 .mv [(.c (.lit (.bool false)))]]) c_piece_plucks_a_p1)
theorem k_piece_plucks_a : Comp Tryz.prog allbx gtab 317 9 c_piece_plucks_a [.t 4] := ⟨⟨Tryz.f317, _, Tryz.func317, rfl, rfl, kr, kr⟩⟩
end Go.Proofs.YtdefefeifcdogaaGreat
namespace Go.Proofs.YtdefefeifcdogaaGreat
open Go.RowKit
set_option linter.unusedSimpArgs false
set_option linter.unusedVariables false

/-- The first error of some. -/
def fstE (f : Nat → Int) : Nat → Int
  | 0 => 0
  | k + 1 => if fstE f k ≠ 0 then fstE f k else f k
theorem fstE_zero {f : Nat → Int} : ∀ {n : Nat}, fstE f n = 0 ↔ ∀ i, i < n → f i = 0
  | 0 => ⟨fun _ i hi => by omega, fun _ => rfl⟩
  | n + 1 => by
    rw [fstE]
    constructor
    · intro h i hi
      split at h
      · rename_i h1; exact absurd h h1
      · rename_i h1
        by_cases e : i = n
        · subst e; exact h
        · exact (fstE_zero (n := n)).1 (Decidable.not_not.1 h1) i (by omega)
    · intro h
      rw [if_neg (by have := (fstE_zero (f := f) (n := n)).2 fun i hi => h i (by omega); omega)]
      exact h n (by omega)
theorem fstE_at {f : Nat → Int} {k : Nat} (h0 : ∀ i, i < k → f i = 0) (hk : f k ≠ 0) : ∀ {n : Nat}, k < n → fstE f n = f k
  | 0, h => by omega
  | n + 1, h => by
    by_cases e : k = n
    · subst e
      rw [fstE, if_neg (by have := (fstE_zero (f := f) (n := k)).2 h0; omega)]
    · rw [fstE, fstE_at h0 hk (show k < n by omega), if_pos hk]
/-- A sign that may stand in a piece. -/
def rgtS (s : Sg) : Bool := okS s || (decide (s.v = 0) && !s.d && !s.t)
def hasC (x : Evt) (c : Int) : Bool := x.ss.any fun s => s.co == c
def rstE (x : Evt) : Bool := decide (x.ss.length = 0) && !x.tie
/-- How long a note may be held: from these events, at most n. -/
def lgL : Nat → List Evt → Int → Nat
  | 0, _, _ => 0
  | _ + 1, [], _ => 0
  | n + 1, x :: l, c => if (rstE x || hasC x c) = true then 0 else lgL n l c + 1
def lgst (p : Pce) (i : Nat) (c : Int) : Nat := lgL 15 (p.es.drop (i + 1)) c
def stpE (p : Pce) (i : Nat) (s : Stp) (last : Int) : Int :=
  if s.co < 1 ∨ (p.ins.cs.length : Int) < s.co then 12
  else if s.fr < 0 ∨ (p.ins.cs.getD (s.co - 1).toNat default).f < s.fr then 13
  else if s.co ≤ last then 22
  else if s.ri < 0 ∨ 3 < s.ri ∨ s.gr < 0 ∨ 4 < s.gr then 23
  else if s.ho < 0 ∨ (lgst p i s.co : Int) < s.ho ∨ 0 < s.ho ∧ s.fr = 0 then 24 else 0
def lstC (l : List Stp) (k : Nat) : Int := if k = 0 then 0 else (l.getD (k - 1) default).co
def evtE (p : Pce) (i : Nat) : Int :=
  if rgtS (p.es.getD i default).sg = false ∨ i = 0 ∧ (p.es.getD i default).sg.v = 0 then 20
  else if (p.es.getD i default).tie = true ∧ ((p.es.getD i default).ss.length ≠ 0 ∨ i = 0) then 21
  else fstE (fun k => stpE p i ((p.es.getD i default).ss.getD k default) (lstC (p.es.getD i default).ss k)) (p.es.getD i default).ss.length
/-- The first error of a piece. -/
noncomputable def chkP (p : Pce) : Int := if chkI p.ins ≠ 0 then chkI p.ins else if 400 < p.es.length then 2 else fstE (evtE p) p.es.length
theorem chkP_zero {p : Pce} (h : chkP p = 0) : chkI p.ins = 0 ∧ p.es.length ≤ 400 ∧ ∀ i, i < p.es.length → evtE p i = 0 := by
  unfold chkP at h
  split at h
  · rename_i h1; exact absurd h h1
  · split at h
    · cases h
    · exact ⟨by omega, by omega, fstE_zero.1 h⟩
/-- The sign in force behind the first k events. -/
def frc (l : List Evt) : Nat → Sg
  | 0 => ⟨0, false, false⟩
  | k + 1 => if (l.getD k default).sg.v ≠ 0 then (l.getD k default).sg else frc l k
/-- The events in plain. -/
def plnE (l : List Evt) (k : Nat) : List Evt := (List.range k).map fun i => { l.getD i default with sg := frc l (i + 1) }
theorem plnE_succ (l : List Evt) (k : Nat) : plnE l (k + 1) = plnE l k ++ [{ l.getD k default with sg := frc l (k + 1) }] := by rw [plnE, List.range_succ, List.map_append]; rfl
theorem plnE_len (l : List Evt) (k : Nat) : (plnE l k).length = k := by rw [plnE, List.length_map, List.length_range]
theorem plnE_at {l : List Evt} {k i : Nat} (h : i < k) : (plnE l k).getD i default = { l.getD i default with sg := frc l (i + 1) } := by
  rw [List.getD_eq_getElem?_getD, plnE, List.getElem?_map, List.getElem?_range h]; rfl
/-- A piece with every sign written. -/
def plnP (p : Pce) : Pce := ⟨p.ins, plnE p.es p.es.length⟩
/-- The number of a course in an event: of the last stop there. -/
def numC (l : List Stp) (c : Int) : Nat → Int
  | 0 => -1
  | j + 1 => if (l.getD j default).co = c then (l.getD j default).fr else numC l c j
/-- The column of an event. -/
def clmO (n : Nat) (x : Evt) : Clm := ⟨x.bar, x.tie, [x.sg], (List.range n).map fun k => [numC x.ss ((k + 1 : Nat) : Int) x.ss.length]⟩
/-- The leaf of a piece. -/
def lfO (p : Pce) : Lf := ⟨p.ins, (plnP p).es.map (clmO p.ins.cs.length)⟩
def noL : Lf := ⟨⟨[], []⟩, []⟩
/-- What Of answers. -/
noncomputable def ofR (p : Pce) : Lf × Int := if chkP p ≠ 0 then (noL, chkP p) else (lfO p, 0)
end Go.Proofs.YtdefefeifcdogaaGreat
namespace Go.Proofs.YtdefefeifcdogaaGreat
open Go.RowKit
set_option linter.unusedSimpArgs false
set_option linter.unusedVariables false

theorem rest_fn (x : Evt) : Fn Tryz.prog Gd 316 [x.val] (vbool (rstE x)) := by
  refine Fn.of_vx0 k_piece_isRest (by simp) (by rw [V.pures, pure_evt]; rfl) ?_
  obtain ⟨b, ⟨v, d, tt⟩, ti, ss⟩ := x
  unfold c_piece_isRest
  by_cases h : ss.length = 0
  · have c1 : ((ss.length : Int) == 0) = true := by rw [beq_iff_eq]; omega
    have hq : rstE ⟨b, ⟨v, d, tt⟩, ti, ss⟩ = !ti := by rw [rstE, decide_eq_true h]; rfl
    rw [hq]
    clear h hq
    repeat' (with_reducible first | refine x_ops ?_ | refine wk ?_ | ((first | refine gd1 ?_ ?_ | refine gd2 ?_ ?_ | refine gd3 ?_ ?_) <;> (first | exact @False.elim _ | intro hc)))
    exact finV_lit vv rfl
  · have c1 : ((ss.length : Int) == 0) = false := by rw [beq_eq_false_iff_ne]; omega
    have hq : rstE ⟨b, ⟨v, d, tt⟩, ti, ss⟩ = false := by rw [rstE, decide_eq_false h]; rfl
    rw [hq]
    clear h hq
    repeat' (with_reducible first | refine x_ops ?_ | refine wk ?_ | ((first | refine gd1 ?_ ?_ | refine gd2 ?_ ?_ | refine gd3 ?_ ?_) <;> (first | exact @False.elim _ | intro hc)))
    exact finV_lit vv rfl
theorem rrest_fn (x : Evt) : Fn Tryz.prog Gd 314 [x.val] (vbool (rstE x)) := by
  refine Fn.of_vx0 k_theorboref02_Rest (by simp) (by rw [V.pures, pure_evt]; rfl) ?_
  obtain ⟨b, ⟨v, d, tt⟩, ti, ss⟩ := x
  unfold c_theorboref02_Rest
  by_cases h : ss.length = 0
  · have c1 : ((ss.length : Int) == 0) = true := by rw [beq_iff_eq]; omega
    have hq : rstE ⟨b, ⟨v, d, tt⟩, ti, ss⟩ = !ti := by rw [rstE, decide_eq_true h]; rfl
    rw [hq]
    clear h hq
    repeat' (with_reducible first | refine x_ops ?_ | refine wk ?_ | ((first | refine gd1 ?_ ?_ | refine gd2 ?_ ?_ | refine gd3 ?_ ?_) <;> (first | exact @False.elim _ | intro hc)))
    exact finV_lit vv rfl
  · have c1 : ((ss.length : Int) == 0) = false := by rw [beq_eq_false_iff_ne]; omega
    have hq : rstE ⟨b, ⟨v, d, tt⟩, ti, ss⟩ = false := by rw [rstE, decide_eq_false h]; rfl
    rw [hq]
    clear h hq
    repeat' (with_reducible first | refine x_ops ?_ | refine wk ?_ | ((first | refine gd1 ?_ ?_ | refine gd2 ?_ ?_ | refine gd3 ?_ ?_) <;> (first | exact @False.elim _ | intro hc)))
    exact finV_lit vv rfl
theorem indexT_fn (l : List Stp) (p : Stp → Bool) {f : FuncId} {cs : List V} (hc : callable Tryz.prog f = true) (hp : V.pures cs = true) (hn : V.norms cs = cs) (hf : ∀ x : Stp, Fn Tryz.prog Gd f (.agg x.cells :: cs) (vbool (p x))) (hl : l.length ≤ 4611686018427387904) :
    Fn Tryz.prog Gd 232 [tL Stp.cells l, .fn f cs] (vint (idxI p l)) := by
  refine Fn.of_vx0 k_slices_IndexFunc_api_Stop_api_Stop (by simp) (by rw [V.pures, pure_tL, V.pures, V.pure, hp]; rfl) ?_
  unfold c_slices_IndexFunc_api_Stop_api_Stop
  replace hc := Hid.mk hc
  replace hp := Hid.mk hp
  replace hf := Hid.mk hf
  repeat' (with_reducible first | refine x_ops ?_ | refine wk ?_ | ((first | refine gd1 ?_ ?_ | refine gd2 ?_ ?_ | refine gd3 ?_ ?_) <;> (first | exact @False.elim _ | intro hc)))
  refine x_loopF w_slices_IndexFunc_api_Stop_api_Stop_p7 kr l.length (fun k t => t 8 = vint k ∧ ∀ i, i < k → p (l.getD i default) = false) ?_ ?_
  · exact ⟨vv, fun i h => by omega⟩
  rintro k t hk ⟨h8, hI⟩
  replace hI := Hid.mk hI
  by_cases hlt : k < l.length
  · have g1 := stp_take (l := l) (k := k) hlt
    have g2 := stps_len l
    have c2 : (k : Int) < (l.length : Int) := by omega
    have c3 : k * 5 + 5 ≤ l.length * 5 := by omega
    have w2 := w_add1 (k := k) (by omega)
    have hx := hf.out (l.getD k default)
    have hlt0 := Hid.mk hlt
    cases hb : p (l.getD k default)
    · rw [hb] at hx
      replace hb := Hid.mk hb
      clear hlt hk
      repeat' (with_reducible first | refine x_ops ?_ | refine wk ?_ | (with_reducible refine xcv hx hc.out ?_) | ((first | refine gd1 ?_ ?_ | refine gd2 ?_ ?_ | refine gd3 ?_ ?_) <;> (first | exact @False.elim _ | intro hc)))
      refine nf hlt0.out ⟨vv, fun i h => ?_⟩ rfl
      by_cases hi : i = k
      · subst hi; exact hb.out
      · exact hI.out i (by omega)
    · rw [hb] at hx
      replace hb := Hid.mk hb
      clear hlt hk
      repeat' (with_reducible first | refine x_ops ?_ | refine wk ?_ | (with_reducible refine xcv hx hc.out ?_) | ((first | refine gd1 ?_ ?_ | refine gd2 ?_ ?_ | refine gd3 ?_ ?_) <;> (first | exact @False.elim _ | intro hc)))
      refine finV_lit vv ?_
      rw [idxI_at hlt0.out hb.out hI.out]
  · have c1 : ¬ ((k : Int) < (l.length : Int)) := by omega
    have hq : idxI p l = -1 := idxI_none fun i hi => hI.out i (by omega)
    rw [hq]
    clear hlt hk hq
    repeat' (with_reducible first | refine x_ops ?_ | refine wk ?_ | ((first | refine gd1 ?_ ?_ | refine gd2 ?_ ?_ | refine gd3 ?_ ?_) <;> (first | exact @False.elim _ | intro hc)))
    exact finV_lit vv rfl
theorem containsT_fn (l : List Stp) (p : Stp → Bool) {f : FuncId} {cs : List V} (hc : callable Tryz.prog f = true) (hp : V.pures cs = true) (hn : V.norms cs = cs) (hf : ∀ x : Stp, Fn Tryz.prog Gd f (.agg x.cells :: cs) (vbool (p x))) (hl : l.length ≤ 4611686018427387904) :
    Fn Tryz.prog Gd 188 [tL Stp.cells l, .fn f cs] (vbool (l.any p)) := by
  refine Fn.of_vx0 k_slices_ContainsFunc_api_Stop_api_Stop (by simp) (by rw [V.pures, pure_tL, V.pures, V.pure, hp]; rfl) ?_
  unfold c_slices_ContainsFunc_api_Stop_api_Stop
  have I := indexT_fn l p hc hp hn hf hl
  have G := idxI_ge p l
  clear hp hc hf
  repeat' (with_reducible first | refine x_ops ?_ | refine wk ?_ | (with_reducible refine xc (I) ?_) | ((first | refine gd1 ?_ ?_ | refine gd2 ?_ ?_ | refine gd3 ?_ ?_) <;> (first | exact @False.elim _ | intro hc)))
  refine finV_lit vv ?_
  rw [← G]
theorem plucks1_fn (x : Stp) (c : Int) : Fn Tryz.prog Gd 346 [.agg x.cells, .ept [vint c] 0] (vbool (x.co == c)) := by
  refine Fn.of_vx0 k_piece_plucks_1 (by simp) rfl ?_
  obtain ⟨a1, a2, a3, a4, a5⟩ := x
  unfold c_piece_plucks_1
  repeat' (with_reducible first | refine x_ops ?_ | refine wk ?_ | ((first | refine gd1 ?_ ?_ | refine gd2 ?_ ?_ | refine gd3 ?_ ?_) <;> (first | exact @False.elim _ | intro hc)))
  exact finV_lit vv rfl
theorem plucks_fn (x : Evt) (c : Int) (hl : x.ss.length ≤ 4611686018427387904) : Fn Tryz.prog Gd 317 [x.val, vint c] (vbool (hasC x c)) := by
  refine Fn.of_vx0 k_piece_plucks_a (by simp) (by rw [V.pures, pure_evt]; rfl) ?_
  have C := containsT_fn x.ss (fun s => s.co == c) (f := 346) (cs := [.ept [vint c] 0]) kr rfl rfl (fun s => plucks1_fn s c) hl
  rw [tL] at C
  have hq : hasC x c = x.ss.any fun s => s.co == c := rfl
  rw [hq]
  generalize (x.ss.any fun s => s.co == c) = z at *
  obtain ⟨b, ⟨v, d, tt⟩, ti, ss⟩ := x
  dsimp only at C
  clear hl hq
  unfold c_piece_plucks_a
  repeat' (with_reducible first | refine x_ops ?_ | refine wk ?_ | (with_reducible refine xc (C) ?_) | ((first | refine gd1 ?_ ?_ | refine gd2 ?_ ?_ | refine gd3 ?_ ?_) <;> (first | exact @False.elim _ | intro hc)))
  exact finV_lit vv rfl
theorem rhas_fn (x : Evt) (c : Int) (hl : x.ss.length ≤ 4611686018427387904) : Fn Tryz.prog Gd 315 [x.val, vint c] (vbool (hasC x c)) := by
  refine Fn.of_vx0 k_theorboref02_Has (by simp) (by rw [V.pures, pure_evt]; rfl) ?_
  have hq : hasC x c = x.ss.any fun s => s.co == c := rfl
  obtain ⟨b, ⟨v, d, tt⟩, ti, ss⟩ := x
  dsimp only at hq hl
  unfold c_theorboref02_Has
  replace hq := Hid.mk hq
  repeat' (with_reducible first | refine x_ops ?_ | refine wk ?_ | ((first | refine gd1 ?_ ?_ | refine gd2 ?_ ?_ | refine gd3 ?_ ?_) <;> (first | exact @False.elim _ | intro hc)))
  refine x_loopF w_theorboref02_Has_p4 kr ss.length (fun k t => t 5 = vint k ∧ ∀ i, i < k → ((ss.getD i default).co == c) = false) ?_ ?_
  · exact ⟨vv, fun i h => by omega⟩
  rintro k t hk ⟨h5, hI⟩
  replace hI := Hid.mk hI
  by_cases hlt : k < ss.length
  · have g1 := stp_at0 (l := ss) (k := k) hlt
    have g2 := stps_len ss
    have c2 : (k : Int) < (ss.length : Int) := by omega
    have w2 := w_add1 (k := k) (by omega)
    have hlt0 := Hid.mk hlt
    cases hb : ((ss.getD k default).co == c)
    · have hb0 := Hid.mk hb
      clear hlt hk
      repeat' (with_reducible first | refine x_ops ?_ | refine wk ?_ | ((first | refine gd1 ?_ ?_ | refine gd2 ?_ ?_ | refine gd3 ?_ ?_) <;> (first | exact @False.elim _ | intro hc)))
      refine nf hlt0.out ⟨vv, fun i h => ?_⟩ rfl
      by_cases hi : i = k
      · subst hi; exact hb0.out
      · exact hI.out i (by omega)
    · have hb0 := Hid.mk hb
      clear hlt hk
      repeat' (with_reducible first | refine x_ops ?_ | refine wk ?_ | ((first | refine gd1 ?_ ?_ | refine gd2 ?_ ?_ | refine gd3 ?_ ?_) <;> (first | exact @False.elim _ | intro hc)))
      refine finV_lit vv ?_
      rw [hq.out, List.any_eq_true.2 ⟨_, getD_mem hlt0.out, hb0.out⟩]
  · have c1 : ¬ ((k : Int) < (ss.length : Int)) := by omega
    have hq2 : (ss.any fun s => s.co == c) = false := by
      rw [List.any_eq_false]
      intro s hs
      obtain ⟨i, hi, rfl⟩ := List.mem_iff_getElem.1 hs
      have := hI.out i (by omega)
      rw [List.getD_eq_getElem?_getD, List.getElem?_eq_getElem hi] at this
      rw [← Bool.not_eq_true] at this
      exact this
    rw [hq.out, hq2]
    clear hlt hk hq2
    repeat' (with_reducible first | refine x_ops ?_ | refine wk ?_ | ((first | refine gd1 ?_ ?_ | refine gd2 ?_ ?_ | refine gd3 ?_ ?_) <;> (first | exact @False.elim _ | intro hc)))
    exact finV_lit vv rfl
theorem lgL_stop {x : Evt} {c : Int} (h : (rstE x || hasC x c) = true) (n : Nat) (l : List Evt) : lgL n (x :: l) c = 0 := by
  cases n with
  | zero => rfl
  | succ n => rw [lgL, if_pos h]
theorem lgL_go {x : Evt} {c : Int} (h : (rstE x || hasC x c) = false) (n : Nat) (l : List Evt) : lgL (n + 1) (x :: l) c = lgL n l c + 1 := by
  rw [lgL, if_neg (by rw [h]; decide)]
theorem lgL_nil (n : Nat) (c : Int) : lgL n [] c = 0 := by cases n <;> rfl
theorem drop_cons {α : Type} [Inhabited α] {l : List α} {k : Nat} (h : k < l.length) : l.drop k = l.getD k default :: l.drop (k + 1) := by
  rw [List.drop_eq_getElem_cons h, List.getD_eq_getElem?_getD, List.getElem?_eq_getElem h]; rfl
theorem drop_flat {α : Type} {enc : α → List V} {sz : Nat} (he : ∀ x, (enc x).length = sz) : ∀ (l : List α) (k : Nat), (l.flatMap enc).drop (k * sz) = (l.drop k).flatMap enc
  | l, 0 => by simp
  | [], k + 1 => by simp
  | a :: l, k + 1 => by
    rw [List.flatMap_cons, List.drop_succ_cons, Nat.succ_mul, Nat.add_comm, ← List.drop_drop, List.drop_left' (he a)]
    exact drop_flat he l k
/-- The events behind one. -/
theorem evs_cut (l : List Evt) (i : Nat) (h : i + 1 ≤ l.length) : vslc 6 true false (.sl l.length (l.flatMap Evt.cells) .no) [.lit (.int .i64 ((i + 1 : Nat) : Int))] = some (.sl (l.drop (i + 1)).length ((l.drop (i + 1)).flatMap Evt.cells) .no) := by
  simp only [vslc, bnds, if_true, Bool.false_eq_true, if_false]
  rw [if_pos (by omega)]
  have e : (l.length : Int).toNat - ((i + 1 : Nat) : Int).toNat = (l.drop (i + 1)).length := by rw [List.length_drop]; omega
  rw [e, show ((i + 1 : Nat) : Int).toNat = i + 1 by omega, drop_flat evt_len, List.take_of_length_le (by rw [evts_len]; exact Nat.le_refl _)]
/-- A piece as three rows. -/
theorem plong_fn (p : Pce) (hs : PcSm p) (i : Nat) (hi : i < p.es.length) (c : Int) : Fn Tryz.prog Gd 261 [p.val, vint i, vint c] (vint (lgst p i c)) := by
  refine Fn.of_vx0 k_piece_Longest (by simp) (by rw [V.pures, pure_pce]; rfl) ?_
  obtain ⟨⟨cs, st⟩, es⟩ := p
  have hn : es.length ≤ 17592186044416 := hs.n
  have he : ∀ i, i < es.length → (es.getD i default).ss.length ≤ 17592186044416 := hs.e
  have hi : i < es.length := hi
  have hq : lgst ⟨⟨cs, st⟩, es⟩ i c = lgL 15 (es.drop (i + 1)) c := rfl
  have cut := evs_cut es i hi
  have c1 : ¬ ((i : Int) < 0) := by omega
  have c2 : ¬ ((es.length : Int) ≤ (i : Int)) := by omega
  have w1 := w_add1 (k := i) (by omega)
  have hL : ∀ j, j < (es.drop (i + 1)).length → ((es.drop (i + 1)).getD j default).ss.length ≤ 17592186044416 := fun j hj => by
    rw [List.length_drop] at hj
    have := he (i + 1 + j) (by omega)
    rw [List.getD_eq_getElem?_getD] at this ⊢
    rwa [List.getElem?_drop]
  have hLn : (es.drop (i + 1)).length ≤ 17592186044416 := by rw [List.length_drop]; omega
  rw [hq]
  clear hs he hi hn hq
  generalize es.drop (i + 1) = L at *
  replace hL := Hid.mk hL
  unfold c_piece_Longest
  repeat' (with_reducible first | refine x_ops ?_ | refine wk ?_ | ((first | refine gd1 ?_ ?_ | refine gd2 ?_ ?_ | refine gd3 ?_ ?_) <;> (first | exact @False.elim _ | intro hc)))
  clear cut c1 c2 w1
  refine x_loopW w_piece_Longest_p6 kr L.length (fun k t m => t 25 = vint k ∧ t 7 = vint k ∧ k ≤ 15 ∧ lgL 15 L c = k + lgL (15 - k) (L.drop k) c) ?_ ?_
  · exact ⟨vv, vv, by omega, by simp⟩
  rintro k t m hk ⟨h25, h7, h15, hI⟩
  by_cases hlt : k < L.length
  case neg =>
    have c1 : ¬ ((k : Int) < (L.length : Int)) := by omega
    have hq : lgL 15 L c = k := by rw [hI, List.drop_of_length_le (by omega), lgL_nil]; rfl
    rw [hq]
    clear hlt hk hI hq h15
    repeat' (with_reducible first | refine x_ops ?_ | refine wk ?_ | ((first | refine gd1 ?_ ?_ | refine gd2 ?_ ?_ | refine gd3 ?_ ?_) <;> (first | exact @False.elim _ | intro hc)))
    exact finV_lit vv rfl
  have c1 : (k : Int) < (L.length : Int) := by omega
  have g1 := evt_take (l := L) (k := k) hlt
  have g2 := evts_len L
  have c3 : k * 6 + 6 ≤ L.length * 6 := by omega
  have w1 := w_add1 (k := k) (by omega)
  have hd := drop_cons hlt
  rw [hd] at hI
  have R := rest_fn (L.getD k default)
  have U := plucks_fn (L.getD k default) c (by have := hL.out k hlt; omega)
  have hlt0 := Hid.mk hlt
  generalize L.getD k default = x at *
  by_cases h1 : k = 15
  · have c4 : ((k : Int) == 15) = true := by rw [beq_iff_eq]; omega
    have hq : lgL 15 L c = k := by rw [hI, h1]; rfl
    rw [hq]
    obtain ⟨b, ⟨v, d, tt⟩, ti, ss⟩ := x
    clear hlt hk hI hq h15 h1 hd
    repeat' (with_reducible first | refine x_ops ?_ | refine wk ?_ | ((first | refine gd1 ?_ ?_ | refine gd2 ?_ ?_ | refine gd3 ?_ ?_) <;> (first | exact @False.elim _ | intro hc)))
    exact finV_lit vv rfl
  have c4 : ((k : Int) == 15) = false := by rw [beq_eq_false_iff_ne]; omega
  have e15 : 15 - k = 14 - k + 1 := by omega
  cases hr : rstE x with
  | true =>
    have hq : lgL 15 L c = k := by rw [hI, lgL_stop (by rw [hr]; rfl)]; rfl
    rw [hq]
    rw [hr] at R
    obtain ⟨b, ⟨v, d, tt⟩, ti, ss⟩ := x
    clear hlt hk hI hq h15 h1 hd hr e15
    repeat' (with_reducible first | refine x_ops ?_ | refine wk ?_ | (with_reducible refine xc (R) ?_) | ((first | refine gd1 ?_ ?_ | refine gd2 ?_ ?_ | refine gd3 ?_ ?_) <;> (first | exact @False.elim _ | intro hc)))
    exact finV_lit vv rfl
  | false =>
    rw [hr] at R
    cases hp : hasC x c with
    | true =>
      have hq : lgL 15 L c = k := by rw [hI, lgL_stop (by rw [hr, hp]; rfl)]; rfl
      rw [hq]
      rw [hp] at U
      obtain ⟨b, ⟨v, d, tt⟩, ti, ss⟩ := x
      clear hlt hk hI hq h15 h1 hd hr e15 hp
      repeat' (with_reducible first | refine x_ops ?_ | refine wk ?_ | (with_reducible refine xc (R) ?_) | (with_reducible refine xc (U) ?_) | ((first | refine gd1 ?_ ?_ | refine gd2 ?_ ?_ | refine gd3 ?_ ?_) <;> (first | exact @False.elim _ | intro hc)))
      exact finV_lit vv rfl
    | false =>
      have hq : lgL 15 L c = k + 1 + lgL (15 - (k + 1)) (L.drop (k + 1)) c := by
        rw [hI, e15, lgL_go (by rw [hr, hp]; rfl), show 15 - (k + 1) = 14 - k by omega]; omega
      have h16 : k + 1 ≤ 15 := by omega
      replace hq := Hid.mk hq
      rw [hp] at U
      obtain ⟨b, ⟨v, d, tt⟩, ti, ss⟩ := x
      clear hlt hk hI h15 h1 hd hr e15 hp
      repeat' (with_reducible first | refine x_ops ?_ | refine wk ?_ | (with_reducible refine xc (R) ?_) | (with_reducible refine xc (U) ?_) | ((first | refine gd1 ?_ ?_ | refine gd2 ?_ ?_ | refine gd3 ?_ ?_) <;> (first | exact @False.elim _ | intro hc)))
      exact nx hlt0.out ⟨vv, vv, h16, hq.out⟩
theorem rlong_fn (p : Pce) (hs : PcSm p) (i : Nat) (hi : i < p.es.length) (c : Int) : Fn Tryz.prog Gd 260 [p.val, vint i, vint c] (vint (lgst p i c)) := by
  refine Fn.of_vx0 k_theorboref02_Longest (by simp) (by rw [V.pures, pure_pce]; rfl) ?_
  obtain ⟨⟨cs, st⟩, es⟩ := p
  have hn : es.length ≤ 17592186044416 := hs.n
  have he : ∀ i, i < es.length → (es.getD i default).ss.length ≤ 17592186044416 := hs.e
  have hi : i < es.length := hi
  have hq : lgst ⟨⟨cs, st⟩, es⟩ i c = lgL 15 (es.drop (i + 1)) c := rfl
  have c1 : ¬ ((i : Int) < 0) := by omega
  have c2 : ¬ ((es.length : Int) ≤ (i : Int)) := by omega
  rw [hq]
  clear hs hq
  replace he := Hid.mk he
  have hi0 := Hid.mk hi
  have hn0 := Hid.mk hn
  clear hi hn
  unfold c_theorboref02_Longest
  repeat' (with_reducible first | refine x_ops ?_ | refine wk ?_ | ((first | refine gd1 ?_ ?_ | refine gd2 ?_ ?_ | refine gd3 ?_ ?_) <;> (first | exact @False.elim _ | intro hc)))
  clear c1 c2
  refine x_loopW w_theorboref02_Longest_p5 kr 16 (fun k t m => t 7 = vint k ∧ (m.obj 0 = some (.box [.sl cs.length (cs.flatMap Crs.cells) .no, .sl st.length (st.map vint) .no, .sl es.length (es.flatMap Evt.cells) .no] 49) ∧ 0 < m.next) ∧ k ≤ 15 ∧ lgL 15 (es.drop (i + 1)) c = k + lgL (15 - k) (es.drop (i + 1 + k)) c) ?_ ?_
  · exact ⟨vv, ⟨vv, by show 0 < 2; omega⟩, by omega, by simp⟩
  rintro k t m hk ⟨h7, ⟨hm, hmn⟩, h15, hI⟩
  have hin := hi0.out
  have hnn := hn0.out
  by_cases h1 : k = 15
  · have c4 : ¬ ((k : Int) < 15) := by omega
    have hq : lgL 15 (es.drop (i + 1)) c = k := by rw [hI, h1]; rfl
    rw [hq]
    clear hk hI hq h15 h1 hin hnn
    repeat' (with_reducible first | refine x_ops ?_ | refine wk ?_ | ((first | refine gd1 ?_ ?_ | refine gd2 ?_ ?_ | refine gd3 ?_ ?_) <;> (first | exact @False.elim _ | intro hc)))
    exact finV_lit vv rfl
  have c4 : (k : Int) < 15 := by omega
  obtain ⟨r, hr0⟩ : ∃ r, r = i + k := ⟨_, rfl⟩
  obtain ⟨q, hq0⟩ : ∃ q, q = i + k + 1 := ⟨_, rfl⟩
  have w1 : IntKind.i64.wrap ((i : Int) + (k : Int)) = (r : Int) := by rw [w_in (by omega)]; omega
  have w2 : IntKind.i64.wrap ((r : Int) + 1) = (q : Int) := by rw [w_in (by omega)]; omega
  have w3 := w_add1 (k := k) (by omega)
  by_cases hlt : q < es.length
  case neg =>
    have c5 : ¬ ((q : Int) < (es.length : Int)) := by omega
    have hq : lgL 15 (es.drop (i + 1)) c = k := by rw [hI, List.drop_of_length_le (by omega), lgL_nil]; rfl
    rw [hq]
    clear hlt hk hI hq h15 h1 hin hnn hr0 hq0
    repeat' (with_reducible first | refine x_ops ?_ | refine wk ?_ | ((first | refine gd1 ?_ ?_ | refine gd2 ?_ ?_ | refine gd3 ?_ ?_) <;> (first | exact @False.elim _ | intro hc)))
    exact finV_lit vv rfl
  have c5 : (q : Int) < (es.length : Int) := by omega
  have g1 := evt_take (l := es) (k := q) hlt
  have g2 := evts_len es
  have c3 : q * 6 + 6 ≤ es.length * 6 := by omega
  have hd := drop_cons hlt
  rw [show i + 1 + k = q by omega, hd] at hI
  have R := rrest_fn (es.getD q default)
  have U := rhas_fn (es.getD q default) c (by have := he.out q hlt; omega)
  have e15 : 15 - k = 14 - k + 1 := by omega
  have ei : i + 1 + (k + 1) = q + 1 := by omega
  generalize es.getD q default = x at *
  cases hr : rstE x with
  | true =>
    have hq : lgL 15 (es.drop (i + 1)) c = k := by rw [hI, lgL_stop (by rw [hr]; rfl)]; rfl
    rw [hq]
    rw [hr] at R
    obtain ⟨b, ⟨v, d, tt⟩, ti, ss⟩ := x
    clear hlt hk hI hq h15 h1 hd hr e15 hin hnn ei hr0 hq0
    repeat' (with_reducible first | refine x_ops ?_ | refine wk ?_ | (with_reducible refine xc (R) ?_) | ((first | refine gd1 ?_ ?_ | refine gd2 ?_ ?_ | refine gd3 ?_ ?_) <;> (first | exact @False.elim _ | intro hc)))
    exact finV_lit vv rfl
  | false =>
    rw [hr] at R
    cases hp : hasC x c with
    | true =>
      have hq : lgL 15 (es.drop (i + 1)) c = k := by rw [hI, lgL_stop (by rw [hr, hp]; rfl)]; rfl
      rw [hq]
      rw [hp] at U
      obtain ⟨b, ⟨v, d, tt⟩, ti, ss⟩ := x
      clear hlt hk hI hq h15 h1 hd hr e15 hp hin hnn ei hr0 hq0
      repeat' (with_reducible first | refine x_ops ?_ | refine wk ?_ | (with_reducible refine xc (R) ?_) | (with_reducible refine xc (U) ?_) | ((first | refine gd1 ?_ ?_ | refine gd2 ?_ ?_ | refine gd3 ?_ ?_) <;> (first | exact @False.elim _ | intro hc)))
      exact finV_lit vv rfl
    | false =>
      have hq : lgL 15 (es.drop (i + 1)) c = k + 1 + lgL (15 - (k + 1)) (es.drop (i + 1 + (k + 1))) c := by
        rw [hI, e15, lgL_go (by rw [hr, hp]; rfl), show 15 - (k + 1) = 14 - k by omega, ei]; omega
      have h16 : k + 1 ≤ 15 := by omega
      have hk16 : k < 16 := by omega
      replace hq := Hid.mk hq
      rw [hp] at U
      obtain ⟨b, ⟨v, d, tt⟩, ti, ss⟩ := x
      clear hlt hk hI h15 h1 hd hr e15 hp hin hnn ei hr0 hq0
      repeat' (with_reducible first | refine x_ops ?_ | refine wk ?_ | (with_reducible refine xc (R) ?_) | (with_reducible refine xc (U) ?_) | ((first | refine gd1 ?_ ?_ | refine gd2 ?_ ?_ | refine gd3 ?_ ?_) <;> (first | exact @False.elim _ | intro hc)))
      refine nx hk16 ⟨vv, ⟨?_, ?_⟩, h16, ?_⟩
      · (simp only [put_obj]; repeat rw [if_neg (by omega)]); exact hm
      · show 0 < m.next + 10; omega
      · rw [← Nat.add_assoc i 1]; exact hq.out
end Go.Proofs.YtdefefeifcdogaaGreat
