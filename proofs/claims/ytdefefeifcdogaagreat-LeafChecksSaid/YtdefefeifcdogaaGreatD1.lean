/- Instruments, pieces and leaves as data, and how they lie in cells: printed by a program. Nothing is proved of the program here. -/
import Derived.Test.YtdefefeifcdogaaGreatWk
set_option linter.unusedSimpArgs false
set_option linter.unusedVariables false
namespace Go.Proofs.YtdefefeifcdogaaGreat
open Go.RowKit

/-- A row of records. -/
def tL {α : Type} (f : α → List V) (l : List α) : V := .sl l.length (l.flatMap f) .no
theorem pure_tL {α : Type} (f : α → List V) (l : List α) : (tL f l).pure = true := by rw [tL, V.pure]; intro t h; cases h
theorem pure_tIs' (l : List Int) : (tIs l).pure = true := by rw [tIs, V.pure]; intro t h; cases h
/-- A row of rows of numbers. -/
def tIss (l : List (List Int)) : V := .sl l.length (l.map tIs) .no
theorem pure_tIss (l : List (List Int)) : (tIss l).pure = true := by rw [tIss, V.pure]; intro t h; cases h
theorem iss_at {l : List (List Int)} {k : Nat} (h : k < l.length) : (l.map tIs)[k]? = some (.sl (l.getD k []).length ((l.getD k []).map vint) .no) := by
  rw [List.getElem?_map, List.getD_eq_getElem?_getD, List.getElem?_eq_getElem h]; rfl
/-- A course: its pitch, its frets, its octave. -/
structure Crs where
  p : Int
  f : Int
  o : Bool
deriving Inhabited, DecidableEq
def Crs.cells (c : Crs) : List V := [vint c.p, vint c.f, vbool c.o]
theorem crs_len (x : Crs) : (Crs.cells x).length = 3 := rfl
theorem crss_len (l : List Crs) : (l.flatMap Crs.cells).length = l.length * 3 := flat_len crs_len l
theorem crs_at0 {l : List Crs} {k : Nat} (h : k < l.length) : (l.flatMap Crs.cells)[k * 3]? = some (V.lit (.int .i64 ((l.getD k default).p))) := by
  have := flat_at (j := 0) crs_len default h (by decide); rw [Nat.add_zero] at this; rw [this]; rfl
theorem crs_at1 {l : List Crs} {k : Nat} (h : k < l.length) : (l.flatMap Crs.cells)[k * 3 + 1]? = some (V.lit (.int .i64 ((l.getD k default).f))) := by
  have := flat_at (j := 1) crs_len default h (by decide); rw [this]; rfl
theorem crs_at2 {l : List Crs} {k : Nat} (h : k < l.length) : (l.flatMap Crs.cells)[k * 3 + 2]? = some (V.lit (.bool ((l.getD k default).o))) := by
  have := flat_at (j := 2) crs_len default h (by decide); rw [this]; rfl
theorem crs_take {l : List Crs} {k : Nat} (h : k < l.length) : ((l.flatMap Crs.cells).drop (k * 3)).take 3 = [V.lit (.int .i64 ((l.getD k default).p)), V.lit (.int .i64 ((l.getD k default).f)), V.lit (.bool ((l.getD k default).o))] := by
  rw [flat_take crs_len default h]; rfl
/-- An instrument. -/
structure Ins where
  cs : List Crs
  st : List Int
deriving Inhabited, DecidableEq
def Ins.val (x : Ins) : V := .agg [tL Crs.cells x.cs, tIs x.st]
/-- A rhythm sign. -/
structure Sg where
  v : Int
  d : Bool
  t : Bool
deriving Inhabited, DecidableEq
def Sg.cells (s : Sg) : List V := [vint s.v, vbool s.d, vbool s.t]
def Sg.val (s : Sg) : V := .agg s.cells
theorem sg_len (x : Sg) : (Sg.cells x).length = 3 := rfl
theorem sgs_len (l : List Sg) : (l.flatMap Sg.cells).length = l.length * 3 := flat_len sg_len l
theorem sg_at0 {l : List Sg} {k : Nat} (h : k < l.length) : (l.flatMap Sg.cells)[k * 3]? = some (V.lit (.int .i64 ((l.getD k default).v))) := by
  have := flat_at (j := 0) sg_len default h (by decide); rw [Nat.add_zero] at this; rw [this]; rfl
theorem sg_at1 {l : List Sg} {k : Nat} (h : k < l.length) : (l.flatMap Sg.cells)[k * 3 + 1]? = some (V.lit (.bool ((l.getD k default).d))) := by
  have := flat_at (j := 1) sg_len default h (by decide); rw [this]; rfl
theorem sg_at2 {l : List Sg} {k : Nat} (h : k < l.length) : (l.flatMap Sg.cells)[k * 3 + 2]? = some (V.lit (.bool ((l.getD k default).t))) := by
  have := flat_at (j := 2) sg_len default h (by decide); rw [this]; rfl
theorem sg_take {l : List Sg} {k : Nat} (h : k < l.length) : ((l.flatMap Sg.cells).drop (k * 3)).take 3 = [V.lit (.int .i64 ((l.getD k default).v)), V.lit (.bool ((l.getD k default).d)), V.lit (.bool ((l.getD k default).t))] := by
  rw [flat_take sg_len default h]; rfl
/-- A stop. -/
structure Stp where
  co : Int
  fr : Int
  ri : Int
  gr : Int
  ho : Int
deriving Inhabited, DecidableEq
def Stp.cells (s : Stp) : List V := [vint s.co, vint s.fr, vint s.ri, vint s.gr, vint s.ho]
theorem stp_len (x : Stp) : (Stp.cells x).length = 5 := rfl
theorem stps_len (l : List Stp) : (l.flatMap Stp.cells).length = l.length * 5 := flat_len stp_len l
theorem stp_at0 {l : List Stp} {k : Nat} (h : k < l.length) : (l.flatMap Stp.cells)[k * 5]? = some (V.lit (.int .i64 ((l.getD k default).co))) := by
  have := flat_at (j := 0) stp_len default h (by decide); rw [Nat.add_zero] at this; rw [this]; rfl
theorem stp_at1 {l : List Stp} {k : Nat} (h : k < l.length) : (l.flatMap Stp.cells)[k * 5 + 1]? = some (V.lit (.int .i64 ((l.getD k default).fr))) := by
  have := flat_at (j := 1) stp_len default h (by decide); rw [this]; rfl
theorem stp_at2 {l : List Stp} {k : Nat} (h : k < l.length) : (l.flatMap Stp.cells)[k * 5 + 2]? = some (V.lit (.int .i64 ((l.getD k default).ri))) := by
  have := flat_at (j := 2) stp_len default h (by decide); rw [this]; rfl
theorem stp_at3 {l : List Stp} {k : Nat} (h : k < l.length) : (l.flatMap Stp.cells)[k * 5 + 3]? = some (V.lit (.int .i64 ((l.getD k default).gr))) := by
  have := flat_at (j := 3) stp_len default h (by decide); rw [this]; rfl
theorem stp_at4 {l : List Stp} {k : Nat} (h : k < l.length) : (l.flatMap Stp.cells)[k * 5 + 4]? = some (V.lit (.int .i64 ((l.getD k default).ho))) := by
  have := flat_at (j := 4) stp_len default h (by decide); rw [this]; rfl
theorem stp_take {l : List Stp} {k : Nat} (h : k < l.length) : ((l.flatMap Stp.cells).drop (k * 5)).take 5 = [V.lit (.int .i64 ((l.getD k default).co)), V.lit (.int .i64 ((l.getD k default).fr)), V.lit (.int .i64 ((l.getD k default).ri)), V.lit (.int .i64 ((l.getD k default).gr)), V.lit (.int .i64 ((l.getD k default).ho))] := by
  rw [flat_take stp_len default h]; rfl
/-- An event. -/
structure Evt where
  bar : Bool
  sg : Sg
  tie : Bool
  ss : List Stp
deriving Inhabited, DecidableEq
def Evt.cells (x : Evt) : List V := [vbool x.bar, vint x.sg.v, vbool x.sg.d, vbool x.sg.t, vbool x.tie, tL Stp.cells x.ss]
def Evt.val (x : Evt) : V := .agg x.cells
theorem evt_len (x : Evt) : (Evt.cells x).length = 6 := rfl
theorem evts_len (l : List Evt) : (l.flatMap Evt.cells).length = l.length * 6 := flat_len evt_len l
theorem evt_at0 {l : List Evt} {k : Nat} (h : k < l.length) : (l.flatMap Evt.cells)[k * 6]? = some (V.lit (.bool ((l.getD k default).bar))) := by
  have := flat_at (j := 0) evt_len default h (by decide); rw [Nat.add_zero] at this; rw [this]; rfl
theorem evt_at1 {l : List Evt} {k : Nat} (h : k < l.length) : (l.flatMap Evt.cells)[k * 6 + 1]? = some (V.lit (.int .i64 ((l.getD k default).sg.v))) := by
  have := flat_at (j := 1) evt_len default h (by decide); rw [this]; rfl
theorem evt_at2 {l : List Evt} {k : Nat} (h : k < l.length) : (l.flatMap Evt.cells)[k * 6 + 2]? = some (V.lit (.bool ((l.getD k default).sg.d))) := by
  have := flat_at (j := 2) evt_len default h (by decide); rw [this]; rfl
theorem evt_at3 {l : List Evt} {k : Nat} (h : k < l.length) : (l.flatMap Evt.cells)[k * 6 + 3]? = some (V.lit (.bool ((l.getD k default).sg.t))) := by
  have := flat_at (j := 3) evt_len default h (by decide); rw [this]; rfl
theorem evt_at4 {l : List Evt} {k : Nat} (h : k < l.length) : (l.flatMap Evt.cells)[k * 6 + 4]? = some (V.lit (.bool ((l.getD k default).tie))) := by
  have := flat_at (j := 4) evt_len default h (by decide); rw [this]; rfl
theorem evt_at5 {l : List Evt} {k : Nat} (h : k < l.length) : (l.flatMap Evt.cells)[k * 6 + 5]? = some ((.sl (l.getD k default).ss.length ((l.getD k default).ss.flatMap Stp.cells) .no)) := by
  have := flat_at (j := 5) evt_len default h (by decide); rw [this]; rfl
theorem evt_take {l : List Evt} {k : Nat} (h : k < l.length) : ((l.flatMap Evt.cells).drop (k * 6)).take 6 = [V.lit (.bool ((l.getD k default).bar)), V.lit (.int .i64 ((l.getD k default).sg.v)), V.lit (.bool ((l.getD k default).sg.d)), V.lit (.bool ((l.getD k default).sg.t)), V.lit (.bool ((l.getD k default).tie)), (.sl (l.getD k default).ss.length ((l.getD k default).ss.flatMap Stp.cells) .no)] := by
  rw [flat_take evt_len default h]; rfl
/-- A piece. -/
structure Pce where
  ins : Ins
  es : List Evt
deriving Inhabited, DecidableEq
def Pce.val (p : Pce) : V := .agg [tL Crs.cells p.ins.cs, tIs p.ins.st, tL Evt.cells p.es]
/-- A column. -/
structure Clm where
  bar : Bool
  tie : Bool
  sgs : List Sg
  ce : List (List Int)
deriving Inhabited, DecidableEq
def Clm.cells (c : Clm) : List V := [vbool c.bar, vbool c.tie, tL Sg.cells c.sgs, tIss c.ce]
def Clm.val (c : Clm) : V := .agg c.cells
theorem clm_len (x : Clm) : (Clm.cells x).length = 4 := rfl
theorem clms_len (l : List Clm) : (l.flatMap Clm.cells).length = l.length * 4 := flat_len clm_len l
theorem clm_at0 {l : List Clm} {k : Nat} (h : k < l.length) : (l.flatMap Clm.cells)[k * 4]? = some (V.lit (.bool ((l.getD k default).bar))) := by
  have := flat_at (j := 0) clm_len default h (by decide); rw [Nat.add_zero] at this; rw [this]; rfl
theorem clm_at1 {l : List Clm} {k : Nat} (h : k < l.length) : (l.flatMap Clm.cells)[k * 4 + 1]? = some (V.lit (.bool ((l.getD k default).tie))) := by
  have := flat_at (j := 1) clm_len default h (by decide); rw [this]; rfl
theorem clm_at2 {l : List Clm} {k : Nat} (h : k < l.length) : (l.flatMap Clm.cells)[k * 4 + 2]? = some ((.sl (l.getD k default).sgs.length ((l.getD k default).sgs.flatMap Sg.cells) .no)) := by
  have := flat_at (j := 2) clm_len default h (by decide); rw [this]; rfl
theorem clm_at3 {l : List Clm} {k : Nat} (h : k < l.length) : (l.flatMap Clm.cells)[k * 4 + 3]? = some ((.sl (l.getD k default).ce.length ((l.getD k default).ce.map tIs) .no)) := by
  have := flat_at (j := 3) clm_len default h (by decide); rw [this]; rfl
theorem clm_take {l : List Clm} {k : Nat} (h : k < l.length) : ((l.flatMap Clm.cells).drop (k * 4)).take 4 = [V.lit (.bool ((l.getD k default).bar)), V.lit (.bool ((l.getD k default).tie)), (.sl (l.getD k default).sgs.length ((l.getD k default).sgs.flatMap Sg.cells) .no), (.sl (l.getD k default).ce.length ((l.getD k default).ce.map tIs) .no)] := by
  rw [flat_take clm_len default h]; rfl
/-- A leaf. -/
structure Lf where
  ins : Ins
  cols : List Clm
deriving Inhabited, DecidableEq
def Lf.val (f : Lf) : V := .agg [tL Crs.cells f.ins.cs, tIs f.ins.st, tL Clm.cells f.cols]
attribute [go_sem] tL tIss Crs.cells Ins.val Sg.cells Sg.val Stp.cells Evt.cells Evt.val Pce.val Clm.cells Clm.val Lf.val
theorem pure_ins (x : Ins) : x.val.pure = true := by
  rw [Ins.val, V.pure]; simp only [V.pures, pure_tL, pure_tIs', Bool.and_self]
theorem pure_pce (p : Pce) : p.val.pure = true := by
  rw [Pce.val, V.pure]; simp only [V.pures, pure_tL, pure_tIs', Bool.and_self]
theorem pure_lf (f : Lf) : f.val.pure = true := by
  rw [Lf.val, V.pure]; simp only [V.pures, pure_tL, pure_tIs', Bool.and_self]
theorem pure_sg (s : Sg) : s.val.pure = true := by
  rw [Sg.val, Sg.cells, V.pure]; simp only [V.pures, vint, vbool, V.pure, Bool.and_self]
theorem pure_evt (x : Evt) : x.val.pure = true := by
  rw [Evt.val, Evt.cells, V.pure]; simp only [V.pures, vint, vbool, V.pure, pure_tL, Bool.and_self]
theorem pure_clm (c : Clm) : c.val.pure = true := by
  rw [Clm.val, Clm.cells, V.pure]; simp only [V.pures, vint, vbool, V.pure, pure_tL, pure_tIss, Bool.and_self]
end Go.Proofs.YtdefefeifcdogaaGreat
