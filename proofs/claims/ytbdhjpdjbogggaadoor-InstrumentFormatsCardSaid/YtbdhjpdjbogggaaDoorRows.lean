/-
  NARROWER THAN 'FOR EVERY INPUT', by the rows' own cells (each row's printed sentence says how): InstrumentSpells: laid · InstrumentNames: laid · InstrumentChecks: laid · InstrumentParses: laid · InstrumentStandards: laid · InstrumentSame: laid · InstrumentPlaces: laid · InstrumentFinds: laid · InstrumentCapos: laid · InstrumentCapoSounds: laid · InstrumentTunes: laid · InstrumentCapoTwice: laid · InstrumentTunesBack: laid · InstrumentRanges: laid · InstrumentSounds: laid · InstrumentSpelledBack: laid · InstrumentFormats: laid.
  DERIVED. THE GIVEN ROWS OF THIS SEAT. 17 by the template 'for every input the law returns true; each argument reads behind the call as it read before'; 0 by the template 'total and deterministic' (their statements: YtbdhjpdjbogggaaDoorTotals.lean).
  GIVEN WITH THE SEED: the statements are not yours to turn. If you find one false, say at which input.
  Laid BY PROGRAM, IN A SANDBOX (cutbox-rows.mjs): the forced cells as the released guide's own fill.sh prints them over the translation 0b89aab314e353cf… (all of the seat's roots in one cut). By AI agents, Wed Nov 11 2026. No macro, syntax, notation, axiom, sorry.
-/
import Derived.Test.YtbdhjpdjbogggaaDoorChecked
import GoSem.PinnedTables
import GoSem.Claim
import GoSem.ClaimJoined
import GoSem.ClaimMapViews
import Derived.JoinedTies
import Derived.KernelRfl
namespace Go.Proofs.YtbdhjpdjbogggaaDoor
/- THE CELL 'sum', in the pinned program and in every row, IS THE sha256 OF THE DUMP (.gsa) THAT YtbdhjpdjbogggaaDoorProg.lean LOADS. Nothing in Lean hashes anything: it is a label: what it is worth is what the hold of that sum in a sandbox is worth. -/
noncomputable def Tryd.pinned : Pinned := { name := "ytbdhjpdjbogggaadoor", sum := "0b89aab314e353cfa3a71f0a5d1b39fbc85e1a2506ae8700a7bb6c300ec3fdd1", checked := Tryd.checked }
namespace Rows
def none {H : Type} : Left H := { results := [], args := [] }

/- WHAT THE LISTED PACKAGE-LEVEL VARIABLES READ AS WHEN THE CALL BEGINS. Each datum BY PROGRAM (the guide's laid-datum.mjs) off the statement by which the dump's own 'gosem.cut.vars' lays the variable. In a bare row this is a premise. The card (YtbdhjpdjbogggaaDoorCards.lean) ties it to the program's text. -/
def laid_unicode_utf8_acceptRanges {H : Type} : DataW H := .agg [.agg [.lit (.int .u8 128), .lit (.int .u8 191)], .agg [.lit (.int .u8 160), .lit (.int .u8 191)], .agg [.lit (.int .u8 128), .lit (.int .u8 159)], .agg [.lit (.int .u8 144), .lit (.int .u8 191)], .agg [.lit (.int .u8 128), .lit (.int .u8 143)], .agg [.lit (.int .u8 0), .lit (.int .u8 0)], .agg [.lit (.int .u8 0), .lit (.int .u8 0)], .agg [.lit (.int .u8 0), .lit (.int .u8 0)], .agg [.lit (.int .u8 0), .lit (.int .u8 0)], .agg [.lit (.int .u8 0), .lit (.int .u8 0)], .agg [.lit (.int .u8 0), .lit (.int .u8 0)], .agg [.lit (.int .u8 0), .lit (.int .u8 0)], .agg [.lit (.int .u8 0), .lit (.int .u8 0)], .agg [.lit (.int .u8 0), .lit (.int .u8 0)], .agg [.lit (.int .u8 0), .lit (.int .u8 0)], .agg [.lit (.int .u8 0), .lit (.int .u8 0)]]
def laid_theorbo_instrument_bases {H : Type} : DataW H := .agg [.lit (.int .i64 0), .lit (.int .i64 2), .lit (.int .i64 4), .lit (.int .i64 5), .lit (.int .i64 7), .lit (.int .i64 9), .lit (.int .i64 11)]
def laid_theorbo_instrument_fifths {H : Type} : DataW H := .agg [.lit (.int .i64 0), .lit (.int .i64 2), .lit (.int .i64 4), .lit (.int .i64 (-1)), .lit (.int .i64 1), .lit (.int .i64 3), .lit (.int .i64 5)]
/-- One of Go's own tables, pinned by name: the form's constant. -/
def laid_unicode_utf8_first : DataW Unit := Go.Pinned.utf8First
def laid_math_bits_deBruijn32tab {H : Type} : DataW H := .agg [.lit (.int .u8 0), .lit (.int .u8 1), .lit (.int .u8 28), .lit (.int .u8 2), .lit (.int .u8 29), .lit (.int .u8 14), .lit (.int .u8 24), .lit (.int .u8 3), .lit (.int .u8 30), .lit (.int .u8 22), .lit (.int .u8 20), .lit (.int .u8 15), .lit (.int .u8 25), .lit (.int .u8 17), .lit (.int .u8 4), .lit (.int .u8 8), .lit (.int .u8 31), .lit (.int .u8 27), .lit (.int .u8 13), .lit (.int .u8 23), .lit (.int .u8 21), .lit (.int .u8 19), .lit (.int .u8 16), .lit (.int .u8 7), .lit (.int .u8 26), .lit (.int .u8 12), .lit (.int .u8 18), .lit (.int .u8 6), .lit (.int .u8 11), .lit (.int .u8 5), .lit (.int .u8 10), .lit (.int .u8 9)]
def laid_math_bits_deBruijn64tab {H : Type} : DataW H := .agg [.lit (.int .u8 0), .lit (.int .u8 1), .lit (.int .u8 56), .lit (.int .u8 2), .lit (.int .u8 57), .lit (.int .u8 49), .lit (.int .u8 28), .lit (.int .u8 3), .lit (.int .u8 61), .lit (.int .u8 58), .lit (.int .u8 42), .lit (.int .u8 50), .lit (.int .u8 38), .lit (.int .u8 29), .lit (.int .u8 17), .lit (.int .u8 4), .lit (.int .u8 62), .lit (.int .u8 47), .lit (.int .u8 59), .lit (.int .u8 36), .lit (.int .u8 45), .lit (.int .u8 43), .lit (.int .u8 51), .lit (.int .u8 22), .lit (.int .u8 53), .lit (.int .u8 39), .lit (.int .u8 33), .lit (.int .u8 30), .lit (.int .u8 24), .lit (.int .u8 18), .lit (.int .u8 12), .lit (.int .u8 5), .lit (.int .u8 63), .lit (.int .u8 55), .lit (.int .u8 48), .lit (.int .u8 27), .lit (.int .u8 60), .lit (.int .u8 41), .lit (.int .u8 37), .lit (.int .u8 16), .lit (.int .u8 46), .lit (.int .u8 35), .lit (.int .u8 44), .lit (.int .u8 21), .lit (.int .u8 52), .lit (.int .u8 32), .lit (.int .u8 23), .lit (.int .u8 11), .lit (.int .u8 54), .lit (.int .u8 26), .lit (.int .u8 40), .lit (.int .u8 15), .lit (.int .u8 34), .lit (.int .u8 20), .lit (.int .u8 31), .lit (.int .u8 10), .lit (.int .u8 25), .lit (.int .u8 14), .lit (.int .u8 19), .lit (.int .u8 9), .lit (.int .u8 13), .lit (.int .u8 8), .lit (.int .u8 7), .lit (.int .u8 6)]
def laid_internal_strconv_uint64pow10 {H : Type} : DataW H := .agg [.lit (.int .u64 1), .lit (.int .u64 10), .lit (.int .u64 100), .lit (.int .u64 1000), .lit (.int .u64 10000), .lit (.int .u64 100000), .lit (.int .u64 1000000), .lit (.int .u64 10000000), .lit (.int .u64 100000000), .lit (.int .u64 1000000000), .lit (.int .u64 10000000000), .lit (.int .u64 100000000000), .lit (.int .u64 1000000000000), .lit (.int .u64 10000000000000), .lit (.int .u64 100000000000000), .lit (.int .u64 1000000000000000), .lit (.int .u64 10000000000000000), .lit (.int .u64 100000000000000000), .lit (.int .u64 1000000000000000000), .lit (.int .u64 10000000000000000000)]

/-- 'theorbolaw01.InstrumentSpells': WHATEVER THE INPUT: true; the input reads as it did. -/
def instrumentSpellsSpec : ChangeSpec := { name := "instrumentSpells", fn := fun _ => fun
  | [d1, d2] => { results := [.lit (.bool true)], args := [d1, d2] }
  | _ => none }
def instrumentSpellsRow : OpenClaim := { program := "ytbdhjpdjbogggaadoor", sum := "0b89aab314e353cfa3a71f0a5d1b39fbc85e1a2506ae8700a7bb6c300ec3fdd1", func := "theorbo/theorbolaw01.InstrumentSpells", spec := "instrumentSpells", inPlace := ["internal/bytealg.CountString", "internal/bytealg.IndexByteString", "internal/bytealg.IndexString"], named := ["theorbo/instrument.fifths", "theorbo/instrument.bases", "unicode/utf8.first", "unicode/utf8.acceptRanges", "internal/bytealg.MaxLen"], apart := false, laid := [("unicode/utf8.acceptRanges", laid_unicode_utf8_acceptRanges), ("theorbo/instrument.bases", laid_theorbo_instrument_bases), ("theorbo/instrument.fifths", laid_theorbo_instrument_fifths), ("unicode/utf8.first", laid_unicode_utf8_first)] }
def InstrumentSpellsSaid : Prop := instrumentSpellsRow.holds Tryd.pinned (OpenSpec.ofChange instrumentSpellsSpec)

/-- ITS FALSE NEIGHBOUR: 'it returns false'. Refute it at one input. -/
def instrumentSpellsWrong : ChangeSpec := { name := "instrumentSpells", fn := fun _ => fun
  | [d1, d2] => { results := [.lit (.bool false)], args := [d1, d2] }
  | _ => none }
def InstrumentSpellsWrongFalsely : Prop := instrumentSpellsRow.holds Tryd.pinned (OpenSpec.ofChange instrumentSpellsWrong)

/-- 'theorbolaw01.InstrumentNames': WHATEVER THE INPUT: true; the input reads as it did. -/
def instrumentNamesSpec : ChangeSpec := { name := "instrumentNames", fn := fun _ => fun
  | [d] => { results := [.lit (.bool true)], args := [d] }
  | _ => none }
def instrumentNamesRow : OpenClaim := { program := "ytbdhjpdjbogggaadoor", sum := "0b89aab314e353cfa3a71f0a5d1b39fbc85e1a2506ae8700a7bb6c300ec3fdd1", func := "theorbo/theorbolaw01.InstrumentNames", spec := "instrumentNames", inPlace := ["internal/bytealg.CountString", "internal/bytealg.IndexByteString", "internal/bytealg.IndexString"], named := ["unicode/utf8.first", "unicode/utf8.acceptRanges", "internal/bytealg.MaxLen", "theorbo/instrument.bases", "theorbo/instrument.fifths"], apart := false, laid := [("unicode/utf8.acceptRanges", laid_unicode_utf8_acceptRanges), ("theorbo/instrument.bases", laid_theorbo_instrument_bases), ("theorbo/instrument.fifths", laid_theorbo_instrument_fifths), ("unicode/utf8.first", laid_unicode_utf8_first)] }
def InstrumentNamesSaid : Prop := instrumentNamesRow.holds Tryd.pinned (OpenSpec.ofChange instrumentNamesSpec)

/-- ITS FALSE NEIGHBOUR: 'it returns false'. Refute it at one input. -/
def instrumentNamesWrong : ChangeSpec := { name := "instrumentNames", fn := fun _ => fun
  | [d] => { results := [.lit (.bool false)], args := [d] }
  | _ => none }
def InstrumentNamesWrongFalsely : Prop := instrumentNamesRow.holds Tryd.pinned (OpenSpec.ofChange instrumentNamesWrong)

/-- 'theorbolaw01.InstrumentChecks': WHATEVER THE INPUT: true; the input reads as it did. -/
def instrumentChecksSpec : ChangeSpec := { name := "instrumentChecks", fn := fun _ => fun
  | [d1, d2] => { results := [.lit (.bool true)], args := [d1, d2] }
  | _ => none }
def instrumentChecksRow : OpenClaim := { program := "ytbdhjpdjbogggaadoor", sum := "0b89aab314e353cfa3a71f0a5d1b39fbc85e1a2506ae8700a7bb6c300ec3fdd1", func := "theorbo/theorbolaw01.InstrumentChecks", spec := "instrumentChecks", inPlace := ["internal/bytealg.CountString", "internal/bytealg.IndexByteString", "internal/bytealg.IndexString"], named := ["unicode/utf8.first", "unicode/utf8.acceptRanges", "internal/bytealg.MaxLen", "theorbo/instrument.bases", "theorbo/instrument.fifths"], apart := false, laid := [("unicode/utf8.acceptRanges", laid_unicode_utf8_acceptRanges), ("theorbo/instrument.bases", laid_theorbo_instrument_bases), ("theorbo/instrument.fifths", laid_theorbo_instrument_fifths), ("unicode/utf8.first", laid_unicode_utf8_first)] }
def InstrumentChecksSaid : Prop := instrumentChecksRow.holds Tryd.pinned (OpenSpec.ofChange instrumentChecksSpec)

/-- ITS FALSE NEIGHBOUR: 'it returns false'. Refute it at one input. -/
def instrumentChecksWrong : ChangeSpec := { name := "instrumentChecks", fn := fun _ => fun
  | [d1, d2] => { results := [.lit (.bool false)], args := [d1, d2] }
  | _ => none }
def InstrumentChecksWrongFalsely : Prop := instrumentChecksRow.holds Tryd.pinned (OpenSpec.ofChange instrumentChecksWrong)

/-- 'theorbolaw01.InstrumentParses': WHATEVER THE INPUT: true; the input reads as it did. -/
def instrumentParsesSpec : ChangeSpec := { name := "instrumentParses", fn := fun _ => fun
  | [d] => { results := [.lit (.bool true)], args := [d] }
  | _ => none }
def instrumentParsesRow : OpenClaim := { program := "ytbdhjpdjbogggaadoor", sum := "0b89aab314e353cfa3a71f0a5d1b39fbc85e1a2506ae8700a7bb6c300ec3fdd1", func := "theorbo/theorbolaw01.InstrumentParses", spec := "instrumentParses", inPlace := ["internal/bytealg.CountString", "internal/bytealg.IndexByteString", "internal/bytealg.IndexString"], named := ["unicode/utf8.first", "unicode/utf8.acceptRanges", "internal/bytealg.MaxLen", "theorbo/instrument.bases", "theorbo/instrument.fifths"], apart := false, laid := [("unicode/utf8.acceptRanges", laid_unicode_utf8_acceptRanges), ("theorbo/instrument.bases", laid_theorbo_instrument_bases), ("theorbo/instrument.fifths", laid_theorbo_instrument_fifths), ("unicode/utf8.first", laid_unicode_utf8_first)] }
def InstrumentParsesSaid : Prop := instrumentParsesRow.holds Tryd.pinned (OpenSpec.ofChange instrumentParsesSpec)

/-- ITS FALSE NEIGHBOUR: 'it returns false'. Refute it at one input. -/
def instrumentParsesWrong : ChangeSpec := { name := "instrumentParses", fn := fun _ => fun
  | [d] => { results := [.lit (.bool false)], args := [d] }
  | _ => none }
def InstrumentParsesWrongFalsely : Prop := instrumentParsesRow.holds Tryd.pinned (OpenSpec.ofChange instrumentParsesWrong)

/-- 'theorbolaw01.InstrumentStandards': WHATEVER THE INPUT: true; the input reads as it did. -/
def instrumentStandardsSpec : ChangeSpec := { name := "instrumentStandards", fn := fun _ => fun
  | [d] => { results := [.lit (.bool true)], args := [d] }
  | _ => none }
def instrumentStandardsRow : OpenClaim := { program := "ytbdhjpdjbogggaadoor", sum := "0b89aab314e353cfa3a71f0a5d1b39fbc85e1a2506ae8700a7bb6c300ec3fdd1", func := "theorbo/theorbolaw01.InstrumentStandards", spec := "instrumentStandards", inPlace := ["internal/bytealg.CountString", "internal/bytealg.IndexByteString", "internal/bytealg.IndexString"], named := ["unicode/utf8.first", "unicode/utf8.acceptRanges", "internal/bytealg.MaxLen", "theorbo/instrument.bases", "theorbo/instrument.fifths"], apart := false, laid := [("unicode/utf8.acceptRanges", laid_unicode_utf8_acceptRanges), ("theorbo/instrument.bases", laid_theorbo_instrument_bases), ("theorbo/instrument.fifths", laid_theorbo_instrument_fifths), ("unicode/utf8.first", laid_unicode_utf8_first)] }
def InstrumentStandardsSaid : Prop := instrumentStandardsRow.holds Tryd.pinned (OpenSpec.ofChange instrumentStandardsSpec)

/-- ITS FALSE NEIGHBOUR: 'it returns false'. Refute it at one input. -/
def instrumentStandardsWrong : ChangeSpec := { name := "instrumentStandards", fn := fun _ => fun
  | [d] => { results := [.lit (.bool false)], args := [d] }
  | _ => none }
def InstrumentStandardsWrongFalsely : Prop := instrumentStandardsRow.holds Tryd.pinned (OpenSpec.ofChange instrumentStandardsWrong)

/-- 'theorbolaw01.InstrumentSame': WHATEVER THE INPUT: true; the input reads as it did. -/
def instrumentSameSpec : ChangeSpec := { name := "instrumentSame", fn := fun _ => fun
  | [d1, d2] => { results := [.lit (.bool true)], args := [d1, d2] }
  | _ => none }
def instrumentSameRow : OpenClaim := { program := "ytbdhjpdjbogggaadoor", sum := "0b89aab314e353cfa3a71f0a5d1b39fbc85e1a2506ae8700a7bb6c300ec3fdd1", func := "theorbo/theorbolaw01.InstrumentSame", spec := "instrumentSame", inPlace := ["internal/bytealg.CountString", "internal/bytealg.IndexByteString", "internal/bytealg.IndexString"], named := ["unicode/utf8.first", "unicode/utf8.acceptRanges", "internal/bytealg.MaxLen", "theorbo/instrument.bases", "theorbo/instrument.fifths"], apart := false, laid := [("unicode/utf8.acceptRanges", laid_unicode_utf8_acceptRanges), ("theorbo/instrument.bases", laid_theorbo_instrument_bases), ("theorbo/instrument.fifths", laid_theorbo_instrument_fifths), ("unicode/utf8.first", laid_unicode_utf8_first)] }
def InstrumentSameSaid : Prop := instrumentSameRow.holds Tryd.pinned (OpenSpec.ofChange instrumentSameSpec)

/-- ITS FALSE NEIGHBOUR: 'it returns false'. Refute it at one input. -/
def instrumentSameWrong : ChangeSpec := { name := "instrumentSame", fn := fun _ => fun
  | [d1, d2] => { results := [.lit (.bool false)], args := [d1, d2] }
  | _ => none }
def InstrumentSameWrongFalsely : Prop := instrumentSameRow.holds Tryd.pinned (OpenSpec.ofChange instrumentSameWrong)

/-- 'theorbolaw01.InstrumentPlaces': WHATEVER THE INPUT: true; the input reads as it did. -/
def instrumentPlacesSpec : ChangeSpec := { name := "instrumentPlaces", fn := fun _ => fun
  | [d1, d2] => { results := [.lit (.bool true)], args := [d1, d2] }
  | _ => none }
def instrumentPlacesRow : OpenClaim := { program := "ytbdhjpdjbogggaadoor", sum := "0b89aab314e353cfa3a71f0a5d1b39fbc85e1a2506ae8700a7bb6c300ec3fdd1", func := "theorbo/theorbolaw01.InstrumentPlaces", spec := "instrumentPlaces", inPlace := ["internal/bytealg.CountString", "internal/bytealg.IndexByteString", "internal/bytealg.IndexString"], named := ["unicode/utf8.first", "unicode/utf8.acceptRanges", "internal/bytealg.MaxLen", "theorbo/instrument.bases", "theorbo/instrument.fifths"], apart := false, laid := [("unicode/utf8.acceptRanges", laid_unicode_utf8_acceptRanges), ("theorbo/instrument.bases", laid_theorbo_instrument_bases), ("theorbo/instrument.fifths", laid_theorbo_instrument_fifths), ("unicode/utf8.first", laid_unicode_utf8_first)] }
def InstrumentPlacesSaid : Prop := instrumentPlacesRow.holds Tryd.pinned (OpenSpec.ofChange instrumentPlacesSpec)

/-- ITS FALSE NEIGHBOUR: 'it returns false'. Refute it at one input. -/
def instrumentPlacesWrong : ChangeSpec := { name := "instrumentPlaces", fn := fun _ => fun
  | [d1, d2] => { results := [.lit (.bool false)], args := [d1, d2] }
  | _ => none }
def InstrumentPlacesWrongFalsely : Prop := instrumentPlacesRow.holds Tryd.pinned (OpenSpec.ofChange instrumentPlacesWrong)

/-- 'theorbolaw01.InstrumentFinds': WHATEVER THE INPUT: true; the input reads as it did. -/
def instrumentFindsSpec : ChangeSpec := { name := "instrumentFinds", fn := fun _ => fun
  | [d1, d2] => { results := [.lit (.bool true)], args := [d1, d2] }
  | _ => none }
def instrumentFindsRow : OpenClaim := { program := "ytbdhjpdjbogggaadoor", sum := "0b89aab314e353cfa3a71f0a5d1b39fbc85e1a2506ae8700a7bb6c300ec3fdd1", func := "theorbo/theorbolaw01.InstrumentFinds", spec := "instrumentFinds", inPlace := ["internal/bytealg.CountString", "internal/bytealg.IndexByteString", "internal/bytealg.IndexString"], named := ["unicode/utf8.first", "unicode/utf8.acceptRanges", "internal/bytealg.MaxLen", "theorbo/instrument.bases", "theorbo/instrument.fifths"], apart := false, laid := [("unicode/utf8.acceptRanges", laid_unicode_utf8_acceptRanges), ("theorbo/instrument.bases", laid_theorbo_instrument_bases), ("theorbo/instrument.fifths", laid_theorbo_instrument_fifths), ("unicode/utf8.first", laid_unicode_utf8_first)] }
def InstrumentFindsSaid : Prop := instrumentFindsRow.holds Tryd.pinned (OpenSpec.ofChange instrumentFindsSpec)

/-- ITS FALSE NEIGHBOUR: 'it returns false'. Refute it at one input. -/
def instrumentFindsWrong : ChangeSpec := { name := "instrumentFinds", fn := fun _ => fun
  | [d1, d2] => { results := [.lit (.bool false)], args := [d1, d2] }
  | _ => none }
def InstrumentFindsWrongFalsely : Prop := instrumentFindsRow.holds Tryd.pinned (OpenSpec.ofChange instrumentFindsWrong)

/-- 'theorbolaw01.InstrumentCapos': WHATEVER THE INPUT: true; the input reads as it did. -/
def instrumentCaposSpec : ChangeSpec := { name := "instrumentCapos", fn := fun _ => fun
  | [d1, d2] => { results := [.lit (.bool true)], args := [d1, d2] }
  | _ => none }
def instrumentCaposRow : OpenClaim := { program := "ytbdhjpdjbogggaadoor", sum := "0b89aab314e353cfa3a71f0a5d1b39fbc85e1a2506ae8700a7bb6c300ec3fdd1", func := "theorbo/theorbolaw01.InstrumentCapos", spec := "instrumentCapos", inPlace := ["internal/bytealg.CountString", "internal/bytealg.IndexByteString", "internal/bytealg.IndexString"], named := ["unicode/utf8.first", "unicode/utf8.acceptRanges", "internal/bytealg.MaxLen", "theorbo/instrument.bases", "theorbo/instrument.fifths"], apart := false, laid := [("unicode/utf8.acceptRanges", laid_unicode_utf8_acceptRanges), ("theorbo/instrument.bases", laid_theorbo_instrument_bases), ("theorbo/instrument.fifths", laid_theorbo_instrument_fifths), ("unicode/utf8.first", laid_unicode_utf8_first)] }
def InstrumentCaposSaid : Prop := instrumentCaposRow.holds Tryd.pinned (OpenSpec.ofChange instrumentCaposSpec)

/-- ITS FALSE NEIGHBOUR: 'it returns false'. Refute it at one input. -/
def instrumentCaposWrong : ChangeSpec := { name := "instrumentCapos", fn := fun _ => fun
  | [d1, d2] => { results := [.lit (.bool false)], args := [d1, d2] }
  | _ => none }
def InstrumentCaposWrongFalsely : Prop := instrumentCaposRow.holds Tryd.pinned (OpenSpec.ofChange instrumentCaposWrong)

/-- 'theorbolaw01.InstrumentCapoSounds': WHATEVER THE INPUT: true; the input reads as it did. -/
def instrumentCapoSoundsSpec : ChangeSpec := { name := "instrumentCapoSounds", fn := fun _ => fun
  | [d1, d2, d3] => { results := [.lit (.bool true)], args := [d1, d2, d3] }
  | _ => none }
def instrumentCapoSoundsRow : OpenClaim := { program := "ytbdhjpdjbogggaadoor", sum := "0b89aab314e353cfa3a71f0a5d1b39fbc85e1a2506ae8700a7bb6c300ec3fdd1", func := "theorbo/theorbolaw01.InstrumentCapoSounds", spec := "instrumentCapoSounds", inPlace := ["internal/bytealg.CountString", "internal/bytealg.IndexByteString", "internal/bytealg.IndexString"], named := ["unicode/utf8.first", "unicode/utf8.acceptRanges", "internal/bytealg.MaxLen", "theorbo/instrument.bases", "theorbo/instrument.fifths"], apart := false, laid := [("unicode/utf8.acceptRanges", laid_unicode_utf8_acceptRanges), ("theorbo/instrument.bases", laid_theorbo_instrument_bases), ("theorbo/instrument.fifths", laid_theorbo_instrument_fifths), ("unicode/utf8.first", laid_unicode_utf8_first)] }
def InstrumentCapoSoundsSaid : Prop := instrumentCapoSoundsRow.holds Tryd.pinned (OpenSpec.ofChange instrumentCapoSoundsSpec)

/-- ITS FALSE NEIGHBOUR: 'it returns false'. Refute it at one input. -/
def instrumentCapoSoundsWrong : ChangeSpec := { name := "instrumentCapoSounds", fn := fun _ => fun
  | [d1, d2, d3] => { results := [.lit (.bool false)], args := [d1, d2, d3] }
  | _ => none }
def InstrumentCapoSoundsWrongFalsely : Prop := instrumentCapoSoundsRow.holds Tryd.pinned (OpenSpec.ofChange instrumentCapoSoundsWrong)

/-- 'theorbolaw01.InstrumentTunes': WHATEVER THE INPUT: true; the input reads as it did. -/
def instrumentTunesSpec : ChangeSpec := { name := "instrumentTunes", fn := fun _ => fun
  | [d1, d2, d3] => { results := [.lit (.bool true)], args := [d1, d2, d3] }
  | _ => none }
def instrumentTunesRow : OpenClaim := { program := "ytbdhjpdjbogggaadoor", sum := "0b89aab314e353cfa3a71f0a5d1b39fbc85e1a2506ae8700a7bb6c300ec3fdd1", func := "theorbo/theorbolaw01.InstrumentTunes", spec := "instrumentTunes", inPlace := ["internal/bytealg.CountString", "internal/bytealg.IndexByteString", "internal/bytealg.IndexString"], named := ["unicode/utf8.first", "unicode/utf8.acceptRanges", "internal/bytealg.MaxLen", "theorbo/instrument.bases", "theorbo/instrument.fifths"], apart := false, laid := [("unicode/utf8.acceptRanges", laid_unicode_utf8_acceptRanges), ("theorbo/instrument.bases", laid_theorbo_instrument_bases), ("theorbo/instrument.fifths", laid_theorbo_instrument_fifths), ("unicode/utf8.first", laid_unicode_utf8_first)] }
def InstrumentTunesSaid : Prop := instrumentTunesRow.holds Tryd.pinned (OpenSpec.ofChange instrumentTunesSpec)

/-- ITS FALSE NEIGHBOUR: 'it returns false'. Refute it at one input. -/
def instrumentTunesWrong : ChangeSpec := { name := "instrumentTunes", fn := fun _ => fun
  | [d1, d2, d3] => { results := [.lit (.bool false)], args := [d1, d2, d3] }
  | _ => none }
def InstrumentTunesWrongFalsely : Prop := instrumentTunesRow.holds Tryd.pinned (OpenSpec.ofChange instrumentTunesWrong)

/-- 'theorbolaw01.InstrumentCapoTwice': WHATEVER THE INPUT: true; the input reads as it did. -/
def instrumentCapoTwiceSpec : ChangeSpec := { name := "instrumentCapoTwice", fn := fun _ => fun
  | [d1, d2, d3] => { results := [.lit (.bool true)], args := [d1, d2, d3] }
  | _ => none }
def instrumentCapoTwiceRow : OpenClaim := { program := "ytbdhjpdjbogggaadoor", sum := "0b89aab314e353cfa3a71f0a5d1b39fbc85e1a2506ae8700a7bb6c300ec3fdd1", func := "theorbo/theorbolaw01.InstrumentCapoTwice", spec := "instrumentCapoTwice", inPlace := ["internal/bytealg.CountString", "internal/bytealg.IndexByteString", "internal/bytealg.IndexString"], named := ["unicode/utf8.first", "unicode/utf8.acceptRanges", "internal/bytealg.MaxLen", "theorbo/instrument.bases", "theorbo/instrument.fifths"], apart := false, laid := [("unicode/utf8.acceptRanges", laid_unicode_utf8_acceptRanges), ("theorbo/instrument.bases", laid_theorbo_instrument_bases), ("theorbo/instrument.fifths", laid_theorbo_instrument_fifths), ("unicode/utf8.first", laid_unicode_utf8_first)] }
def InstrumentCapoTwiceSaid : Prop := instrumentCapoTwiceRow.holds Tryd.pinned (OpenSpec.ofChange instrumentCapoTwiceSpec)

/-- ITS FALSE NEIGHBOUR: 'it returns false'. Refute it at one input. -/
def instrumentCapoTwiceWrong : ChangeSpec := { name := "instrumentCapoTwice", fn := fun _ => fun
  | [d1, d2, d3] => { results := [.lit (.bool false)], args := [d1, d2, d3] }
  | _ => none }
def InstrumentCapoTwiceWrongFalsely : Prop := instrumentCapoTwiceRow.holds Tryd.pinned (OpenSpec.ofChange instrumentCapoTwiceWrong)

/-- 'theorbolaw01.InstrumentTunesBack': WHATEVER THE INPUT: true; the input reads as it did. -/
def instrumentTunesBackSpec : ChangeSpec := { name := "instrumentTunesBack", fn := fun _ => fun
  | [d1, d2, d3] => { results := [.lit (.bool true)], args := [d1, d2, d3] }
  | _ => none }
def instrumentTunesBackRow : OpenClaim := { program := "ytbdhjpdjbogggaadoor", sum := "0b89aab314e353cfa3a71f0a5d1b39fbc85e1a2506ae8700a7bb6c300ec3fdd1", func := "theorbo/theorbolaw01.InstrumentTunesBack", spec := "instrumentTunesBack", inPlace := ["internal/bytealg.CountString", "internal/bytealg.IndexByteString", "internal/bytealg.IndexString"], named := ["unicode/utf8.first", "unicode/utf8.acceptRanges", "internal/bytealg.MaxLen", "theorbo/instrument.bases", "theorbo/instrument.fifths"], apart := false, laid := [("unicode/utf8.acceptRanges", laid_unicode_utf8_acceptRanges), ("theorbo/instrument.bases", laid_theorbo_instrument_bases), ("theorbo/instrument.fifths", laid_theorbo_instrument_fifths), ("unicode/utf8.first", laid_unicode_utf8_first)] }
def InstrumentTunesBackSaid : Prop := instrumentTunesBackRow.holds Tryd.pinned (OpenSpec.ofChange instrumentTunesBackSpec)

/-- ITS FALSE NEIGHBOUR: 'it returns false'. Refute it at one input. -/
def instrumentTunesBackWrong : ChangeSpec := { name := "instrumentTunesBack", fn := fun _ => fun
  | [d1, d2, d3] => { results := [.lit (.bool false)], args := [d1, d2, d3] }
  | _ => none }
def InstrumentTunesBackWrongFalsely : Prop := instrumentTunesBackRow.holds Tryd.pinned (OpenSpec.ofChange instrumentTunesBackWrong)

/-- 'theorbolaw01.InstrumentRanges': WHATEVER THE INPUT: true; the input reads as it did. -/
def instrumentRangesSpec : ChangeSpec := { name := "instrumentRanges", fn := fun _ => fun
  | [d] => { results := [.lit (.bool true)], args := [d] }
  | _ => none }
def instrumentRangesRow : OpenClaim := { program := "ytbdhjpdjbogggaadoor", sum := "0b89aab314e353cfa3a71f0a5d1b39fbc85e1a2506ae8700a7bb6c300ec3fdd1", func := "theorbo/theorbolaw01.InstrumentRanges", spec := "instrumentRanges", inPlace := ["internal/bytealg.CountString", "internal/bytealg.IndexByteString", "internal/bytealg.IndexString"], unfollowed := true, recurses := true, named := ["unicode/utf8.first", "unicode/utf8.acceptRanges", "internal/bytealg.MaxLen", "theorbo/instrument.bases", "theorbo/instrument.fifths"], apart := false, laid := [("unicode/utf8.acceptRanges", laid_unicode_utf8_acceptRanges), ("theorbo/instrument.bases", laid_theorbo_instrument_bases), ("theorbo/instrument.fifths", laid_theorbo_instrument_fifths), ("unicode/utf8.first", laid_unicode_utf8_first)] }
def InstrumentRangesSaid : Prop := instrumentRangesRow.holds Tryd.pinned (OpenSpec.ofChange instrumentRangesSpec)

/-- ITS FALSE NEIGHBOUR: 'it returns false'. Refute it at one input. -/
def instrumentRangesWrong : ChangeSpec := { name := "instrumentRanges", fn := fun _ => fun
  | [d] => { results := [.lit (.bool false)], args := [d] }
  | _ => none }
def InstrumentRangesWrongFalsely : Prop := instrumentRangesRow.holds Tryd.pinned (OpenSpec.ofChange instrumentRangesWrong)

/-- 'theorbolaw01.InstrumentSounds': WHATEVER THE INPUT: true; the input reads as it did. -/
def instrumentSoundsSpec : ChangeSpec := { name := "instrumentSounds", fn := fun _ => fun
  | [d] => { results := [.lit (.bool true)], args := [d] }
  | _ => none }
def instrumentSoundsRow : OpenClaim := { program := "ytbdhjpdjbogggaadoor", sum := "0b89aab314e353cfa3a71f0a5d1b39fbc85e1a2506ae8700a7bb6c300ec3fdd1", func := "theorbo/theorbolaw01.InstrumentSounds", spec := "instrumentSounds", inPlace := ["internal/bytealg.CountString", "internal/bytealg.IndexByteString", "internal/bytealg.IndexString"], recurses := true, named := ["theorbo/instrument.bases", "internal/strconv.uint64pow10", "math/bits.deBruijn32tab", "math/bits.deBruijn64tab", "unicode/utf8.first", "unicode/utf8.acceptRanges", "internal/bytealg.MaxLen", "theorbo/instrument.fifths"], apart := false, laid := [("math/bits.deBruijn32tab", laid_math_bits_deBruijn32tab), ("math/bits.deBruijn64tab", laid_math_bits_deBruijn64tab), ("internal/strconv.uint64pow10", laid_internal_strconv_uint64pow10), ("unicode/utf8.acceptRanges", laid_unicode_utf8_acceptRanges), ("theorbo/instrument.bases", laid_theorbo_instrument_bases), ("theorbo/instrument.fifths", laid_theorbo_instrument_fifths), ("unicode/utf8.first", laid_unicode_utf8_first)] }
def InstrumentSoundsSaid : Prop := instrumentSoundsRow.holds Tryd.pinned (OpenSpec.ofChange instrumentSoundsSpec)

/-- ITS FALSE NEIGHBOUR: 'it returns false'. Refute it at one input. -/
def instrumentSoundsWrong : ChangeSpec := { name := "instrumentSounds", fn := fun _ => fun
  | [d] => { results := [.lit (.bool false)], args := [d] }
  | _ => none }
def InstrumentSoundsWrongFalsely : Prop := instrumentSoundsRow.holds Tryd.pinned (OpenSpec.ofChange instrumentSoundsWrong)

/-- 'theorbolaw01.InstrumentSpelledBack': WHATEVER THE INPUT: true; the input reads as it did. -/
def instrumentSpelledBackSpec : ChangeSpec := { name := "instrumentSpelledBack", fn := fun _ => fun
  | [d1, d2] => { results := [.lit (.bool true)], args := [d1, d2] }
  | _ => none }
def instrumentSpelledBackRow : OpenClaim := { program := "ytbdhjpdjbogggaadoor", sum := "0b89aab314e353cfa3a71f0a5d1b39fbc85e1a2506ae8700a7bb6c300ec3fdd1", func := "theorbo/theorbolaw01.InstrumentSpelledBack", spec := "instrumentSpelledBack", inPlace := ["internal/bytealg.CountString", "internal/bytealg.IndexByteString", "internal/bytealg.IndexString"], named := ["theorbo/instrument.fifths", "theorbo/instrument.bases", "unicode/utf8.first", "unicode/utf8.acceptRanges", "internal/bytealg.MaxLen", "internal/strconv.uint64pow10", "math/bits.deBruijn32tab", "math/bits.deBruijn64tab"], apart := false, laid := [("math/bits.deBruijn32tab", laid_math_bits_deBruijn32tab), ("math/bits.deBruijn64tab", laid_math_bits_deBruijn64tab), ("internal/strconv.uint64pow10", laid_internal_strconv_uint64pow10), ("unicode/utf8.acceptRanges", laid_unicode_utf8_acceptRanges), ("theorbo/instrument.bases", laid_theorbo_instrument_bases), ("theorbo/instrument.fifths", laid_theorbo_instrument_fifths), ("unicode/utf8.first", laid_unicode_utf8_first)] }
def InstrumentSpelledBackSaid : Prop := instrumentSpelledBackRow.holds Tryd.pinned (OpenSpec.ofChange instrumentSpelledBackSpec)

/-- ITS FALSE NEIGHBOUR: 'it returns false'. Refute it at one input. -/
def instrumentSpelledBackWrong : ChangeSpec := { name := "instrumentSpelledBack", fn := fun _ => fun
  | [d1, d2] => { results := [.lit (.bool false)], args := [d1, d2] }
  | _ => none }
def InstrumentSpelledBackWrongFalsely : Prop := instrumentSpelledBackRow.holds Tryd.pinned (OpenSpec.ofChange instrumentSpelledBackWrong)

/-- 'theorbolaw01.InstrumentFormats': WHATEVER THE INPUT: true; the input reads as it did. -/
def instrumentFormatsSpec : ChangeSpec := { name := "instrumentFormats", fn := fun _ => fun
  | [d] => { results := [.lit (.bool true)], args := [d] }
  | _ => none }
def instrumentFormatsRow : OpenClaim := { program := "ytbdhjpdjbogggaadoor", sum := "0b89aab314e353cfa3a71f0a5d1b39fbc85e1a2506ae8700a7bb6c300ec3fdd1", func := "theorbo/theorbolaw01.InstrumentFormats", spec := "instrumentFormats", inPlace := ["internal/bytealg.CountString", "internal/bytealg.IndexByteString", "internal/bytealg.IndexString", "internal/abi.NoEscape"], recurses := true, named := ["unicode/utf8.first", "unicode/utf8.acceptRanges", "internal/bytealg.MaxLen", "theorbo/instrument.bases", "theorbo/instrument.fifths", "internal/strconv.uint64pow10", "math/bits.deBruijn32tab", "math/bits.deBruijn64tab"], apart := false, laid := [("math/bits.deBruijn32tab", laid_math_bits_deBruijn32tab), ("math/bits.deBruijn64tab", laid_math_bits_deBruijn64tab), ("internal/strconv.uint64pow10", laid_internal_strconv_uint64pow10), ("unicode/utf8.acceptRanges", laid_unicode_utf8_acceptRanges), ("theorbo/instrument.bases", laid_theorbo_instrument_bases), ("theorbo/instrument.fifths", laid_theorbo_instrument_fifths), ("unicode/utf8.first", laid_unicode_utf8_first)] }
def InstrumentFormatsSaid : Prop := instrumentFormatsRow.holds Tryd.pinned (OpenSpec.ofChange instrumentFormatsSpec)

/-- ITS FALSE NEIGHBOUR: 'it returns false'. Refute it at one input. -/
def instrumentFormatsWrong : ChangeSpec := { name := "instrumentFormats", fn := fun _ => fun
  | [d] => { results := [.lit (.bool false)], args := [d] }
  | _ => none }
def InstrumentFormatsWrongFalsely : Prop := instrumentFormatsRow.holds Tryd.pinned (OpenSpec.ofChange instrumentFormatsWrong)

/- THE SECOND FORM. 'bulk': how many values and letters a reading holds, each counted each time it is reached (what is shared counts as often as it is met; a slice's spare places count too). A statement '..UptoSaid' is the law's where the arguments, and the package variables that the reading takes, are together of bulk at most 1048576: NARROWER than '..Said'. Prove '..Said' where nothing that the law and all that it calls make is longer than what came in: it says more and counts as full. Else prove '..UptoSaid'. A law counts once. -/
mutual
def uptoBulk {H : Type} : DataW H → Nat
  | .lit (.string bytes) => bytes.length + 1
  | .lit _ => 1
  | .nil => 1
  | .ptr d => uptoBulk d + 1
  | .slice elems spare => uptoBulkAll elems + uptoBulkAll spare + 1
  | .agg parts => uptoBulkAll parts + 1
  | .iface _ d => uptoBulk d + 1
  | .map entries => uptoBulkEntries entries + 1
  | .held _ => 1
def uptoBulkAll {H : Type} : List (DataW H) → Nat
  | [] => 0
  | d :: r => uptoBulk d + uptoBulkAll r
def uptoBulkEntries {H : Type} : List (Lit × DataW H) → Nat
  | [] => 0
  | x :: r => uptoBulkEntry x + uptoBulkEntries r
def uptoBulkEntry {H : Type} : Lit × DataW H → Nat
  | (.string bytes, d) => bytes.length + uptoBulk d + 1
  | (_, d) => uptoBulk d + 1
 end
def uptoSmall : (H : Type) → List (DataW H) → Bool := fun _ ds => decide (uptoBulkAll ds ≤ 1048576)
def OpenSpec.upto (s : _root_.Go.ChangeSpec) : _root_.Go.OpenSpec := { _root_.Go.OpenSpec.ofChange s with cond := some uptoSmall }

/-- 'theorbolaw01.InstrumentSpells', WHERE WHAT IT READS IS OF BULK AT MOST 1048576: true; the input reads as it did. -/
def instrumentSpellsUptoRow : OpenClaim := { program := "ytbdhjpdjbogggaadoor", sum := "0b89aab314e353cfa3a71f0a5d1b39fbc85e1a2506ae8700a7bb6c300ec3fdd1", func := "theorbo/theorbolaw01.InstrumentSpells", spec := "instrumentSpells", inPlace := ["internal/bytealg.CountString", "internal/bytealg.IndexByteString", "internal/bytealg.IndexString"], named := ["theorbo/instrument.fifths", "theorbo/instrument.bases", "unicode/utf8.first", "unicode/utf8.acceptRanges", "internal/bytealg.MaxLen"], apart := false, laid := [("unicode/utf8.acceptRanges", laid_unicode_utf8_acceptRanges), ("theorbo/instrument.bases", laid_theorbo_instrument_bases), ("theorbo/instrument.fifths", laid_theorbo_instrument_fifths), ("unicode/utf8.first", laid_unicode_utf8_first)], narrowed := true }
def InstrumentSpellsUptoSaid : Prop := instrumentSpellsUptoRow.holds Tryd.pinned (OpenSpec.upto instrumentSpellsSpec)

/-- 'theorbolaw01.InstrumentNames', WHERE WHAT IT READS IS OF BULK AT MOST 1048576: true; the input reads as it did. -/
def instrumentNamesUptoRow : OpenClaim := { program := "ytbdhjpdjbogggaadoor", sum := "0b89aab314e353cfa3a71f0a5d1b39fbc85e1a2506ae8700a7bb6c300ec3fdd1", func := "theorbo/theorbolaw01.InstrumentNames", spec := "instrumentNames", inPlace := ["internal/bytealg.CountString", "internal/bytealg.IndexByteString", "internal/bytealg.IndexString"], named := ["unicode/utf8.first", "unicode/utf8.acceptRanges", "internal/bytealg.MaxLen", "theorbo/instrument.bases", "theorbo/instrument.fifths"], apart := false, laid := [("unicode/utf8.acceptRanges", laid_unicode_utf8_acceptRanges), ("theorbo/instrument.bases", laid_theorbo_instrument_bases), ("theorbo/instrument.fifths", laid_theorbo_instrument_fifths), ("unicode/utf8.first", laid_unicode_utf8_first)], narrowed := true }
def InstrumentNamesUptoSaid : Prop := instrumentNamesUptoRow.holds Tryd.pinned (OpenSpec.upto instrumentNamesSpec)

/-- 'theorbolaw01.InstrumentChecks', WHERE WHAT IT READS IS OF BULK AT MOST 1048576: true; the input reads as it did. -/
def instrumentChecksUptoRow : OpenClaim := { program := "ytbdhjpdjbogggaadoor", sum := "0b89aab314e353cfa3a71f0a5d1b39fbc85e1a2506ae8700a7bb6c300ec3fdd1", func := "theorbo/theorbolaw01.InstrumentChecks", spec := "instrumentChecks", inPlace := ["internal/bytealg.CountString", "internal/bytealg.IndexByteString", "internal/bytealg.IndexString"], named := ["unicode/utf8.first", "unicode/utf8.acceptRanges", "internal/bytealg.MaxLen", "theorbo/instrument.bases", "theorbo/instrument.fifths"], apart := false, laid := [("unicode/utf8.acceptRanges", laid_unicode_utf8_acceptRanges), ("theorbo/instrument.bases", laid_theorbo_instrument_bases), ("theorbo/instrument.fifths", laid_theorbo_instrument_fifths), ("unicode/utf8.first", laid_unicode_utf8_first)], narrowed := true }
def InstrumentChecksUptoSaid : Prop := instrumentChecksUptoRow.holds Tryd.pinned (OpenSpec.upto instrumentChecksSpec)

/-- 'theorbolaw01.InstrumentParses', WHERE WHAT IT READS IS OF BULK AT MOST 1048576: true; the input reads as it did. -/
def instrumentParsesUptoRow : OpenClaim := { program := "ytbdhjpdjbogggaadoor", sum := "0b89aab314e353cfa3a71f0a5d1b39fbc85e1a2506ae8700a7bb6c300ec3fdd1", func := "theorbo/theorbolaw01.InstrumentParses", spec := "instrumentParses", inPlace := ["internal/bytealg.CountString", "internal/bytealg.IndexByteString", "internal/bytealg.IndexString"], named := ["unicode/utf8.first", "unicode/utf8.acceptRanges", "internal/bytealg.MaxLen", "theorbo/instrument.bases", "theorbo/instrument.fifths"], apart := false, laid := [("unicode/utf8.acceptRanges", laid_unicode_utf8_acceptRanges), ("theorbo/instrument.bases", laid_theorbo_instrument_bases), ("theorbo/instrument.fifths", laid_theorbo_instrument_fifths), ("unicode/utf8.first", laid_unicode_utf8_first)], narrowed := true }
def InstrumentParsesUptoSaid : Prop := instrumentParsesUptoRow.holds Tryd.pinned (OpenSpec.upto instrumentParsesSpec)

/-- 'theorbolaw01.InstrumentStandards', WHERE WHAT IT READS IS OF BULK AT MOST 1048576: true; the input reads as it did. -/
def instrumentStandardsUptoRow : OpenClaim := { program := "ytbdhjpdjbogggaadoor", sum := "0b89aab314e353cfa3a71f0a5d1b39fbc85e1a2506ae8700a7bb6c300ec3fdd1", func := "theorbo/theorbolaw01.InstrumentStandards", spec := "instrumentStandards", inPlace := ["internal/bytealg.CountString", "internal/bytealg.IndexByteString", "internal/bytealg.IndexString"], named := ["unicode/utf8.first", "unicode/utf8.acceptRanges", "internal/bytealg.MaxLen", "theorbo/instrument.bases", "theorbo/instrument.fifths"], apart := false, laid := [("unicode/utf8.acceptRanges", laid_unicode_utf8_acceptRanges), ("theorbo/instrument.bases", laid_theorbo_instrument_bases), ("theorbo/instrument.fifths", laid_theorbo_instrument_fifths), ("unicode/utf8.first", laid_unicode_utf8_first)], narrowed := true }
def InstrumentStandardsUptoSaid : Prop := instrumentStandardsUptoRow.holds Tryd.pinned (OpenSpec.upto instrumentStandardsSpec)

/-- 'theorbolaw01.InstrumentSame', WHERE WHAT IT READS IS OF BULK AT MOST 1048576: true; the input reads as it did. -/
def instrumentSameUptoRow : OpenClaim := { program := "ytbdhjpdjbogggaadoor", sum := "0b89aab314e353cfa3a71f0a5d1b39fbc85e1a2506ae8700a7bb6c300ec3fdd1", func := "theorbo/theorbolaw01.InstrumentSame", spec := "instrumentSame", inPlace := ["internal/bytealg.CountString", "internal/bytealg.IndexByteString", "internal/bytealg.IndexString"], named := ["unicode/utf8.first", "unicode/utf8.acceptRanges", "internal/bytealg.MaxLen", "theorbo/instrument.bases", "theorbo/instrument.fifths"], apart := false, laid := [("unicode/utf8.acceptRanges", laid_unicode_utf8_acceptRanges), ("theorbo/instrument.bases", laid_theorbo_instrument_bases), ("theorbo/instrument.fifths", laid_theorbo_instrument_fifths), ("unicode/utf8.first", laid_unicode_utf8_first)], narrowed := true }
def InstrumentSameUptoSaid : Prop := instrumentSameUptoRow.holds Tryd.pinned (OpenSpec.upto instrumentSameSpec)

/-- 'theorbolaw01.InstrumentPlaces', WHERE WHAT IT READS IS OF BULK AT MOST 1048576: true; the input reads as it did. -/
def instrumentPlacesUptoRow : OpenClaim := { program := "ytbdhjpdjbogggaadoor", sum := "0b89aab314e353cfa3a71f0a5d1b39fbc85e1a2506ae8700a7bb6c300ec3fdd1", func := "theorbo/theorbolaw01.InstrumentPlaces", spec := "instrumentPlaces", inPlace := ["internal/bytealg.CountString", "internal/bytealg.IndexByteString", "internal/bytealg.IndexString"], named := ["unicode/utf8.first", "unicode/utf8.acceptRanges", "internal/bytealg.MaxLen", "theorbo/instrument.bases", "theorbo/instrument.fifths"], apart := false, laid := [("unicode/utf8.acceptRanges", laid_unicode_utf8_acceptRanges), ("theorbo/instrument.bases", laid_theorbo_instrument_bases), ("theorbo/instrument.fifths", laid_theorbo_instrument_fifths), ("unicode/utf8.first", laid_unicode_utf8_first)], narrowed := true }
def InstrumentPlacesUptoSaid : Prop := instrumentPlacesUptoRow.holds Tryd.pinned (OpenSpec.upto instrumentPlacesSpec)

/-- 'theorbolaw01.InstrumentFinds', WHERE WHAT IT READS IS OF BULK AT MOST 1048576: true; the input reads as it did. -/
def instrumentFindsUptoRow : OpenClaim := { program := "ytbdhjpdjbogggaadoor", sum := "0b89aab314e353cfa3a71f0a5d1b39fbc85e1a2506ae8700a7bb6c300ec3fdd1", func := "theorbo/theorbolaw01.InstrumentFinds", spec := "instrumentFinds", inPlace := ["internal/bytealg.CountString", "internal/bytealg.IndexByteString", "internal/bytealg.IndexString"], named := ["unicode/utf8.first", "unicode/utf8.acceptRanges", "internal/bytealg.MaxLen", "theorbo/instrument.bases", "theorbo/instrument.fifths"], apart := false, laid := [("unicode/utf8.acceptRanges", laid_unicode_utf8_acceptRanges), ("theorbo/instrument.bases", laid_theorbo_instrument_bases), ("theorbo/instrument.fifths", laid_theorbo_instrument_fifths), ("unicode/utf8.first", laid_unicode_utf8_first)], narrowed := true }
def InstrumentFindsUptoSaid : Prop := instrumentFindsUptoRow.holds Tryd.pinned (OpenSpec.upto instrumentFindsSpec)

/-- 'theorbolaw01.InstrumentCapos', WHERE WHAT IT READS IS OF BULK AT MOST 1048576: true; the input reads as it did. -/
def instrumentCaposUptoRow : OpenClaim := { program := "ytbdhjpdjbogggaadoor", sum := "0b89aab314e353cfa3a71f0a5d1b39fbc85e1a2506ae8700a7bb6c300ec3fdd1", func := "theorbo/theorbolaw01.InstrumentCapos", spec := "instrumentCapos", inPlace := ["internal/bytealg.CountString", "internal/bytealg.IndexByteString", "internal/bytealg.IndexString"], named := ["unicode/utf8.first", "unicode/utf8.acceptRanges", "internal/bytealg.MaxLen", "theorbo/instrument.bases", "theorbo/instrument.fifths"], apart := false, laid := [("unicode/utf8.acceptRanges", laid_unicode_utf8_acceptRanges), ("theorbo/instrument.bases", laid_theorbo_instrument_bases), ("theorbo/instrument.fifths", laid_theorbo_instrument_fifths), ("unicode/utf8.first", laid_unicode_utf8_first)], narrowed := true }
def InstrumentCaposUptoSaid : Prop := instrumentCaposUptoRow.holds Tryd.pinned (OpenSpec.upto instrumentCaposSpec)

/-- 'theorbolaw01.InstrumentCapoSounds', WHERE WHAT IT READS IS OF BULK AT MOST 1048576: true; the input reads as it did. -/
def instrumentCapoSoundsUptoRow : OpenClaim := { program := "ytbdhjpdjbogggaadoor", sum := "0b89aab314e353cfa3a71f0a5d1b39fbc85e1a2506ae8700a7bb6c300ec3fdd1", func := "theorbo/theorbolaw01.InstrumentCapoSounds", spec := "instrumentCapoSounds", inPlace := ["internal/bytealg.CountString", "internal/bytealg.IndexByteString", "internal/bytealg.IndexString"], named := ["unicode/utf8.first", "unicode/utf8.acceptRanges", "internal/bytealg.MaxLen", "theorbo/instrument.bases", "theorbo/instrument.fifths"], apart := false, laid := [("unicode/utf8.acceptRanges", laid_unicode_utf8_acceptRanges), ("theorbo/instrument.bases", laid_theorbo_instrument_bases), ("theorbo/instrument.fifths", laid_theorbo_instrument_fifths), ("unicode/utf8.first", laid_unicode_utf8_first)], narrowed := true }
def InstrumentCapoSoundsUptoSaid : Prop := instrumentCapoSoundsUptoRow.holds Tryd.pinned (OpenSpec.upto instrumentCapoSoundsSpec)

/-- 'theorbolaw01.InstrumentTunes', WHERE WHAT IT READS IS OF BULK AT MOST 1048576: true; the input reads as it did. -/
def instrumentTunesUptoRow : OpenClaim := { program := "ytbdhjpdjbogggaadoor", sum := "0b89aab314e353cfa3a71f0a5d1b39fbc85e1a2506ae8700a7bb6c300ec3fdd1", func := "theorbo/theorbolaw01.InstrumentTunes", spec := "instrumentTunes", inPlace := ["internal/bytealg.CountString", "internal/bytealg.IndexByteString", "internal/bytealg.IndexString"], named := ["unicode/utf8.first", "unicode/utf8.acceptRanges", "internal/bytealg.MaxLen", "theorbo/instrument.bases", "theorbo/instrument.fifths"], apart := false, laid := [("unicode/utf8.acceptRanges", laid_unicode_utf8_acceptRanges), ("theorbo/instrument.bases", laid_theorbo_instrument_bases), ("theorbo/instrument.fifths", laid_theorbo_instrument_fifths), ("unicode/utf8.first", laid_unicode_utf8_first)], narrowed := true }
def InstrumentTunesUptoSaid : Prop := instrumentTunesUptoRow.holds Tryd.pinned (OpenSpec.upto instrumentTunesSpec)

/-- 'theorbolaw01.InstrumentCapoTwice', WHERE WHAT IT READS IS OF BULK AT MOST 1048576: true; the input reads as it did. -/
def instrumentCapoTwiceUptoRow : OpenClaim := { program := "ytbdhjpdjbogggaadoor", sum := "0b89aab314e353cfa3a71f0a5d1b39fbc85e1a2506ae8700a7bb6c300ec3fdd1", func := "theorbo/theorbolaw01.InstrumentCapoTwice", spec := "instrumentCapoTwice", inPlace := ["internal/bytealg.CountString", "internal/bytealg.IndexByteString", "internal/bytealg.IndexString"], named := ["unicode/utf8.first", "unicode/utf8.acceptRanges", "internal/bytealg.MaxLen", "theorbo/instrument.bases", "theorbo/instrument.fifths"], apart := false, laid := [("unicode/utf8.acceptRanges", laid_unicode_utf8_acceptRanges), ("theorbo/instrument.bases", laid_theorbo_instrument_bases), ("theorbo/instrument.fifths", laid_theorbo_instrument_fifths), ("unicode/utf8.first", laid_unicode_utf8_first)], narrowed := true }
def InstrumentCapoTwiceUptoSaid : Prop := instrumentCapoTwiceUptoRow.holds Tryd.pinned (OpenSpec.upto instrumentCapoTwiceSpec)

/-- 'theorbolaw01.InstrumentTunesBack', WHERE WHAT IT READS IS OF BULK AT MOST 1048576: true; the input reads as it did. -/
def instrumentTunesBackUptoRow : OpenClaim := { program := "ytbdhjpdjbogggaadoor", sum := "0b89aab314e353cfa3a71f0a5d1b39fbc85e1a2506ae8700a7bb6c300ec3fdd1", func := "theorbo/theorbolaw01.InstrumentTunesBack", spec := "instrumentTunesBack", inPlace := ["internal/bytealg.CountString", "internal/bytealg.IndexByteString", "internal/bytealg.IndexString"], named := ["unicode/utf8.first", "unicode/utf8.acceptRanges", "internal/bytealg.MaxLen", "theorbo/instrument.bases", "theorbo/instrument.fifths"], apart := false, laid := [("unicode/utf8.acceptRanges", laid_unicode_utf8_acceptRanges), ("theorbo/instrument.bases", laid_theorbo_instrument_bases), ("theorbo/instrument.fifths", laid_theorbo_instrument_fifths), ("unicode/utf8.first", laid_unicode_utf8_first)], narrowed := true }
def InstrumentTunesBackUptoSaid : Prop := instrumentTunesBackUptoRow.holds Tryd.pinned (OpenSpec.upto instrumentTunesBackSpec)

/-- 'theorbolaw01.InstrumentRanges', WHERE WHAT IT READS IS OF BULK AT MOST 1048576: true; the input reads as it did. -/
def instrumentRangesUptoRow : OpenClaim := { program := "ytbdhjpdjbogggaadoor", sum := "0b89aab314e353cfa3a71f0a5d1b39fbc85e1a2506ae8700a7bb6c300ec3fdd1", func := "theorbo/theorbolaw01.InstrumentRanges", spec := "instrumentRanges", inPlace := ["internal/bytealg.CountString", "internal/bytealg.IndexByteString", "internal/bytealg.IndexString"], unfollowed := true, recurses := true, named := ["unicode/utf8.first", "unicode/utf8.acceptRanges", "internal/bytealg.MaxLen", "theorbo/instrument.bases", "theorbo/instrument.fifths"], apart := false, laid := [("unicode/utf8.acceptRanges", laid_unicode_utf8_acceptRanges), ("theorbo/instrument.bases", laid_theorbo_instrument_bases), ("theorbo/instrument.fifths", laid_theorbo_instrument_fifths), ("unicode/utf8.first", laid_unicode_utf8_first)], narrowed := true }
def InstrumentRangesUptoSaid : Prop := instrumentRangesUptoRow.holds Tryd.pinned (OpenSpec.upto instrumentRangesSpec)

/-- 'theorbolaw01.InstrumentSounds', WHERE WHAT IT READS IS OF BULK AT MOST 1048576: true; the input reads as it did. -/
def instrumentSoundsUptoRow : OpenClaim := { program := "ytbdhjpdjbogggaadoor", sum := "0b89aab314e353cfa3a71f0a5d1b39fbc85e1a2506ae8700a7bb6c300ec3fdd1", func := "theorbo/theorbolaw01.InstrumentSounds", spec := "instrumentSounds", inPlace := ["internal/bytealg.CountString", "internal/bytealg.IndexByteString", "internal/bytealg.IndexString"], recurses := true, named := ["theorbo/instrument.bases", "internal/strconv.uint64pow10", "math/bits.deBruijn32tab", "math/bits.deBruijn64tab", "unicode/utf8.first", "unicode/utf8.acceptRanges", "internal/bytealg.MaxLen", "theorbo/instrument.fifths"], apart := false, laid := [("math/bits.deBruijn32tab", laid_math_bits_deBruijn32tab), ("math/bits.deBruijn64tab", laid_math_bits_deBruijn64tab), ("internal/strconv.uint64pow10", laid_internal_strconv_uint64pow10), ("unicode/utf8.acceptRanges", laid_unicode_utf8_acceptRanges), ("theorbo/instrument.bases", laid_theorbo_instrument_bases), ("theorbo/instrument.fifths", laid_theorbo_instrument_fifths), ("unicode/utf8.first", laid_unicode_utf8_first)], narrowed := true }
def InstrumentSoundsUptoSaid : Prop := instrumentSoundsUptoRow.holds Tryd.pinned (OpenSpec.upto instrumentSoundsSpec)

/-- 'theorbolaw01.InstrumentSpelledBack', WHERE WHAT IT READS IS OF BULK AT MOST 1048576: true; the input reads as it did. -/
def instrumentSpelledBackUptoRow : OpenClaim := { program := "ytbdhjpdjbogggaadoor", sum := "0b89aab314e353cfa3a71f0a5d1b39fbc85e1a2506ae8700a7bb6c300ec3fdd1", func := "theorbo/theorbolaw01.InstrumentSpelledBack", spec := "instrumentSpelledBack", inPlace := ["internal/bytealg.CountString", "internal/bytealg.IndexByteString", "internal/bytealg.IndexString"], named := ["theorbo/instrument.fifths", "theorbo/instrument.bases", "unicode/utf8.first", "unicode/utf8.acceptRanges", "internal/bytealg.MaxLen", "internal/strconv.uint64pow10", "math/bits.deBruijn32tab", "math/bits.deBruijn64tab"], apart := false, laid := [("math/bits.deBruijn32tab", laid_math_bits_deBruijn32tab), ("math/bits.deBruijn64tab", laid_math_bits_deBruijn64tab), ("internal/strconv.uint64pow10", laid_internal_strconv_uint64pow10), ("unicode/utf8.acceptRanges", laid_unicode_utf8_acceptRanges), ("theorbo/instrument.bases", laid_theorbo_instrument_bases), ("theorbo/instrument.fifths", laid_theorbo_instrument_fifths), ("unicode/utf8.first", laid_unicode_utf8_first)], narrowed := true }
def InstrumentSpelledBackUptoSaid : Prop := instrumentSpelledBackUptoRow.holds Tryd.pinned (OpenSpec.upto instrumentSpelledBackSpec)

/-- 'theorbolaw01.InstrumentFormats', WHERE WHAT IT READS IS OF BULK AT MOST 1048576: true; the input reads as it did. -/
def instrumentFormatsUptoRow : OpenClaim := { program := "ytbdhjpdjbogggaadoor", sum := "0b89aab314e353cfa3a71f0a5d1b39fbc85e1a2506ae8700a7bb6c300ec3fdd1", func := "theorbo/theorbolaw01.InstrumentFormats", spec := "instrumentFormats", inPlace := ["internal/bytealg.CountString", "internal/bytealg.IndexByteString", "internal/bytealg.IndexString", "internal/abi.NoEscape"], recurses := true, named := ["unicode/utf8.first", "unicode/utf8.acceptRanges", "internal/bytealg.MaxLen", "theorbo/instrument.bases", "theorbo/instrument.fifths", "internal/strconv.uint64pow10", "math/bits.deBruijn32tab", "math/bits.deBruijn64tab"], apart := false, laid := [("math/bits.deBruijn32tab", laid_math_bits_deBruijn32tab), ("math/bits.deBruijn64tab", laid_math_bits_deBruijn64tab), ("internal/strconv.uint64pow10", laid_internal_strconv_uint64pow10), ("unicode/utf8.acceptRanges", laid_unicode_utf8_acceptRanges), ("theorbo/instrument.bases", laid_theorbo_instrument_bases), ("theorbo/instrument.fifths", laid_theorbo_instrument_fifths), ("unicode/utf8.first", laid_unicode_utf8_first)], narrowed := true }
def InstrumentFormatsUptoSaid : Prop := instrumentFormatsUptoRow.holds Tryd.pinned (OpenSpec.upto instrumentFormatsSpec)

end Rows
end Go.Proofs.YtbdhjpdjbogggaaDoor
