/-
  DERIVED. GIVEN WITH THE SEED: THE CARDS: each row of YtbdhjpdjbogggaaDoorRows.lean that lists a variable, with what it lists TIED to the program's text (the seventh form; the later family's looks); each row that meets fmt, with fmt's text TOLD by the authors' own Lean function (tested against real Go, not proved from fmt's source: count such statements apart). THE CARD IS WHAT COUNTS. Prove the row's statement (the work); the ties are given (YtbdhjpdjbogggaaDoorTie.lean); close each card by the builder's one call (the guide's Derived/Test/ToyasCard.lean, 'card_holds'). Laid BY PROGRAM, IN A SANDBOX (cutbox-door.mjs). By AI agents, Wed Nov 11 2026. No macro, syntax, notation, axiom, sorry.
-/
import Derived.Test.YtbdhjpdjbogggaaDoorRows
import GoSem.ClaimSeven
namespace Go.Proofs.YtbdhjpdjbogggaaDoor
namespace Rows

/-- THE TIED CARD OF 'theorbolaw01.InstrumentSpells'. -/
def instrumentSpellsCard : Claim7 := { stood := { row := instrumentSpellsRow, standIns := [], harness := (true, "5fb9fc4fb69580939afd82d3253615a53892018edf3276114455277bc3beb096"), looks := false }, kinds := [], alts := [], laidByText := true, laidKinds := [.data, .data, .data, .pinned], laidTests := true, laidLooks := .later }
def InstrumentSpellsCardSaid : Prop := Claim7.holds Tryd.pinned (.plain (OpenSpec.ofChange instrumentSpellsSpec)) instrumentSpellsCard

/-- THE TIED CARD OF 'theorbolaw01.InstrumentNames'. -/
def instrumentNamesCard : Claim7 := { stood := { row := instrumentNamesRow, standIns := [], harness := (true, "5fb9fc4fb69580939afd82d3253615a53892018edf3276114455277bc3beb096"), looks := false }, kinds := [], alts := [], laidByText := true, laidKinds := [.data, .data, .data, .pinned], laidTests := true, laidLooks := .later }
def InstrumentNamesCardSaid : Prop := Claim7.holds Tryd.pinned (.plain (OpenSpec.ofChange instrumentNamesSpec)) instrumentNamesCard

/-- THE TIED CARD OF 'theorbolaw01.InstrumentChecks'. -/
def instrumentChecksCard : Claim7 := { stood := { row := instrumentChecksRow, standIns := [], harness := (true, "5fb9fc4fb69580939afd82d3253615a53892018edf3276114455277bc3beb096"), looks := false }, kinds := [], alts := [], laidByText := true, laidKinds := [.data, .data, .data, .pinned], laidTests := true, laidLooks := .later }
def InstrumentChecksCardSaid : Prop := Claim7.holds Tryd.pinned (.plain (OpenSpec.ofChange instrumentChecksSpec)) instrumentChecksCard

/-- THE TIED CARD OF 'theorbolaw01.InstrumentParses'. -/
def instrumentParsesCard : Claim7 := { stood := { row := instrumentParsesRow, standIns := [], harness := (true, "5fb9fc4fb69580939afd82d3253615a53892018edf3276114455277bc3beb096"), looks := false }, kinds := [], alts := [], laidByText := true, laidKinds := [.data, .data, .data, .pinned], laidTests := true, laidLooks := .later }
def InstrumentParsesCardSaid : Prop := Claim7.holds Tryd.pinned (.plain (OpenSpec.ofChange instrumentParsesSpec)) instrumentParsesCard

/-- THE TIED CARD OF 'theorbolaw01.InstrumentStandards'. -/
def instrumentStandardsCard : Claim7 := { stood := { row := instrumentStandardsRow, standIns := [], harness := (true, "5fb9fc4fb69580939afd82d3253615a53892018edf3276114455277bc3beb096"), looks := false }, kinds := [], alts := [], laidByText := true, laidKinds := [.data, .data, .data, .pinned], laidTests := true, laidLooks := .later }
def InstrumentStandardsCardSaid : Prop := Claim7.holds Tryd.pinned (.plain (OpenSpec.ofChange instrumentStandardsSpec)) instrumentStandardsCard

/-- THE TIED CARD OF 'theorbolaw01.InstrumentSame'. -/
def instrumentSameCard : Claim7 := { stood := { row := instrumentSameRow, standIns := [], harness := (true, "5fb9fc4fb69580939afd82d3253615a53892018edf3276114455277bc3beb096"), looks := false }, kinds := [], alts := [], laidByText := true, laidKinds := [.data, .data, .data, .pinned], laidTests := true, laidLooks := .later }
def InstrumentSameCardSaid : Prop := Claim7.holds Tryd.pinned (.plain (OpenSpec.ofChange instrumentSameSpec)) instrumentSameCard

/-- THE TIED CARD OF 'theorbolaw01.InstrumentPlaces'. -/
def instrumentPlacesCard : Claim7 := { stood := { row := instrumentPlacesRow, standIns := [], harness := (true, "5fb9fc4fb69580939afd82d3253615a53892018edf3276114455277bc3beb096"), looks := false }, kinds := [], alts := [], laidByText := true, laidKinds := [.data, .data, .data, .pinned], laidTests := true, laidLooks := .later }
def InstrumentPlacesCardSaid : Prop := Claim7.holds Tryd.pinned (.plain (OpenSpec.ofChange instrumentPlacesSpec)) instrumentPlacesCard

/-- THE TIED CARD OF 'theorbolaw01.InstrumentFinds'. -/
def instrumentFindsCard : Claim7 := { stood := { row := instrumentFindsRow, standIns := [], harness := (true, "5fb9fc4fb69580939afd82d3253615a53892018edf3276114455277bc3beb096"), looks := false }, kinds := [], alts := [], laidByText := true, laidKinds := [.data, .data, .data, .pinned], laidTests := true, laidLooks := .later }
def InstrumentFindsCardSaid : Prop := Claim7.holds Tryd.pinned (.plain (OpenSpec.ofChange instrumentFindsSpec)) instrumentFindsCard

/-- THE TIED CARD OF 'theorbolaw01.InstrumentCapos'. -/
def instrumentCaposCard : Claim7 := { stood := { row := instrumentCaposRow, standIns := [], harness := (true, "5fb9fc4fb69580939afd82d3253615a53892018edf3276114455277bc3beb096"), looks := false }, kinds := [], alts := [], laidByText := true, laidKinds := [.data, .data, .data, .pinned], laidTests := true, laidLooks := .later }
def InstrumentCaposCardSaid : Prop := Claim7.holds Tryd.pinned (.plain (OpenSpec.ofChange instrumentCaposSpec)) instrumentCaposCard

/-- THE TIED CARD OF 'theorbolaw01.InstrumentCapoSounds'. -/
def instrumentCapoSoundsCard : Claim7 := { stood := { row := instrumentCapoSoundsRow, standIns := [], harness := (true, "5fb9fc4fb69580939afd82d3253615a53892018edf3276114455277bc3beb096"), looks := false }, kinds := [], alts := [], laidByText := true, laidKinds := [.data, .data, .data, .pinned], laidTests := true, laidLooks := .later }
def InstrumentCapoSoundsCardSaid : Prop := Claim7.holds Tryd.pinned (.plain (OpenSpec.ofChange instrumentCapoSoundsSpec)) instrumentCapoSoundsCard

/-- THE TIED CARD OF 'theorbolaw01.InstrumentTunes'. -/
def instrumentTunesCard : Claim7 := { stood := { row := instrumentTunesRow, standIns := [], harness := (true, "5fb9fc4fb69580939afd82d3253615a53892018edf3276114455277bc3beb096"), looks := false }, kinds := [], alts := [], laidByText := true, laidKinds := [.data, .data, .data, .pinned], laidTests := true, laidLooks := .later }
def InstrumentTunesCardSaid : Prop := Claim7.holds Tryd.pinned (.plain (OpenSpec.ofChange instrumentTunesSpec)) instrumentTunesCard

/-- THE TIED CARD OF 'theorbolaw01.InstrumentCapoTwice'. -/
def instrumentCapoTwiceCard : Claim7 := { stood := { row := instrumentCapoTwiceRow, standIns := [], harness := (true, "5fb9fc4fb69580939afd82d3253615a53892018edf3276114455277bc3beb096"), looks := false }, kinds := [], alts := [], laidByText := true, laidKinds := [.data, .data, .data, .pinned], laidTests := true, laidLooks := .later }
def InstrumentCapoTwiceCardSaid : Prop := Claim7.holds Tryd.pinned (.plain (OpenSpec.ofChange instrumentCapoTwiceSpec)) instrumentCapoTwiceCard

/-- THE TIED CARD OF 'theorbolaw01.InstrumentTunesBack'. -/
def instrumentTunesBackCard : Claim7 := { stood := { row := instrumentTunesBackRow, standIns := [], harness := (true, "5fb9fc4fb69580939afd82d3253615a53892018edf3276114455277bc3beb096"), looks := false }, kinds := [], alts := [], laidByText := true, laidKinds := [.data, .data, .data, .pinned], laidTests := true, laidLooks := .later }
def InstrumentTunesBackCardSaid : Prop := Claim7.holds Tryd.pinned (.plain (OpenSpec.ofChange instrumentTunesBackSpec)) instrumentTunesBackCard

/-- THE TIED CARD OF 'theorbolaw01.InstrumentRanges'. -/
def instrumentRangesCard : Claim7 := { stood := { row := instrumentRangesRow, standIns := [], harness := (true, "5fb9fc4fb69580939afd82d3253615a53892018edf3276114455277bc3beb096"), looks := false }, kinds := [], alts := [], laidByText := true, laidKinds := [.data, .data, .data, .pinned], laidTests := true, laidLooks := .later }
def InstrumentRangesCardSaid : Prop := Claim7.holds Tryd.pinned (.plain (OpenSpec.ofChange instrumentRangesSpec)) instrumentRangesCard

/-- THE TIED CARD OF 'theorbolaw01.InstrumentSounds'. -/
def instrumentSoundsCard : Claim7 := { stood := { row := instrumentSoundsRow, standIns := [], harness := (true, "5fb9fc4fb69580939afd82d3253615a53892018edf3276114455277bc3beb096"), looks := false }, kinds := [], alts := [], laidByText := true, laidKinds := [.data, .data, .data, .data, .data, .data, .pinned], laidTests := true, laidLooks := .later }
def InstrumentSoundsCardSaid : Prop := Claim7.holds Tryd.pinned (.plain (OpenSpec.ofChange instrumentSoundsSpec)) instrumentSoundsCard

/-- THE TIED CARD OF 'theorbolaw01.InstrumentSpelledBack'. -/
def instrumentSpelledBackCard : Claim7 := { stood := { row := instrumentSpelledBackRow, standIns := [], harness := (true, "5fb9fc4fb69580939afd82d3253615a53892018edf3276114455277bc3beb096"), looks := false }, kinds := [], alts := [], laidByText := true, laidKinds := [.data, .data, .data, .data, .data, .data, .pinned], laidTests := true, laidLooks := .later }
def InstrumentSpelledBackCardSaid : Prop := Claim7.holds Tryd.pinned (.plain (OpenSpec.ofChange instrumentSpelledBackSpec)) instrumentSpelledBackCard

/-- THE TIED CARD OF 'theorbolaw01.InstrumentFormats'. -/
def instrumentFormatsCard : Claim7 := { stood := { row := instrumentFormatsRow, standIns := [], harness := (true, "5fb9fc4fb69580939afd82d3253615a53892018edf3276114455277bc3beb096"), looks := false }, kinds := [], alts := [], laidByText := true, laidKinds := [.data, .data, .data, .data, .data, .data, .pinned], laidTests := true, laidLooks := .later }
def InstrumentFormatsCardSaid : Prop := Claim7.holds Tryd.pinned (.plain (OpenSpec.ofChange instrumentFormatsSpec)) instrumentFormatsCard

/-- THE SECOND FORM's CARD OF 'theorbolaw01.InstrumentSpells'. -/
def instrumentSpellsUptoCard : Claim7 := { stood := { row := instrumentSpellsUptoRow, standIns := [], harness := (true, "5fb9fc4fb69580939afd82d3253615a53892018edf3276114455277bc3beb096"), looks := false }, kinds := [], alts := [], laidByText := true, laidKinds := [.data, .data, .data, .pinned], laidTests := true, laidLooks := .later }
def InstrumentSpellsUptoCardSaid : Prop := Claim7.holds Tryd.pinned (.plain (OpenSpec.upto instrumentSpellsSpec)) instrumentSpellsUptoCard

/-- THE SECOND FORM's CARD OF 'theorbolaw01.InstrumentNames'. -/
def instrumentNamesUptoCard : Claim7 := { stood := { row := instrumentNamesUptoRow, standIns := [], harness := (true, "5fb9fc4fb69580939afd82d3253615a53892018edf3276114455277bc3beb096"), looks := false }, kinds := [], alts := [], laidByText := true, laidKinds := [.data, .data, .data, .pinned], laidTests := true, laidLooks := .later }
def InstrumentNamesUptoCardSaid : Prop := Claim7.holds Tryd.pinned (.plain (OpenSpec.upto instrumentNamesSpec)) instrumentNamesUptoCard

/-- THE SECOND FORM's CARD OF 'theorbolaw01.InstrumentChecks'. -/
def instrumentChecksUptoCard : Claim7 := { stood := { row := instrumentChecksUptoRow, standIns := [], harness := (true, "5fb9fc4fb69580939afd82d3253615a53892018edf3276114455277bc3beb096"), looks := false }, kinds := [], alts := [], laidByText := true, laidKinds := [.data, .data, .data, .pinned], laidTests := true, laidLooks := .later }
def InstrumentChecksUptoCardSaid : Prop := Claim7.holds Tryd.pinned (.plain (OpenSpec.upto instrumentChecksSpec)) instrumentChecksUptoCard

/-- THE SECOND FORM's CARD OF 'theorbolaw01.InstrumentParses'. -/
def instrumentParsesUptoCard : Claim7 := { stood := { row := instrumentParsesUptoRow, standIns := [], harness := (true, "5fb9fc4fb69580939afd82d3253615a53892018edf3276114455277bc3beb096"), looks := false }, kinds := [], alts := [], laidByText := true, laidKinds := [.data, .data, .data, .pinned], laidTests := true, laidLooks := .later }
def InstrumentParsesUptoCardSaid : Prop := Claim7.holds Tryd.pinned (.plain (OpenSpec.upto instrumentParsesSpec)) instrumentParsesUptoCard

/-- THE SECOND FORM's CARD OF 'theorbolaw01.InstrumentStandards'. -/
def instrumentStandardsUptoCard : Claim7 := { stood := { row := instrumentStandardsUptoRow, standIns := [], harness := (true, "5fb9fc4fb69580939afd82d3253615a53892018edf3276114455277bc3beb096"), looks := false }, kinds := [], alts := [], laidByText := true, laidKinds := [.data, .data, .data, .pinned], laidTests := true, laidLooks := .later }
def InstrumentStandardsUptoCardSaid : Prop := Claim7.holds Tryd.pinned (.plain (OpenSpec.upto instrumentStandardsSpec)) instrumentStandardsUptoCard

/-- THE SECOND FORM's CARD OF 'theorbolaw01.InstrumentSame'. -/
def instrumentSameUptoCard : Claim7 := { stood := { row := instrumentSameUptoRow, standIns := [], harness := (true, "5fb9fc4fb69580939afd82d3253615a53892018edf3276114455277bc3beb096"), looks := false }, kinds := [], alts := [], laidByText := true, laidKinds := [.data, .data, .data, .pinned], laidTests := true, laidLooks := .later }
def InstrumentSameUptoCardSaid : Prop := Claim7.holds Tryd.pinned (.plain (OpenSpec.upto instrumentSameSpec)) instrumentSameUptoCard

/-- THE SECOND FORM's CARD OF 'theorbolaw01.InstrumentPlaces'. -/
def instrumentPlacesUptoCard : Claim7 := { stood := { row := instrumentPlacesUptoRow, standIns := [], harness := (true, "5fb9fc4fb69580939afd82d3253615a53892018edf3276114455277bc3beb096"), looks := false }, kinds := [], alts := [], laidByText := true, laidKinds := [.data, .data, .data, .pinned], laidTests := true, laidLooks := .later }
def InstrumentPlacesUptoCardSaid : Prop := Claim7.holds Tryd.pinned (.plain (OpenSpec.upto instrumentPlacesSpec)) instrumentPlacesUptoCard

/-- THE SECOND FORM's CARD OF 'theorbolaw01.InstrumentFinds'. -/
def instrumentFindsUptoCard : Claim7 := { stood := { row := instrumentFindsUptoRow, standIns := [], harness := (true, "5fb9fc4fb69580939afd82d3253615a53892018edf3276114455277bc3beb096"), looks := false }, kinds := [], alts := [], laidByText := true, laidKinds := [.data, .data, .data, .pinned], laidTests := true, laidLooks := .later }
def InstrumentFindsUptoCardSaid : Prop := Claim7.holds Tryd.pinned (.plain (OpenSpec.upto instrumentFindsSpec)) instrumentFindsUptoCard

/-- THE SECOND FORM's CARD OF 'theorbolaw01.InstrumentCapos'. -/
def instrumentCaposUptoCard : Claim7 := { stood := { row := instrumentCaposUptoRow, standIns := [], harness := (true, "5fb9fc4fb69580939afd82d3253615a53892018edf3276114455277bc3beb096"), looks := false }, kinds := [], alts := [], laidByText := true, laidKinds := [.data, .data, .data, .pinned], laidTests := true, laidLooks := .later }
def InstrumentCaposUptoCardSaid : Prop := Claim7.holds Tryd.pinned (.plain (OpenSpec.upto instrumentCaposSpec)) instrumentCaposUptoCard

/-- THE SECOND FORM's CARD OF 'theorbolaw01.InstrumentCapoSounds'. -/
def instrumentCapoSoundsUptoCard : Claim7 := { stood := { row := instrumentCapoSoundsUptoRow, standIns := [], harness := (true, "5fb9fc4fb69580939afd82d3253615a53892018edf3276114455277bc3beb096"), looks := false }, kinds := [], alts := [], laidByText := true, laidKinds := [.data, .data, .data, .pinned], laidTests := true, laidLooks := .later }
def InstrumentCapoSoundsUptoCardSaid : Prop := Claim7.holds Tryd.pinned (.plain (OpenSpec.upto instrumentCapoSoundsSpec)) instrumentCapoSoundsUptoCard

/-- THE SECOND FORM's CARD OF 'theorbolaw01.InstrumentTunes'. -/
def instrumentTunesUptoCard : Claim7 := { stood := { row := instrumentTunesUptoRow, standIns := [], harness := (true, "5fb9fc4fb69580939afd82d3253615a53892018edf3276114455277bc3beb096"), looks := false }, kinds := [], alts := [], laidByText := true, laidKinds := [.data, .data, .data, .pinned], laidTests := true, laidLooks := .later }
def InstrumentTunesUptoCardSaid : Prop := Claim7.holds Tryd.pinned (.plain (OpenSpec.upto instrumentTunesSpec)) instrumentTunesUptoCard

/-- THE SECOND FORM's CARD OF 'theorbolaw01.InstrumentCapoTwice'. -/
def instrumentCapoTwiceUptoCard : Claim7 := { stood := { row := instrumentCapoTwiceUptoRow, standIns := [], harness := (true, "5fb9fc4fb69580939afd82d3253615a53892018edf3276114455277bc3beb096"), looks := false }, kinds := [], alts := [], laidByText := true, laidKinds := [.data, .data, .data, .pinned], laidTests := true, laidLooks := .later }
def InstrumentCapoTwiceUptoCardSaid : Prop := Claim7.holds Tryd.pinned (.plain (OpenSpec.upto instrumentCapoTwiceSpec)) instrumentCapoTwiceUptoCard

/-- THE SECOND FORM's CARD OF 'theorbolaw01.InstrumentTunesBack'. -/
def instrumentTunesBackUptoCard : Claim7 := { stood := { row := instrumentTunesBackUptoRow, standIns := [], harness := (true, "5fb9fc4fb69580939afd82d3253615a53892018edf3276114455277bc3beb096"), looks := false }, kinds := [], alts := [], laidByText := true, laidKinds := [.data, .data, .data, .pinned], laidTests := true, laidLooks := .later }
def InstrumentTunesBackUptoCardSaid : Prop := Claim7.holds Tryd.pinned (.plain (OpenSpec.upto instrumentTunesBackSpec)) instrumentTunesBackUptoCard

/-- THE SECOND FORM's CARD OF 'theorbolaw01.InstrumentRanges'. -/
def instrumentRangesUptoCard : Claim7 := { stood := { row := instrumentRangesUptoRow, standIns := [], harness := (true, "5fb9fc4fb69580939afd82d3253615a53892018edf3276114455277bc3beb096"), looks := false }, kinds := [], alts := [], laidByText := true, laidKinds := [.data, .data, .data, .pinned], laidTests := true, laidLooks := .later }
def InstrumentRangesUptoCardSaid : Prop := Claim7.holds Tryd.pinned (.plain (OpenSpec.upto instrumentRangesSpec)) instrumentRangesUptoCard

/-- THE SECOND FORM's CARD OF 'theorbolaw01.InstrumentSounds'. -/
def instrumentSoundsUptoCard : Claim7 := { stood := { row := instrumentSoundsUptoRow, standIns := [], harness := (true, "5fb9fc4fb69580939afd82d3253615a53892018edf3276114455277bc3beb096"), looks := false }, kinds := [], alts := [], laidByText := true, laidKinds := [.data, .data, .data, .data, .data, .data, .pinned], laidTests := true, laidLooks := .later }
def InstrumentSoundsUptoCardSaid : Prop := Claim7.holds Tryd.pinned (.plain (OpenSpec.upto instrumentSoundsSpec)) instrumentSoundsUptoCard

/-- THE SECOND FORM's CARD OF 'theorbolaw01.InstrumentSpelledBack'. -/
def instrumentSpelledBackUptoCard : Claim7 := { stood := { row := instrumentSpelledBackUptoRow, standIns := [], harness := (true, "5fb9fc4fb69580939afd82d3253615a53892018edf3276114455277bc3beb096"), looks := false }, kinds := [], alts := [], laidByText := true, laidKinds := [.data, .data, .data, .data, .data, .data, .pinned], laidTests := true, laidLooks := .later }
def InstrumentSpelledBackUptoCardSaid : Prop := Claim7.holds Tryd.pinned (.plain (OpenSpec.upto instrumentSpelledBackSpec)) instrumentSpelledBackUptoCard

/-- THE SECOND FORM's CARD OF 'theorbolaw01.InstrumentFormats'. -/
def instrumentFormatsUptoCard : Claim7 := { stood := { row := instrumentFormatsUptoRow, standIns := [], harness := (true, "5fb9fc4fb69580939afd82d3253615a53892018edf3276114455277bc3beb096"), looks := false }, kinds := [], alts := [], laidByText := true, laidKinds := [.data, .data, .data, .data, .data, .data, .pinned], laidTests := true, laidLooks := .later }
def InstrumentFormatsUptoCardSaid : Prop := Claim7.holds Tryd.pinned (.plain (OpenSpec.upto instrumentFormatsSpec)) instrumentFormatsUptoCard
end Rows
end Go.Proofs.YtbdhjpdjbogggaaDoor
