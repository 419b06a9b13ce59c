/-
  DERIVED. GIVEN WITH THE SEED: THE CARDS: each row of YtofdanhfalkjkaaGreatDoorRows.lean that lists a variable, with what it lists TIED to the program's text (the seventh form; the later family's looks); each row that meets fmt, with fmt's text TOLD by the authors' own Lean function (tested against real Go, not proved from fmt's source: count such statements apart). THE CARD IS WHAT COUNTS. Prove the row's statement (the work); the ties are given (YtofdanhfalkjkaaGreatDoorTie.lean); close each card by the builder's one call (the guide's Derived/Test/ToyasCard.lean, 'card_holds'). Laid BY PROGRAM, IN A SANDBOX (cutbox-door.mjs). By AI agents, Wed Nov 11 2026. No macro, syntax, notation, axiom, sorry.
-/
import Derived.Test.YtofdanhfalkjkaaGreatDoorRows
import GoSem.ClaimSeven
namespace Go.Proofs.YtofdanhfalkjkaaGreatDoor
namespace Rows

/-- THE TIED CARD OF 'laws.FnParseArm'. -/
def fnParseArmCard : Claim7 := { stood := { row := fnParseArmRow, standIns := [], harness := (true, "cca0c77d3caad800ff3a1cf6215bca3c92b2413d3d3b69562bdde5a9a368ad1d"), looks := true }, kinds := [], alts := [], laidByText := true, laidKinds := [.data, .pinned], laidTests := true, laidLooks := .later }
def FnParseArmCardSaid : Prop := Claim7.holds Tryz.pinned (.plain (OpenSpec.ofChange fnParseArmSpec)) fnParseArmCard

/-- THE TIED CARD OF 'laws.FnExactParseFlag'. -/
def fnExactParseFlagCard : Claim7 := { stood := { row := fnExactParseFlagRow, standIns := [], harness := (true, "cca0c77d3caad800ff3a1cf6215bca3c92b2413d3d3b69562bdde5a9a368ad1d"), looks := true }, kinds := [], alts := [], laidByText := true, laidKinds := [.data, .data, .data, .data, .sentinel, .sentinel, .widerDeep, .pinned], laidTests := true, laidLooks := .later }
def FnExactParseFlagCardSaid : Prop := Claim7.holds Tryz.pinned (.plain (OpenSpec.ofChange fnExactParseFlagSpec)) fnExactParseFlagCard

/-- THE TIED CARD OF 'laws.FnParseFlag'. -/
def fnParseFlagCard : Claim7 := { stood := { row := fnParseFlagRow, standIns := [], harness := (true, "cca0c77d3caad800ff3a1cf6215bca3c92b2413d3d3b69562bdde5a9a368ad1d"), looks := true }, kinds := [], alts := [], laidByText := true, laidKinds := [.data, .data, .data, .data, .sentinel, .sentinel, .widerDeep, .pinned], laidTests := true, laidLooks := .later }
def FnParseFlagCardSaid : Prop := Claim7.holds Tryz.pinned (.plain (OpenSpec.ofChange fnParseFlagSpec)) fnParseFlagCard

/-- THE TIED CARD OF 'laws.FnFlagText'. -/
def fnFlagTextCard : Claim7 := { stood := { row := fnFlagTextRow, standIns := [], harness := (true, "cca0c77d3caad800ff3a1cf6215bca3c92b2413d3d3b69562bdde5a9a368ad1d"), looks := true }, kinds := [], alts := [], laidByText := true, laidKinds := [.data, .data, .data, .data, .sentinel, .sentinel, .widerDeep, .pinned], laidTests := true, laidLooks := .later }
def FnFlagTextCardSaid : Prop := Claim7.holds Tryz.pinned (.plain (OpenSpec.ofChange fnFlagTextSpec)) fnFlagTextCard

/-- THE SECOND FORM's CARD OF 'laws.FnParseArm'. -/
def fnParseArmUptoCard : Claim7 := { stood := { row := fnParseArmUptoRow, standIns := [], harness := (true, "cca0c77d3caad800ff3a1cf6215bca3c92b2413d3d3b69562bdde5a9a368ad1d"), looks := true }, kinds := [], alts := [], laidByText := true, laidKinds := [.data, .pinned], laidTests := true, laidLooks := .later }
def FnParseArmUptoCardSaid : Prop := Claim7.holds Tryz.pinned (.plain (OpenSpec.upto fnParseArmSpec)) fnParseArmUptoCard

/-- THE SECOND FORM's CARD OF 'laws.FnExactParseFlag'. -/
def fnExactParseFlagUptoCard : Claim7 := { stood := { row := fnExactParseFlagUptoRow, standIns := [], harness := (true, "cca0c77d3caad800ff3a1cf6215bca3c92b2413d3d3b69562bdde5a9a368ad1d"), looks := true }, kinds := [], alts := [], laidByText := true, laidKinds := [.data, .data, .data, .data, .sentinel, .sentinel, .widerDeep, .pinned], laidTests := true, laidLooks := .later }
def FnExactParseFlagUptoCardSaid : Prop := Claim7.holds Tryz.pinned (.plain (OpenSpec.upto fnExactParseFlagSpec)) fnExactParseFlagUptoCard

/-- THE SECOND FORM's CARD OF 'laws.FnParseFlag'. -/
def fnParseFlagUptoCard : Claim7 := { stood := { row := fnParseFlagUptoRow, standIns := [], harness := (true, "cca0c77d3caad800ff3a1cf6215bca3c92b2413d3d3b69562bdde5a9a368ad1d"), looks := true }, kinds := [], alts := [], laidByText := true, laidKinds := [.data, .data, .data, .data, .sentinel, .sentinel, .widerDeep, .pinned], laidTests := true, laidLooks := .later }
def FnParseFlagUptoCardSaid : Prop := Claim7.holds Tryz.pinned (.plain (OpenSpec.upto fnParseFlagSpec)) fnParseFlagUptoCard

/-- THE SECOND FORM's CARD OF 'laws.FnFlagText'. -/
def fnFlagTextUptoCard : Claim7 := { stood := { row := fnFlagTextUptoRow, standIns := [], harness := (true, "cca0c77d3caad800ff3a1cf6215bca3c92b2413d3d3b69562bdde5a9a368ad1d"), looks := true }, kinds := [], alts := [], laidByText := true, laidKinds := [.data, .data, .data, .data, .sentinel, .sentinel, .widerDeep, .pinned], laidTests := true, laidLooks := .later }
def FnFlagTextUptoCardSaid : Prop := Claim7.holds Tryz.pinned (.plain (OpenSpec.upto fnFlagTextSpec)) fnFlagTextUptoCard
end Rows
end Go.Proofs.YtofdanhfalkjkaaGreatDoor
