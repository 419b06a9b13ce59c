/-
  DERIVED. GIVEN WITH THE SEED: THE CARDS: each row of YtgimlcokmlldbaaGreatDoorRows.lean that lists a variable, with what it lists TIED to the program's text (the seventh form; the later family's looks); each row that meets fmt, with fmt's text TOLD by the authors' own Lean function (tested against real Go, not proved from fmt's source: count such statements apart). THE CARD IS WHAT COUNTS. Prove the row's statement (the work); the ties are given (YtgimlcokmlldbaaGreatDoorTie.lean); close each card by the builder's one call (the guide's Derived/Test/ToyasCard.lean, 'card_holds'). Laid BY PROGRAM, IN A SANDBOX (cutbox-door.mjs). By AI agents, Wed Nov 11 2026. No macro, syntax, notation, axiom, sorry.
-/
import Derived.Test.YtgimlcokmlldbaaGreatDoorRows
import GoSem.ClaimSeven
namespace Go.Proofs.YtgimlcokmlldbaaGreatDoor
namespace Rows

/-- THE TIED CARD OF 'laws.FnShowValue'. -/
def fnShowValueCard : Claim7 := { stood := { row := fnShowValueRow, standIns := [], harness := (true, "c2d1d62a93205e2443941f425e281ae4b556376adb220931ac904f707e4f792c"), looks := true }, kinds := [], alts := [], laidByText := true, laidKinds := [.data, .data, .data, .data, .sentinel, .sentinel, .pinned], laidTests := true, laidLooks := .later }
def FnShowValueCardSaid : Prop := Claim7.holds Tryz.pinned (.plain (OpenSpec.ofChange fnShowValueSpec)) fnShowValueCard

/-- THE TIED CARD OF 'laws.FnReadValue'. -/
def fnReadValueCard : Claim7 := { stood := { row := fnReadValueRow, standIns := [], harness := (true, "c2d1d62a93205e2443941f425e281ae4b556376adb220931ac904f707e4f792c"), looks := true }, kinds := [], alts := [], laidByText := true, laidKinds := [.data, .data, .data, .data, .sentinel, .sentinel, .pinned], laidTests := true, laidLooks := .later }
def FnReadValueCardSaid : Prop := Claim7.holds Tryz.pinned (.plain (OpenSpec.ofChange fnReadValueSpec)) fnReadValueCard

/-- THE TIED CARD OF 'laws.FnArmText'. -/
def fnArmTextCard : Claim7 := { stood := { row := fnArmTextRow, standIns := [], harness := (true, "c2d1d62a93205e2443941f425e281ae4b556376adb220931ac904f707e4f792c"), looks := true }, kinds := [], alts := [], laidByText := true, laidKinds := [.data, .pinned], laidTests := true, laidLooks := .later }
def FnArmTextCardSaid : Prop := Claim7.holds Tryz.pinned (.plain (OpenSpec.ofChange fnArmTextSpec)) fnArmTextCard

/-- THE TIED CARD OF 'laws.FnParseArm'. -/
def fnParseArmCard : Claim7 := { stood := { row := fnParseArmRow, standIns := [], harness := (true, "c2d1d62a93205e2443941f425e281ae4b556376adb220931ac904f707e4f792c"), looks := true }, kinds := [], alts := [], laidByText := true, laidKinds := [.data, .pinned], laidTests := true, laidLooks := .later }
def FnParseArmCardSaid : Prop := Claim7.holds Tryz.pinned (.plain (OpenSpec.ofChange fnParseArmSpec)) fnParseArmCard

/-- THE TIED CARD OF 'laws.FnFlagText'. -/
def fnFlagTextCard : Claim7 := { stood := { row := fnFlagTextRow, standIns := [], harness := (true, "c2d1d62a93205e2443941f425e281ae4b556376adb220931ac904f707e4f792c"), looks := true }, kinds := [], alts := [], laidByText := true, laidKinds := [.data, .data, .data, .data, .sentinel, .sentinel, .widerDeep, .pinned], laidTests := true, laidLooks := .later }
def FnFlagTextCardSaid : Prop := Claim7.holds Tryz.pinned (.plain (OpenSpec.ofChange fnFlagTextSpec)) fnFlagTextCard

/-- THE TIED CARD OF 'laws.FnParseFlag'. -/
def fnParseFlagCard : Claim7 := { stood := { row := fnParseFlagRow, standIns := [], harness := (true, "c2d1d62a93205e2443941f425e281ae4b556376adb220931ac904f707e4f792c"), looks := true }, kinds := [], alts := [], laidByText := true, laidKinds := [.data, .data, .data, .data, .sentinel, .sentinel, .widerDeep, .pinned], laidTests := true, laidLooks := .later }
def FnParseFlagCardSaid : Prop := Claim7.holds Tryz.pinned (.plain (OpenSpec.ofChange fnParseFlagSpec)) fnParseFlagCard

/-- THE TIED CARD OF 'laws.FnExactParseFlag'. -/
def fnExactParseFlagCard : Claim7 := { stood := { row := fnExactParseFlagRow, standIns := [], harness := (true, "c2d1d62a93205e2443941f425e281ae4b556376adb220931ac904f707e4f792c"), looks := true }, kinds := [], alts := [], laidByText := true, laidKinds := [.data, .data, .data, .data, .sentinel, .sentinel, .widerDeep, .pinned], laidTests := true, laidLooks := .later }
def FnExactParseFlagCardSaid : Prop := Claim7.holds Tryz.pinned (.plain (OpenSpec.ofChange fnExactParseFlagSpec)) fnExactParseFlagCard

/-- THE SECOND FORM's CARD OF 'laws.FnShowValue'. -/
def fnShowValueUptoCard : Claim7 := { stood := { row := fnShowValueUptoRow, standIns := [], harness := (true, "c2d1d62a93205e2443941f425e281ae4b556376adb220931ac904f707e4f792c"), looks := true }, kinds := [], alts := [], laidByText := true, laidKinds := [.data, .data, .data, .data, .sentinel, .sentinel, .pinned], laidTests := true, laidLooks := .later }
def FnShowValueUptoCardSaid : Prop := Claim7.holds Tryz.pinned (.plain (OpenSpec.upto fnShowValueSpec)) fnShowValueUptoCard

/-- THE SECOND FORM's CARD OF 'laws.FnReadValue'. -/
def fnReadValueUptoCard : Claim7 := { stood := { row := fnReadValueUptoRow, standIns := [], harness := (true, "c2d1d62a93205e2443941f425e281ae4b556376adb220931ac904f707e4f792c"), looks := true }, kinds := [], alts := [], laidByText := true, laidKinds := [.data, .data, .data, .data, .sentinel, .sentinel, .pinned], laidTests := true, laidLooks := .later }
def FnReadValueUptoCardSaid : Prop := Claim7.holds Tryz.pinned (.plain (OpenSpec.upto fnReadValueSpec)) fnReadValueUptoCard

/-- THE SECOND FORM's CARD OF 'laws.FnArmText'. -/
def fnArmTextUptoCard : Claim7 := { stood := { row := fnArmTextUptoRow, standIns := [], harness := (true, "c2d1d62a93205e2443941f425e281ae4b556376adb220931ac904f707e4f792c"), looks := true }, kinds := [], alts := [], laidByText := true, laidKinds := [.data, .pinned], laidTests := true, laidLooks := .later }
def FnArmTextUptoCardSaid : Prop := Claim7.holds Tryz.pinned (.plain (OpenSpec.upto fnArmTextSpec)) fnArmTextUptoCard

/-- THE SECOND FORM's CARD OF 'laws.FnParseArm'. -/
def fnParseArmUptoCard : Claim7 := { stood := { row := fnParseArmUptoRow, standIns := [], harness := (true, "c2d1d62a93205e2443941f425e281ae4b556376adb220931ac904f707e4f792c"), looks := true }, kinds := [], alts := [], laidByText := true, laidKinds := [.data, .pinned], laidTests := true, laidLooks := .later }
def FnParseArmUptoCardSaid : Prop := Claim7.holds Tryz.pinned (.plain (OpenSpec.upto fnParseArmSpec)) fnParseArmUptoCard

/-- THE SECOND FORM's CARD OF 'laws.FnFlagText'. -/
def fnFlagTextUptoCard : Claim7 := { stood := { row := fnFlagTextUptoRow, standIns := [], harness := (true, "c2d1d62a93205e2443941f425e281ae4b556376adb220931ac904f707e4f792c"), looks := true }, kinds := [], alts := [], laidByText := true, laidKinds := [.data, .data, .data, .data, .sentinel, .sentinel, .widerDeep, .pinned], laidTests := true, laidLooks := .later }
def FnFlagTextUptoCardSaid : Prop := Claim7.holds Tryz.pinned (.plain (OpenSpec.upto fnFlagTextSpec)) fnFlagTextUptoCard

/-- THE SECOND FORM's CARD OF 'laws.FnParseFlag'. -/
def fnParseFlagUptoCard : Claim7 := { stood := { row := fnParseFlagUptoRow, standIns := [], harness := (true, "c2d1d62a93205e2443941f425e281ae4b556376adb220931ac904f707e4f792c"), looks := true }, kinds := [], alts := [], laidByText := true, laidKinds := [.data, .data, .data, .data, .sentinel, .sentinel, .widerDeep, .pinned], laidTests := true, laidLooks := .later }
def FnParseFlagUptoCardSaid : Prop := Claim7.holds Tryz.pinned (.plain (OpenSpec.upto fnParseFlagSpec)) fnParseFlagUptoCard

/-- THE SECOND FORM's CARD OF 'laws.FnExactParseFlag'. -/
def fnExactParseFlagUptoCard : Claim7 := { stood := { row := fnExactParseFlagUptoRow, standIns := [], harness := (true, "c2d1d62a93205e2443941f425e281ae4b556376adb220931ac904f707e4f792c"), looks := true }, kinds := [], alts := [], laidByText := true, laidKinds := [.data, .data, .data, .data, .sentinel, .sentinel, .widerDeep, .pinned], laidTests := true, laidLooks := .later }
def FnExactParseFlagUptoCardSaid : Prop := Claim7.holds Tryz.pinned (.plain (OpenSpec.upto fnExactParseFlagSpec)) fnExactParseFlagUptoCard
end Rows
end Go.Proofs.YtgimlcokmlldbaaGreatDoor
