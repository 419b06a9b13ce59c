/-
  DERIVED. GIVEN WITH THE SEED: THE CARDS: each row of YtmdhdicigfpjdaaDoorRows.lean that lists a variable, with what it lists TIED to the program's text (the seventh form; the later family's looks); each row that meets fmt, with fmt's text TOLD by the authors' own Lean function (tested against real Go, not proved from fmt's source: count such statements apart). THE CARD IS WHAT COUNTS. Prove the row's statement (the work); the ties are given (YtmdhdicigfpjdaaDoorTie.lean); close each card by the builder's one call (the guide's Derived/Test/ToyasCard.lean, 'card_holds'). Laid BY PROGRAM, IN A SANDBOX (cutbox-door.mjs). By AI agents, Wed Nov 11 2026. No macro, syntax, notation, axiom, sorry.
-/
import Derived.Test.YtmdhdicigfpjdaaDoorRows
import GoSem.ClaimSeven
namespace Go.Proofs.YtmdhdicigfpjdaaDoor
namespace Rows

/-- THE TIED CARD OF 'laws.FnShowEnum'. -/
def fnShowEnumCard : Claim7 := { stood := { row := fnShowEnumRow, standIns := [], harness := (true, "61822c63e9171e9de5a811ba0af96fbb363ccef3e29c656181b594fc162d8116"), looks := true }, kinds := [], alts := [], laidByText := true, laidKinds := [.data, .data, .data], laidTests := true, laidLooks := .later }
def FnShowEnumCardSaid : Prop := Claim7.holds Tryd.pinned (.plain (OpenSpec.ofChange fnShowEnumSpec)) fnShowEnumCard

/-- THE TIED CARD OF 'laws.FnExactShowEnum'. -/
def fnExactShowEnumCard : Claim7 := { stood := { row := fnExactShowEnumRow, standIns := [], harness := (true, "61822c63e9171e9de5a811ba0af96fbb363ccef3e29c656181b594fc162d8116"), looks := true }, kinds := [], alts := [], laidByText := true, laidKinds := [.data, .data, .data], laidTests := true, laidLooks := .later }
def FnExactShowEnumCardSaid : Prop := Claim7.holds Tryd.pinned (.plain (OpenSpec.ofChange fnExactShowEnumSpec)) fnExactShowEnumCard

/-- THE TIED CARD OF 'laws.FnExactEnumText'. -/
def fnExactEnumTextCard : Claim7 := { stood := { row := fnExactEnumTextRow, standIns := [], harness := (true, "61822c63e9171e9de5a811ba0af96fbb363ccef3e29c656181b594fc162d8116"), looks := true }, kinds := [], alts := [], laidByText := true, laidKinds := [.data, .data, .data], laidTests := true, laidLooks := .later }
def FnExactEnumTextCardSaid : Prop := Claim7.holds Tryd.pinned (.plain (OpenSpec.ofChange fnExactEnumTextSpec)) fnExactEnumTextCard

/-- THE TIED CARD OF 'laws.FnEnumText'. -/
def fnEnumTextCard : Claim7 := { stood := { row := fnEnumTextRow, standIns := [], harness := (true, "61822c63e9171e9de5a811ba0af96fbb363ccef3e29c656181b594fc162d8116"), looks := true }, kinds := [], alts := [], laidByText := true, laidKinds := [.data, .data, .data, .data, .sentinel, .sentinel, .pinned], laidTests := true, laidLooks := .later }
def FnEnumTextCardSaid : Prop := Claim7.holds Tryd.pinned (.plain (OpenSpec.ofChange fnEnumTextSpec)) fnEnumTextCard

/-- THE TIED CARD OF 'laws.FnExactParseEnum'. -/
def fnExactParseEnumCard : Claim7 := { stood := { row := fnExactParseEnumRow, standIns := [], harness := (true, "61822c63e9171e9de5a811ba0af96fbb363ccef3e29c656181b594fc162d8116"), looks := true }, kinds := [], alts := [], laidByText := true, laidKinds := [.data, .data, .data, .data, .sentinel, .sentinel, .pinned], laidTests := true, laidLooks := .later }
def FnExactParseEnumCardSaid : Prop := Claim7.holds Tryd.pinned (.plain (OpenSpec.ofChange fnExactParseEnumSpec)) fnExactParseEnumCard

/-- THE SECOND FORM's CARD OF 'laws.FnShowEnum'. -/
def fnShowEnumUptoCard : Claim7 := { stood := { row := fnShowEnumUptoRow, standIns := [], harness := (true, "61822c63e9171e9de5a811ba0af96fbb363ccef3e29c656181b594fc162d8116"), looks := true }, kinds := [], alts := [], laidByText := true, laidKinds := [.data, .data, .data], laidTests := true, laidLooks := .later }
def FnShowEnumUptoCardSaid : Prop := Claim7.holds Tryd.pinned (.plain (OpenSpec.upto fnShowEnumSpec)) fnShowEnumUptoCard

/-- THE SECOND FORM's CARD OF 'laws.FnExactShowEnum'. -/
def fnExactShowEnumUptoCard : Claim7 := { stood := { row := fnExactShowEnumUptoRow, standIns := [], harness := (true, "61822c63e9171e9de5a811ba0af96fbb363ccef3e29c656181b594fc162d8116"), looks := true }, kinds := [], alts := [], laidByText := true, laidKinds := [.data, .data, .data], laidTests := true, laidLooks := .later }
def FnExactShowEnumUptoCardSaid : Prop := Claim7.holds Tryd.pinned (.plain (OpenSpec.upto fnExactShowEnumSpec)) fnExactShowEnumUptoCard

/-- THE SECOND FORM's CARD OF 'laws.FnExactEnumText'. -/
def fnExactEnumTextUptoCard : Claim7 := { stood := { row := fnExactEnumTextUptoRow, standIns := [], harness := (true, "61822c63e9171e9de5a811ba0af96fbb363ccef3e29c656181b594fc162d8116"), looks := true }, kinds := [], alts := [], laidByText := true, laidKinds := [.data, .data, .data], laidTests := true, laidLooks := .later }
def FnExactEnumTextUptoCardSaid : Prop := Claim7.holds Tryd.pinned (.plain (OpenSpec.upto fnExactEnumTextSpec)) fnExactEnumTextUptoCard

/-- THE SECOND FORM's CARD OF 'laws.FnEnumText'. -/
def fnEnumTextUptoCard : Claim7 := { stood := { row := fnEnumTextUptoRow, standIns := [], harness := (true, "61822c63e9171e9de5a811ba0af96fbb363ccef3e29c656181b594fc162d8116"), looks := true }, kinds := [], alts := [], laidByText := true, laidKinds := [.data, .data, .data, .data, .sentinel, .sentinel, .pinned], laidTests := true, laidLooks := .later }
def FnEnumTextUptoCardSaid : Prop := Claim7.holds Tryd.pinned (.plain (OpenSpec.upto fnEnumTextSpec)) fnEnumTextUptoCard

/-- THE SECOND FORM's CARD OF 'laws.FnExactParseEnum'. -/
def fnExactParseEnumUptoCard : Claim7 := { stood := { row := fnExactParseEnumUptoRow, standIns := [], harness := (true, "61822c63e9171e9de5a811ba0af96fbb363ccef3e29c656181b594fc162d8116"), looks := true }, kinds := [], alts := [], laidByText := true, laidKinds := [.data, .data, .data, .data, .sentinel, .sentinel, .pinned], laidTests := true, laidLooks := .later }
def FnExactParseEnumUptoCardSaid : Prop := Claim7.holds Tryd.pinned (.plain (OpenSpec.upto fnExactParseEnumSpec)) fnExactParseEnumUptoCard
end Rows
end Go.Proofs.YtmdhdicigfpjdaaDoor
