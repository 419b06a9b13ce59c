/-
  DERIVED. GIVEN WITH THE SEED: THE CARDS: each row of YtomemaanjendhaaGreatDoorRows.lean that lists a variable, with what it lists TIED to the program's text (the seventh form; the later family's looks); each row that meets fmt, with fmt's text TOLD by the authors' own Lean function (tested against real Go, not proved from fmt's source: count such statements apart). THE CARD IS WHAT COUNTS. Prove the row's statement (the work); the ties are given (YtomemaanjendhaaGreatDoorTie.lean); close each card by the builder's one call (the guide's Derived/Test/ToyasCard.lean, 'card_holds'). Laid BY PROGRAM, IN A SANDBOX (cutbox-door.mjs). By AI agents, Wed Nov 11 2026. No macro, syntax, notation, axiom, sorry.
-/
import Derived.Test.YtomemaanjendhaaGreatDoorRows
import GoSem.ClaimSeven
namespace Go.Proofs.YtomemaanjendhaaGreatDoor
namespace Rows

/-- THE TIED CARD OF 'laws.FnReadValue'. -/
def fnReadValueCard : Claim7 := { stood := { row := fnReadValueRow, standIns := [], harness := (true, "aacffe7f566eaca2fc54331ad127ac7cb3b5329b8860e1568030c9053ffdbc44"), looks := true }, kinds := [], alts := [], laidByText := true, laidKinds := [.data, .data, .data, .data, .sentinel, .sentinel, .pinned], laidTests := true, laidLooks := .later }
def FnReadValueCardSaid : Prop := Claim7.holds Tryz.pinned (.plain (OpenSpec.ofChange fnReadValueSpec)) fnReadValueCard

/-- THE TIED CARD OF 'laws.FnShowValue'. -/
def fnShowValueCard : Claim7 := { stood := { row := fnShowValueRow, standIns := [], harness := (true, "aacffe7f566eaca2fc54331ad127ac7cb3b5329b8860e1568030c9053ffdbc44"), looks := true }, kinds := [], alts := [], laidByText := true, laidKinds := [.data, .data, .data, .data, .sentinel, .sentinel, .pinned], laidTests := true, laidLooks := .later }
def FnShowValueCardSaid : Prop := Claim7.holds Tryz.pinned (.plain (OpenSpec.ofChange fnShowValueSpec)) fnShowValueCard

/-- THE TIED CARD OF 'laws.FnShowShort'. -/
def fnShowShortCard : Claim7 := { stood := { row := fnShowShortRow, standIns := [], harness := (true, "aacffe7f566eaca2fc54331ad127ac7cb3b5329b8860e1568030c9053ffdbc44"), looks := true }, kinds := [], alts := [], laidByText := true, laidKinds := [.data, .data, .data, .data, .sentinel, .sentinel, .pinned], laidTests := true, laidLooks := .later }
def FnShowShortCardSaid : Prop := Claim7.holds Tryz.pinned (.plain (OpenSpec.ofChange fnShowShortSpec)) fnShowShortCard

/-- THE TIED CARD OF 'laws.FnArmText'. -/
def fnArmTextCard : Claim7 := { stood := { row := fnArmTextRow, standIns := [], harness := (true, "aacffe7f566eaca2fc54331ad127ac7cb3b5329b8860e1568030c9053ffdbc44"), looks := true }, kinds := [], alts := [], laidByText := true, laidKinds := [.data, .pinned], laidTests := true, laidLooks := .later }
def FnArmTextCardSaid : Prop := Claim7.holds Tryz.pinned (.plain (OpenSpec.ofChange fnArmTextSpec)) fnArmTextCard

/-- THE SECOND FORM's CARD OF 'laws.FnReadValue'. -/
def fnReadValueUptoCard : Claim7 := { stood := { row := fnReadValueUptoRow, standIns := [], harness := (true, "aacffe7f566eaca2fc54331ad127ac7cb3b5329b8860e1568030c9053ffdbc44"), looks := true }, kinds := [], alts := [], laidByText := true, laidKinds := [.data, .data, .data, .data, .sentinel, .sentinel, .pinned], laidTests := true, laidLooks := .later }
def FnReadValueUptoCardSaid : Prop := Claim7.holds Tryz.pinned (.plain (OpenSpec.upto fnReadValueSpec)) fnReadValueUptoCard

/-- THE SECOND FORM's CARD OF 'laws.FnShowValue'. -/
def fnShowValueUptoCard : Claim7 := { stood := { row := fnShowValueUptoRow, standIns := [], harness := (true, "aacffe7f566eaca2fc54331ad127ac7cb3b5329b8860e1568030c9053ffdbc44"), looks := true }, kinds := [], alts := [], laidByText := true, laidKinds := [.data, .data, .data, .data, .sentinel, .sentinel, .pinned], laidTests := true, laidLooks := .later }
def FnShowValueUptoCardSaid : Prop := Claim7.holds Tryz.pinned (.plain (OpenSpec.upto fnShowValueSpec)) fnShowValueUptoCard

/-- THE SECOND FORM's CARD OF 'laws.FnShowShort'. -/
def fnShowShortUptoCard : Claim7 := { stood := { row := fnShowShortUptoRow, standIns := [], harness := (true, "aacffe7f566eaca2fc54331ad127ac7cb3b5329b8860e1568030c9053ffdbc44"), looks := true }, kinds := [], alts := [], laidByText := true, laidKinds := [.data, .data, .data, .data, .sentinel, .sentinel, .pinned], laidTests := true, laidLooks := .later }
def FnShowShortUptoCardSaid : Prop := Claim7.holds Tryz.pinned (.plain (OpenSpec.upto fnShowShortSpec)) fnShowShortUptoCard

/-- THE SECOND FORM's CARD OF 'laws.FnArmText'. -/
def fnArmTextUptoCard : Claim7 := { stood := { row := fnArmTextUptoRow, standIns := [], harness := (true, "aacffe7f566eaca2fc54331ad127ac7cb3b5329b8860e1568030c9053ffdbc44"), looks := true }, kinds := [], alts := [], laidByText := true, laidKinds := [.data, .pinned], laidTests := true, laidLooks := .later }
def FnArmTextUptoCardSaid : Prop := Claim7.holds Tryz.pinned (.plain (OpenSpec.upto fnArmTextSpec)) fnArmTextUptoCard
end Rows
end Go.Proofs.YtomemaanjendhaaGreatDoor
