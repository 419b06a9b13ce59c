/-
  DERIVED. GIVEN WITH THE SEED: THE CARDS: each row of YtlbdbciodednhaaGreatDoorRows.lean that lists a variable, with what it lists TIED to the program's text (the seventh form; the later family's looks); each row that meets fmt, with fmt's text TOLD by the authors' own Lean function (tested against real Go, not proved from fmt's source: count such statements apart). THE CARD IS WHAT COUNTS. Prove the row's statement (the work); the ties are given (YtlbdbciodednhaaGreatDoorTie.lean); close each card by the builder's one call (the guide's Derived/Test/ToyasCard.lean, 'card_holds'). Laid BY PROGRAM, IN A SANDBOX (cutbox-door.mjs). By AI agents, Wed Nov 11 2026. No macro, syntax, notation, axiom, sorry.
-/
import Derived.Test.YtlbdbciodednhaaGreatDoorRows
import GoSem.ClaimSeven
namespace Go.Proofs.YtlbdbciodednhaaGreatDoor
namespace Rows

/-- THE TIED CARD OF 'laws.FnParseEnum'. -/
def fnParseEnumCard : Claim7 := { stood := { row := fnParseEnumRow, standIns := [], harness := (true, "869c35949bb9745a7d4641e66bfad8004ee63b77edbc676a035ef8310012f03f"), looks := true }, kinds := [], alts := [], laidByText := true, laidKinds := [.data, .data, .data, .data, .sentinel, .sentinel, .widerDeep, .pinned], laidTests := true, laidLooks := .later }
def FnParseEnumCardSaid : Prop := Claim7.holds Tryz.pinned (.plain (OpenSpec.ofChange fnParseEnumSpec)) fnParseEnumCard

/-- THE SECOND FORM's CARD OF 'laws.FnParseEnum'. -/
def fnParseEnumUptoCard : Claim7 := { stood := { row := fnParseEnumUptoRow, standIns := [], harness := (true, "869c35949bb9745a7d4641e66bfad8004ee63b77edbc676a035ef8310012f03f"), looks := true }, kinds := [], alts := [], laidByText := true, laidKinds := [.data, .data, .data, .data, .sentinel, .sentinel, .widerDeep, .pinned], laidTests := true, laidLooks := .later }
def FnParseEnumUptoCardSaid : Prop := Claim7.holds Tryz.pinned (.plain (OpenSpec.upto fnParseEnumSpec)) fnParseEnumUptoCard
end Rows
end Go.Proofs.YtlbdbciodednhaaGreatDoor
