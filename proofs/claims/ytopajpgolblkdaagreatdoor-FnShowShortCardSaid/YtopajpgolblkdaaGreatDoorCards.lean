/-
  DERIVED. GIVEN WITH THE SEED: THE CARDS: each row of YtopajpgolblkdaaGreatDoorRows.lean that lists a variable, with what it lists TIED to the program's text (the seventh form; the later family's looks); each row that meets fmt, with fmt's text TOLD by the authors' own Lean function (tested against real Go, not proved from fmt's source: count such statements apart). THE CARD IS WHAT COUNTS. Prove the row's statement (the work); the ties are given (YtopajpgolblkdaaGreatDoorTie.lean); close each card by the builder's one call (the guide's Derived/Test/ToyasCard.lean, 'card_holds'). Laid BY PROGRAM, IN A SANDBOX (cutbox-door.mjs). By AI agents, Wed Nov 11 2026. No macro, syntax, notation, axiom, sorry.
-/
import Derived.Test.YtopajpgolblkdaaGreatDoorRows
import GoSem.ClaimSeven
namespace Go.Proofs.YtopajpgolblkdaaGreatDoor
namespace Rows

/-- THE TIED CARD OF 'laws.FnShowShort'. -/
def fnShowShortCard : Claim7 := { stood := { row := fnShowShortRow, standIns := [], harness := (true, "f8996b307f27dc261471ea3bb3b7a53089a41efbda548fc971ddebb3b166078f"), looks := true }, kinds := [], alts := [], laidByText := true, laidKinds := [.data, .data, .data, .data, .sentinel, .sentinel, .pinned], laidTests := true, laidLooks := .later }
def FnShowShortCardSaid : Prop := Claim7.holds Tryz.pinned (.plain (OpenSpec.ofChange fnShowShortSpec)) fnShowShortCard

/-- THE SECOND FORM's CARD OF 'laws.FnShowShort'. -/
def fnShowShortUptoCard : Claim7 := { stood := { row := fnShowShortUptoRow, standIns := [], harness := (true, "f8996b307f27dc261471ea3bb3b7a53089a41efbda548fc971ddebb3b166078f"), looks := true }, kinds := [], alts := [], laidByText := true, laidKinds := [.data, .data, .data, .data, .sentinel, .sentinel, .pinned], laidTests := true, laidLooks := .later }
def FnShowShortUptoCardSaid : Prop := Claim7.holds Tryz.pinned (.plain (OpenSpec.upto fnShowShortSpec)) fnShowShortUptoCard
end Rows
end Go.Proofs.YtopajpgolblkdaaGreatDoor
