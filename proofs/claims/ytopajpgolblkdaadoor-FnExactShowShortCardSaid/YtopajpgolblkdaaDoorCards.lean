/-
  DERIVED. GIVEN WITH THE SEED: THE CARDS: each row of YtopajpgolblkdaaDoorRows.lean that lists a variable, with what it lists TIED to the program's text (the seventh form; the later family's looks); each row that meets fmt, with fmt's text TOLD by the authors' own Lean function (tested against real Go, not proved from fmt's source: count such statements apart). THE CARD IS WHAT COUNTS. Prove the row's statement (the work); the ties are given (YtopajpgolblkdaaDoorTie.lean); close each card by the builder's one call (the guide's Derived/Test/ToyasCard.lean, 'card_holds'). Laid BY PROGRAM, IN A SANDBOX (cutbox-door.mjs). By AI agents, Wed Nov 11 2026. No macro, syntax, notation, axiom, sorry.
-/
import Derived.Test.YtopajpgolblkdaaDoorRows
import GoSem.ClaimSeven
namespace Go.Proofs.YtopajpgolblkdaaDoor
namespace Rows

/-- THE TIED CARD OF 'laws.FnExactShowShort'. -/
def fnExactShowShortCard : Claim7 := { stood := { row := fnExactShowShortRow, standIns := [], harness := (true, "5e2348aa10af532b17a735c2b9895eaf5ba99f0361b6091bcf6ac877b01889ad"), looks := false }, kinds := [], alts := [], laidByText := true, laidKinds := [.data, .data, .data], laidTests := true, laidLooks := .later }
def FnExactShowShortCardSaid : Prop := Claim7.holds Tryd.pinned (.plain (OpenSpec.ofChange fnExactShowShortSpec)) fnExactShowShortCard

/-- THE SECOND FORM's CARD OF 'laws.FnExactShowShort'. -/
def fnExactShowShortUptoCard : Claim7 := { stood := { row := fnExactShowShortUptoRow, standIns := [], harness := (true, "5e2348aa10af532b17a735c2b9895eaf5ba99f0361b6091bcf6ac877b01889ad"), looks := false }, kinds := [], alts := [], laidByText := true, laidKinds := [.data, .data, .data], laidTests := true, laidLooks := .later }
def FnExactShowShortUptoCardSaid : Prop := Claim7.holds Tryd.pinned (.plain (OpenSpec.upto fnExactShowShortSpec)) fnExactShowShortUptoCard
end Rows
end Go.Proofs.YtopajpgolblkdaaDoor
