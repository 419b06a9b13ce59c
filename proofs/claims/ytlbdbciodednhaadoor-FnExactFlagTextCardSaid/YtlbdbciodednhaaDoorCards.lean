/-
  DERIVED. GIVEN WITH THE SEED: THE CARDS: each row of YtlbdbciodednhaaDoorRows.lean that lists a variable, with what it lists TIED to the program's text (the seventh form; the later family's looks); each row that meets fmt, with fmt's text TOLD by the authors' own Lean function (tested against real Go, not proved from fmt's source: count such statements apart). THE CARD IS WHAT COUNTS. Prove the row's statement (the work); the ties are given (YtlbdbciodednhaaDoorTie.lean); close each card by the builder's one call (the guide's Derived/Test/ToyasCard.lean, 'card_holds'). Laid BY PROGRAM, IN A SANDBOX (cutbox-door.mjs). By AI agents, Wed Nov 11 2026. No macro, syntax, notation, axiom, sorry.
-/
import Derived.Test.YtlbdbciodednhaaDoorRows
import GoSem.ClaimSeven
namespace Go.Proofs.YtlbdbciodednhaaDoor
namespace Rows

/-- THE TIED CARD OF 'laws.FnExactEnumText'. -/
def fnExactEnumTextCard : Claim7 := { stood := { row := fnExactEnumTextRow, standIns := [], harness := (true, "2d5dda75b503805caf8890ad079d4a99064d7e0ce67fc102ae241555629e9e4f"), looks := true }, kinds := [], alts := [], laidByText := true, laidKinds := [.data, .data, .data], laidTests := true, laidLooks := .later }
def FnExactEnumTextCardSaid : Prop := Claim7.holds Tryd.pinned (.plain (OpenSpec.ofChange fnExactEnumTextSpec)) fnExactEnumTextCard

/-- THE TIED CARD OF 'laws.FnEnumText'. -/
def fnEnumTextCard : Claim7 := { stood := { row := fnEnumTextRow, standIns := [], harness := (true, "2d5dda75b503805caf8890ad079d4a99064d7e0ce67fc102ae241555629e9e4f"), looks := true }, kinds := [], alts := [], laidByText := true, laidKinds := [.data, .data, .data, .data, .sentinel, .sentinel, .pinned], laidTests := true, laidLooks := .later }
def FnEnumTextCardSaid : Prop := Claim7.holds Tryd.pinned (.plain (OpenSpec.ofChange fnEnumTextSpec)) fnEnumTextCard

/-- THE TIED CARD OF 'laws.FnExactFlagText'. -/
def fnExactFlagTextCard : Claim7 := { stood := { row := fnExactFlagTextRow, standIns := [], harness := (true, "2d5dda75b503805caf8890ad079d4a99064d7e0ce67fc102ae241555629e9e4f"), looks := true }, kinds := [], alts := [], laidByText := true, laidKinds := [.data, .data, .data, .widerDeep], laidTests := true, laidLooks := .later }
def FnExactFlagTextCardSaid : Prop := Claim7.holds Tryd.pinned (.plain (OpenSpec.ofChange fnExactFlagTextSpec)) fnExactFlagTextCard

/-- THE SECOND FORM's CARD OF 'laws.FnExactEnumText'. -/
def fnExactEnumTextUptoCard : Claim7 := { stood := { row := fnExactEnumTextUptoRow, standIns := [], harness := (true, "2d5dda75b503805caf8890ad079d4a99064d7e0ce67fc102ae241555629e9e4f"), looks := true }, kinds := [], alts := [], laidByText := true, laidKinds := [.data, .data, .data], laidTests := true, laidLooks := .later }
def FnExactEnumTextUptoCardSaid : Prop := Claim7.holds Tryd.pinned (.plain (OpenSpec.upto fnExactEnumTextSpec)) fnExactEnumTextUptoCard

/-- THE SECOND FORM's CARD OF 'laws.FnEnumText'. -/
def fnEnumTextUptoCard : Claim7 := { stood := { row := fnEnumTextUptoRow, standIns := [], harness := (true, "2d5dda75b503805caf8890ad079d4a99064d7e0ce67fc102ae241555629e9e4f"), looks := true }, kinds := [], alts := [], laidByText := true, laidKinds := [.data, .data, .data, .data, .sentinel, .sentinel, .pinned], laidTests := true, laidLooks := .later }
def FnEnumTextUptoCardSaid : Prop := Claim7.holds Tryd.pinned (.plain (OpenSpec.upto fnEnumTextSpec)) fnEnumTextUptoCard

/-- THE SECOND FORM's CARD OF 'laws.FnExactFlagText'. -/
def fnExactFlagTextUptoCard : Claim7 := { stood := { row := fnExactFlagTextUptoRow, standIns := [], harness := (true, "2d5dda75b503805caf8890ad079d4a99064d7e0ce67fc102ae241555629e9e4f"), looks := true }, kinds := [], alts := [], laidByText := true, laidKinds := [.data, .data, .data, .widerDeep], laidTests := true, laidLooks := .later }
def FnExactFlagTextUptoCardSaid : Prop := Claim7.holds Tryd.pinned (.plain (OpenSpec.upto fnExactFlagTextSpec)) fnExactFlagTextUptoCard
end Rows
end Go.Proofs.YtlbdbciodednhaaDoor
