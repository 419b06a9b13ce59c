/-
  DERIVED. GIVEN WITH THE SEED: THE CARDS: each row of YtgimlcokmlldbaaDoorRows.lean that lists a variable, with what it lists TIED to the program's text (the seventh form; the later family's looks); each row that meets fmt, with fmt's text TOLD by the authors' own Lean function (tested against real Go, not proved from fmt's source: count such statements apart). THE CARD IS WHAT COUNTS. Prove the row's statement (the work); the ties are given (YtgimlcokmlldbaaDoorTie.lean); close each card by the builder's one call (the guide's Derived/Test/ToyasCard.lean, 'card_holds'). Laid BY PROGRAM, IN A SANDBOX (cutbox-door.mjs). By AI agents, Wed Nov 11 2026. No macro, syntax, notation, axiom, sorry.
-/
import Derived.Test.YtgimlcokmlldbaaDoorRows
import GoSem.ClaimSeven
namespace Go.Proofs.YtgimlcokmlldbaaDoor
namespace Rows

/-- THE TIED CARD OF 'laws.FnExactShowValue'. -/
def fnExactShowValueCard : Claim7 := { stood := { row := fnExactShowValueRow, standIns := [], harness := (true, "67c0a69f8f06930c52b99a60b588ff98e04b3f2adc213696aebc96fc13df2a1e"), looks := true }, kinds := [], alts := [], laidByText := true, laidKinds := [.data, .data, .data], laidTests := true, laidLooks := .later }
def FnExactShowValueCardSaid : Prop := Claim7.holds Tryd.pinned (.plain (OpenSpec.ofChange fnExactShowValueSpec)) fnExactShowValueCard

/-- THE TIED CARD OF 'laws.FnExactReadValue'. -/
def fnExactReadValueCard : Claim7 := { stood := { row := fnExactReadValueRow, standIns := [], harness := (true, "67c0a69f8f06930c52b99a60b588ff98e04b3f2adc213696aebc96fc13df2a1e"), looks := true }, kinds := [], alts := [], laidByText := true, laidKinds := [.data, .data, .data, .data, .sentinel, .sentinel, .pinned], laidTests := true, laidLooks := .later }
def FnExactReadValueCardSaid : Prop := Claim7.holds Tryd.pinned (.plain (OpenSpec.ofChange fnExactReadValueSpec)) fnExactReadValueCard

/-- THE TIED CARD OF 'laws.FnExactParseArm'. -/
def fnExactParseArmCard : Claim7 := { stood := { row := fnExactParseArmRow, standIns := [], harness := (true, "67c0a69f8f06930c52b99a60b588ff98e04b3f2adc213696aebc96fc13df2a1e"), looks := true }, kinds := [], alts := [], laidByText := true, laidKinds := [.data, .pinned], laidTests := true, laidLooks := .later }
def FnExactParseArmCardSaid : Prop := Claim7.holds Tryd.pinned (.plain (OpenSpec.ofChange fnExactParseArmSpec)) fnExactParseArmCard

/-- THE TIED CARD OF 'laws.FnExactFlagText'. -/
def fnExactFlagTextCard : Claim7 := { stood := { row := fnExactFlagTextRow, standIns := [], harness := (true, "67c0a69f8f06930c52b99a60b588ff98e04b3f2adc213696aebc96fc13df2a1e"), looks := true }, kinds := [], alts := [], laidByText := true, laidKinds := [.data, .data, .data, .widerDeep], laidTests := true, laidLooks := .later }
def FnExactFlagTextCardSaid : Prop := Claim7.holds Tryd.pinned (.plain (OpenSpec.ofChange fnExactFlagTextSpec)) fnExactFlagTextCard

/-- THE SECOND FORM's CARD OF 'laws.FnExactShowValue'. -/
def fnExactShowValueUptoCard : Claim7 := { stood := { row := fnExactShowValueUptoRow, standIns := [], harness := (true, "67c0a69f8f06930c52b99a60b588ff98e04b3f2adc213696aebc96fc13df2a1e"), looks := true }, kinds := [], alts := [], laidByText := true, laidKinds := [.data, .data, .data], laidTests := true, laidLooks := .later }
def FnExactShowValueUptoCardSaid : Prop := Claim7.holds Tryd.pinned (.plain (OpenSpec.upto fnExactShowValueSpec)) fnExactShowValueUptoCard

/-- THE SECOND FORM's CARD OF 'laws.FnExactReadValue'. -/
def fnExactReadValueUptoCard : Claim7 := { stood := { row := fnExactReadValueUptoRow, standIns := [], harness := (true, "67c0a69f8f06930c52b99a60b588ff98e04b3f2adc213696aebc96fc13df2a1e"), looks := true }, kinds := [], alts := [], laidByText := true, laidKinds := [.data, .data, .data, .data, .sentinel, .sentinel, .pinned], laidTests := true, laidLooks := .later }
def FnExactReadValueUptoCardSaid : Prop := Claim7.holds Tryd.pinned (.plain (OpenSpec.upto fnExactReadValueSpec)) fnExactReadValueUptoCard

/-- THE SECOND FORM's CARD OF 'laws.FnExactParseArm'. -/
def fnExactParseArmUptoCard : Claim7 := { stood := { row := fnExactParseArmUptoRow, standIns := [], harness := (true, "67c0a69f8f06930c52b99a60b588ff98e04b3f2adc213696aebc96fc13df2a1e"), looks := true }, kinds := [], alts := [], laidByText := true, laidKinds := [.data, .pinned], laidTests := true, laidLooks := .later }
def FnExactParseArmUptoCardSaid : Prop := Claim7.holds Tryd.pinned (.plain (OpenSpec.upto fnExactParseArmSpec)) fnExactParseArmUptoCard

/-- THE SECOND FORM's CARD OF 'laws.FnExactFlagText'. -/
def fnExactFlagTextUptoCard : Claim7 := { stood := { row := fnExactFlagTextUptoRow, standIns := [], harness := (true, "67c0a69f8f06930c52b99a60b588ff98e04b3f2adc213696aebc96fc13df2a1e"), looks := true }, kinds := [], alts := [], laidByText := true, laidKinds := [.data, .data, .data, .widerDeep], laidTests := true, laidLooks := .later }
def FnExactFlagTextUptoCardSaid : Prop := Claim7.holds Tryd.pinned (.plain (OpenSpec.upto fnExactFlagTextSpec)) fnExactFlagTextUptoCard
end Rows
end Go.Proofs.YtgimlcokmlldbaaDoor
