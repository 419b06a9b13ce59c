/-
  DERIVED. GIVEN WITH THE SEED: THE CARDS: each row of YtomemaanjendhaaDoorRows.lean that lists a variable, with what it lists TIED to the program's text (the seventh form; the later family's looks); each row that meets fmt, with fmt's text TOLD by the authors' own Lean function (tested against real Go, not proved from fmt's source: count such statements apart). THE CARD IS WHAT COUNTS. Prove the row's statement (the work); the ties are given (YtomemaanjendhaaDoorTie.lean); close each card by the builder's one call (the guide's Derived/Test/ToyasCard.lean, 'card_holds'). Laid BY PROGRAM, IN A SANDBOX (cutbox-door.mjs). By AI agents, Wed Nov 11 2026. No macro, syntax, notation, axiom, sorry.
-/
import Derived.Test.YtomemaanjendhaaDoorRows
import GoSem.ClaimSeven
namespace Go.Proofs.YtomemaanjendhaaDoor
namespace Rows

/-- THE TIED CARD OF 'laws.FnExactReadValue'. -/
def fnExactReadValueCard : Claim7 := { stood := { row := fnExactReadValueRow, standIns := [], harness := (true, "bfccc421a6d9793287a71384c28b79a5fd5909a8e97e9c466ee4282b8c813846"), looks := true }, kinds := [], alts := [], laidByText := true, laidKinds := [.data, .data, .data, .data, .sentinel, .sentinel, .pinned], laidTests := true, laidLooks := .later }
def FnExactReadValueCardSaid : Prop := Claim7.holds Tryd.pinned (.plain (OpenSpec.ofChange fnExactReadValueSpec)) fnExactReadValueCard

/-- THE TIED CARD OF 'laws.FnExactParseEnum'. -/
def fnExactParseEnumCard : Claim7 := { stood := { row := fnExactParseEnumRow, standIns := [], harness := (true, "bfccc421a6d9793287a71384c28b79a5fd5909a8e97e9c466ee4282b8c813846"), looks := true }, kinds := [], alts := [], laidByText := true, laidKinds := [.data, .data, .data, .data, .sentinel, .sentinel, .pinned], laidTests := true, laidLooks := .later }
def FnExactParseEnumCardSaid : Prop := Claim7.holds Tryd.pinned (.plain (OpenSpec.ofChange fnExactParseEnumSpec)) fnExactParseEnumCard

/-- THE TIED CARD OF 'laws.FnExactParseArm'. -/
def fnExactParseArmCard : Claim7 := { stood := { row := fnExactParseArmRow, standIns := [], harness := (true, "bfccc421a6d9793287a71384c28b79a5fd5909a8e97e9c466ee4282b8c813846"), looks := true }, kinds := [], alts := [], laidByText := true, laidKinds := [.data, .pinned], laidTests := true, laidLooks := .later }
def FnExactParseArmCardSaid : Prop := Claim7.holds Tryd.pinned (.plain (OpenSpec.ofChange fnExactParseArmSpec)) fnExactParseArmCard

/-- THE TIED CARD OF 'laws.FnExactShowValue'. -/
def fnExactShowValueCard : Claim7 := { stood := { row := fnExactShowValueRow, standIns := [], harness := (true, "bfccc421a6d9793287a71384c28b79a5fd5909a8e97e9c466ee4282b8c813846"), looks := true }, kinds := [], alts := [], laidByText := true, laidKinds := [.data, .data, .data], laidTests := true, laidLooks := .later }
def FnExactShowValueCardSaid : Prop := Claim7.holds Tryd.pinned (.plain (OpenSpec.ofChange fnExactShowValueSpec)) fnExactShowValueCard

/-- THE TIED CARD OF 'laws.FnExactShowEnum'. -/
def fnExactShowEnumCard : Claim7 := { stood := { row := fnExactShowEnumRow, standIns := [], harness := (true, "bfccc421a6d9793287a71384c28b79a5fd5909a8e97e9c466ee4282b8c813846"), looks := true }, kinds := [], alts := [], laidByText := true, laidKinds := [.data, .data, .data], laidTests := true, laidLooks := .later }
def FnExactShowEnumCardSaid : Prop := Claim7.holds Tryd.pinned (.plain (OpenSpec.ofChange fnExactShowEnumSpec)) fnExactShowEnumCard

/-- THE TIED CARD OF 'laws.FnShowEnum'. -/
def fnShowEnumCard : Claim7 := { stood := { row := fnShowEnumRow, standIns := [], harness := (true, "bfccc421a6d9793287a71384c28b79a5fd5909a8e97e9c466ee4282b8c813846"), looks := true }, kinds := [], alts := [], laidByText := true, laidKinds := [.data, .data, .data], laidTests := true, laidLooks := .later }
def FnShowEnumCardSaid : Prop := Claim7.holds Tryd.pinned (.plain (OpenSpec.ofChange fnShowEnumSpec)) fnShowEnumCard

/-- THE TIED CARD OF 'laws.FnExactShowShort'. -/
def fnExactShowShortCard : Claim7 := { stood := { row := fnExactShowShortRow, standIns := [], harness := (true, "bfccc421a6d9793287a71384c28b79a5fd5909a8e97e9c466ee4282b8c813846"), looks := true }, kinds := [], alts := [], laidByText := true, laidKinds := [.data, .data, .data], laidTests := true, laidLooks := .later }
def FnExactShowShortCardSaid : Prop := Claim7.holds Tryd.pinned (.plain (OpenSpec.ofChange fnExactShowShortSpec)) fnExactShowShortCard

/-- THE SECOND FORM's CARD OF 'laws.FnExactReadValue'. -/
def fnExactReadValueUptoCard : Claim7 := { stood := { row := fnExactReadValueUptoRow, standIns := [], harness := (true, "bfccc421a6d9793287a71384c28b79a5fd5909a8e97e9c466ee4282b8c813846"), looks := true }, kinds := [], alts := [], laidByText := true, laidKinds := [.data, .data, .data, .data, .sentinel, .sentinel, .pinned], laidTests := true, laidLooks := .later }
def FnExactReadValueUptoCardSaid : Prop := Claim7.holds Tryd.pinned (.plain (OpenSpec.upto fnExactReadValueSpec)) fnExactReadValueUptoCard

/-- THE SECOND FORM's CARD OF 'laws.FnExactParseEnum'. -/
def fnExactParseEnumUptoCard : Claim7 := { stood := { row := fnExactParseEnumUptoRow, standIns := [], harness := (true, "bfccc421a6d9793287a71384c28b79a5fd5909a8e97e9c466ee4282b8c813846"), looks := true }, kinds := [], alts := [], laidByText := true, laidKinds := [.data, .data, .data, .data, .sentinel, .sentinel, .pinned], laidTests := true, laidLooks := .later }
def FnExactParseEnumUptoCardSaid : Prop := Claim7.holds Tryd.pinned (.plain (OpenSpec.upto fnExactParseEnumSpec)) fnExactParseEnumUptoCard

/-- THE SECOND FORM's CARD OF 'laws.FnExactParseArm'. -/
def fnExactParseArmUptoCard : Claim7 := { stood := { row := fnExactParseArmUptoRow, standIns := [], harness := (true, "bfccc421a6d9793287a71384c28b79a5fd5909a8e97e9c466ee4282b8c813846"), looks := true }, kinds := [], alts := [], laidByText := true, laidKinds := [.data, .pinned], laidTests := true, laidLooks := .later }
def FnExactParseArmUptoCardSaid : Prop := Claim7.holds Tryd.pinned (.plain (OpenSpec.upto fnExactParseArmSpec)) fnExactParseArmUptoCard

/-- THE SECOND FORM's CARD OF 'laws.FnExactShowValue'. -/
def fnExactShowValueUptoCard : Claim7 := { stood := { row := fnExactShowValueUptoRow, standIns := [], harness := (true, "bfccc421a6d9793287a71384c28b79a5fd5909a8e97e9c466ee4282b8c813846"), looks := true }, kinds := [], alts := [], laidByText := true, laidKinds := [.data, .data, .data], laidTests := true, laidLooks := .later }
def FnExactShowValueUptoCardSaid : Prop := Claim7.holds Tryd.pinned (.plain (OpenSpec.upto fnExactShowValueSpec)) fnExactShowValueUptoCard

/-- THE SECOND FORM's CARD OF 'laws.FnExactShowEnum'. -/
def fnExactShowEnumUptoCard : Claim7 := { stood := { row := fnExactShowEnumUptoRow, standIns := [], harness := (true, "bfccc421a6d9793287a71384c28b79a5fd5909a8e97e9c466ee4282b8c813846"), looks := true }, kinds := [], alts := [], laidByText := true, laidKinds := [.data, .data, .data], laidTests := true, laidLooks := .later }
def FnExactShowEnumUptoCardSaid : Prop := Claim7.holds Tryd.pinned (.plain (OpenSpec.upto fnExactShowEnumSpec)) fnExactShowEnumUptoCard

/-- THE SECOND FORM's CARD OF 'laws.FnShowEnum'. -/
def fnShowEnumUptoCard : Claim7 := { stood := { row := fnShowEnumUptoRow, standIns := [], harness := (true, "bfccc421a6d9793287a71384c28b79a5fd5909a8e97e9c466ee4282b8c813846"), looks := true }, kinds := [], alts := [], laidByText := true, laidKinds := [.data, .data, .data], laidTests := true, laidLooks := .later }
def FnShowEnumUptoCardSaid : Prop := Claim7.holds Tryd.pinned (.plain (OpenSpec.upto fnShowEnumSpec)) fnShowEnumUptoCard

/-- THE SECOND FORM's CARD OF 'laws.FnExactShowShort'. -/
def fnExactShowShortUptoCard : Claim7 := { stood := { row := fnExactShowShortUptoRow, standIns := [], harness := (true, "bfccc421a6d9793287a71384c28b79a5fd5909a8e97e9c466ee4282b8c813846"), looks := true }, kinds := [], alts := [], laidByText := true, laidKinds := [.data, .data, .data], laidTests := true, laidLooks := .later }
def FnExactShowShortUptoCardSaid : Prop := Claim7.holds Tryd.pinned (.plain (OpenSpec.upto fnExactShowShortSpec)) fnExactShowShortUptoCard
end Rows
end Go.Proofs.YtomemaanjendhaaDoor
