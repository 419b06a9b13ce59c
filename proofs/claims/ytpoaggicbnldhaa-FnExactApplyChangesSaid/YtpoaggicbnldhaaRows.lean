/-
  No cell of these rows narrows 'for every input' (looked for: loops, veiled, ifaces, maps, wideKeys, modest, calm, conditions, laid).
  DERIVED. THE GIVEN ROWS OF THIS SEAT. 5 by the template 'for every input the law returns true; each argument reads behind the call as it read before'; 0 by the template 'total and deterministic' (their statements: YtpoaggicbnldhaaTotals.lean).
  GIVEN WITH THE SEED: the statements are not yours to turn. If you find one false, say at which input.
  Laid BY PROGRAM, IN A SANDBOX (cutbox-rows.mjs): the forced cells as the released guide's own fill.sh prints them over the translation e5bb188073a3db76… (all of the seat's roots in one cut). By AI agents, Wed Nov 11 2026. No macro, syntax, notation, axiom, sorry.
-/
import Derived.Test.YtpoaggicbnldhaaChecked
import GoSem.Claim
import GoSem.ClaimJoined
import GoSem.ClaimMapViews
import Derived.JoinedTies
import Derived.KernelRfl
namespace Go.Proofs.Ytpoaggicbnldhaa
/- THE CELL 'sum', in the pinned program and in every row, IS THE sha256 OF THE DUMP (.gsa) THAT YtpoaggicbnldhaaProg.lean LOADS. Nothing in Lean hashes anything: it is a label: what it is worth is what the hold of that sum in a sandbox is worth. -/
noncomputable def Try.pinned : Pinned := { name := "ytpoaggicbnldhaa", sum := "e5bb188073a3db7697440a321be32f8f1ccebac1c92c48a6b0967393995bd78e", checked := Try.checked }
namespace Rows
def none {H : Type} : Left H := { results := [], args := [] }

/-- 'laws.FnApplyChanges': WHATEVER THE INPUT: true; the input reads as it did. -/
def fnApplyChangesSpec : ChangeSpec := { name := "fnApplyChanges", fn := fun _ => fun
  | [d] => { results := [.lit (.bool true)], args := [d] }
  | _ => none }
def fnApplyChangesRow : OpenClaim := { program := "ytpoaggicbnldhaa", sum := "e5bb188073a3db7697440a321be32f8f1ccebac1c92c48a6b0967393995bd78e", func := "loop.example/namedflags/laws.FnApplyChanges", spec := "fnApplyChanges", unfollowed := true, recurses := true, apart := false }
def FnApplyChangesSaid : Prop := fnApplyChangesRow.holds Try.pinned (OpenSpec.ofChange fnApplyChangesSpec)

/-- ITS FALSE NEIGHBOUR: 'it returns false'. Refute it at one input. -/
def fnApplyChangesWrong : ChangeSpec := { name := "fnApplyChanges", fn := fun _ => fun
  | [d] => { results := [.lit (.bool false)], args := [d] }
  | _ => none }
def FnApplyChangesWrongFalsely : Prop := fnApplyChangesRow.holds Try.pinned (OpenSpec.ofChange fnApplyChangesWrong)

/-- 'laws.FnExactApplyChanges': WHATEVER THE INPUT: true; the input reads as it did. -/
def fnExactApplyChangesSpec : ChangeSpec := { name := "fnExactApplyChanges", fn := fun _ => fun
  | [d1, d2] => { results := [.lit (.bool true)], args := [d1, d2] }
  | _ => none }
def fnExactApplyChangesRow : OpenClaim := { program := "ytpoaggicbnldhaa", sum := "e5bb188073a3db7697440a321be32f8f1ccebac1c92c48a6b0967393995bd78e", func := "loop.example/namedflags/laws.FnExactApplyChanges", spec := "fnExactApplyChanges", unfollowed := true, recurses := true, apart := false }
def FnExactApplyChangesSaid : Prop := fnExactApplyChangesRow.holds Try.pinned (OpenSpec.ofChange fnExactApplyChangesSpec)

/-- ITS FALSE NEIGHBOUR: 'it returns false'. Refute it at one input. -/
def fnExactApplyChangesWrong : ChangeSpec := { name := "fnExactApplyChanges", fn := fun _ => fun
  | [d1, d2] => { results := [.lit (.bool false)], args := [d1, d2] }
  | _ => none }
def FnExactApplyChangesWrongFalsely : Prop := fnExactApplyChangesRow.holds Try.pinned (OpenSpec.ofChange fnExactApplyChangesWrong)

/-- 'laws.FnSortEnum': WHATEVER THE INPUT: true; the input reads as it did. -/
def fnSortEnumSpec : ChangeSpec := { name := "fnSortEnum", fn := fun _ => fun
  | [d] => { results := [.lit (.bool true)], args := [d] }
  | _ => none }
def fnSortEnumRow : OpenClaim := { program := "ytpoaggicbnldhaa", sum := "e5bb188073a3db7697440a321be32f8f1ccebac1c92c48a6b0967393995bd78e", func := "loop.example/namedflags/laws.FnSortEnum", spec := "fnSortEnum", unfollowed := true, recurses := true, apart := false }
def FnSortEnumSaid : Prop := fnSortEnumRow.holds Try.pinned (OpenSpec.ofChange fnSortEnumSpec)

/-- ITS FALSE NEIGHBOUR: 'it returns false'. Refute it at one input. -/
def fnSortEnumWrong : ChangeSpec := { name := "fnSortEnum", fn := fun _ => fun
  | [d] => { results := [.lit (.bool false)], args := [d] }
  | _ => none }
def FnSortEnumWrongFalsely : Prop := fnSortEnumRow.holds Try.pinned (OpenSpec.ofChange fnSortEnumWrong)

/-- 'laws.FnExactSortEnum': WHATEVER THE INPUT: true; the input reads as it did. -/
def fnExactSortEnumSpec : ChangeSpec := { name := "fnExactSortEnum", fn := fun _ => fun
  | [d] => { results := [.lit (.bool true)], args := [d] }
  | _ => none }
def fnExactSortEnumRow : OpenClaim := { program := "ytpoaggicbnldhaa", sum := "e5bb188073a3db7697440a321be32f8f1ccebac1c92c48a6b0967393995bd78e", func := "loop.example/namedflags/laws.FnExactSortEnum", spec := "fnExactSortEnum", unfollowed := true, recurses := true, apart := false }
def FnExactSortEnumSaid : Prop := fnExactSortEnumRow.holds Try.pinned (OpenSpec.ofChange fnExactSortEnumSpec)

/-- ITS FALSE NEIGHBOUR: 'it returns false'. Refute it at one input. -/
def fnExactSortEnumWrong : ChangeSpec := { name := "fnExactSortEnum", fn := fun _ => fun
  | [d] => { results := [.lit (.bool false)], args := [d] }
  | _ => none }
def FnExactSortEnumWrongFalsely : Prop := fnExactSortEnumRow.holds Try.pinned (OpenSpec.ofChange fnExactSortEnumWrong)

/-- 'laws.FnSameMeaning': WHATEVER THE INPUT: true; the input reads as it did. -/
def fnSameMeaningSpec : ChangeSpec := { name := "fnSameMeaning", fn := fun _ => fun
  | [d] => { results := [.lit (.bool true)], args := [d] }
  | _ => none }
def fnSameMeaningRow : OpenClaim := { program := "ytpoaggicbnldhaa", sum := "e5bb188073a3db7697440a321be32f8f1ccebac1c92c48a6b0967393995bd78e", func := "loop.example/namedflags/laws.FnSameMeaning", spec := "fnSameMeaning", unfollowed := true, recurses := true, apart := false }
def FnSameMeaningSaid : Prop := fnSameMeaningRow.holds Try.pinned (OpenSpec.ofChange fnSameMeaningSpec)

/-- ITS FALSE NEIGHBOUR: 'it returns false'. Refute it at one input. -/
def fnSameMeaningWrong : ChangeSpec := { name := "fnSameMeaning", fn := fun _ => fun
  | [d] => { results := [.lit (.bool false)], args := [d] }
  | _ => none }
def FnSameMeaningWrongFalsely : Prop := fnSameMeaningRow.holds Try.pinned (OpenSpec.ofChange fnSameMeaningWrong)

/- THE SECOND FORM. 'bulk': how many values and letters a reading holds, each counted each time it is reached (what is shared counts as often as it is met; a slice's spare places count too). A statement '..UptoSaid' is the law's where the arguments, and the package variables that the reading takes, are together of bulk at most 1048576: NARROWER than '..Said'. Prove '..Said' where nothing that the law and all that it calls make is longer than what came in: it says more and counts as full. Else prove '..UptoSaid'. A law counts once. -/
mutual
def uptoBulk {H : Type} : DataW H → Nat
  | .lit (.string bytes) => bytes.length + 1
  | .lit _ => 1
  | .nil => 1
  | .ptr d => uptoBulk d + 1
  | .slice elems spare => uptoBulkAll elems + uptoBulkAll spare + 1
  | .agg parts => uptoBulkAll parts + 1
  | .iface _ d => uptoBulk d + 1
  | .map entries => uptoBulkEntries entries + 1
  | .held _ => 1
def uptoBulkAll {H : Type} : List (DataW H) → Nat
  | [] => 0
  | d :: r => uptoBulk d + uptoBulkAll r
def uptoBulkEntries {H : Type} : List (Lit × DataW H) → Nat
  | [] => 0
  | x :: r => uptoBulkEntry x + uptoBulkEntries r
def uptoBulkEntry {H : Type} : Lit × DataW H → Nat
  | (.string bytes, d) => bytes.length + uptoBulk d + 1
  | (_, d) => uptoBulk d + 1
 end
def uptoSmall : (H : Type) → List (DataW H) → Bool := fun _ ds => decide (uptoBulkAll ds ≤ 1048576)
def OpenSpec.upto (s : _root_.Go.ChangeSpec) : _root_.Go.OpenSpec := { _root_.Go.OpenSpec.ofChange s with cond := some uptoSmall }

/-- 'laws.FnApplyChanges', WHERE WHAT IT READS IS OF BULK AT MOST 1048576: true; the input reads as it did. -/
def fnApplyChangesUptoRow : OpenClaim := { program := "ytpoaggicbnldhaa", sum := "e5bb188073a3db7697440a321be32f8f1ccebac1c92c48a6b0967393995bd78e", func := "loop.example/namedflags/laws.FnApplyChanges", spec := "fnApplyChanges", unfollowed := true, recurses := true, apart := false, narrowed := true }
def FnApplyChangesUptoSaid : Prop := fnApplyChangesUptoRow.holds Try.pinned (OpenSpec.upto fnApplyChangesSpec)

/-- 'laws.FnExactApplyChanges', WHERE WHAT IT READS IS OF BULK AT MOST 1048576: true; the input reads as it did. -/
def fnExactApplyChangesUptoRow : OpenClaim := { program := "ytpoaggicbnldhaa", sum := "e5bb188073a3db7697440a321be32f8f1ccebac1c92c48a6b0967393995bd78e", func := "loop.example/namedflags/laws.FnExactApplyChanges", spec := "fnExactApplyChanges", unfollowed := true, recurses := true, apart := false, narrowed := true }
def FnExactApplyChangesUptoSaid : Prop := fnExactApplyChangesUptoRow.holds Try.pinned (OpenSpec.upto fnExactApplyChangesSpec)

/-- 'laws.FnSortEnum', WHERE WHAT IT READS IS OF BULK AT MOST 1048576: true; the input reads as it did. -/
def fnSortEnumUptoRow : OpenClaim := { program := "ytpoaggicbnldhaa", sum := "e5bb188073a3db7697440a321be32f8f1ccebac1c92c48a6b0967393995bd78e", func := "loop.example/namedflags/laws.FnSortEnum", spec := "fnSortEnum", unfollowed := true, recurses := true, apart := false, narrowed := true }
def FnSortEnumUptoSaid : Prop := fnSortEnumUptoRow.holds Try.pinned (OpenSpec.upto fnSortEnumSpec)

/-- 'laws.FnExactSortEnum', WHERE WHAT IT READS IS OF BULK AT MOST 1048576: true; the input reads as it did. -/
def fnExactSortEnumUptoRow : OpenClaim := { program := "ytpoaggicbnldhaa", sum := "e5bb188073a3db7697440a321be32f8f1ccebac1c92c48a6b0967393995bd78e", func := "loop.example/namedflags/laws.FnExactSortEnum", spec := "fnExactSortEnum", unfollowed := true, recurses := true, apart := false, narrowed := true }
def FnExactSortEnumUptoSaid : Prop := fnExactSortEnumUptoRow.holds Try.pinned (OpenSpec.upto fnExactSortEnumSpec)

/-- 'laws.FnSameMeaning', WHERE WHAT IT READS IS OF BULK AT MOST 1048576: true; the input reads as it did. -/
def fnSameMeaningUptoRow : OpenClaim := { program := "ytpoaggicbnldhaa", sum := "e5bb188073a3db7697440a321be32f8f1ccebac1c92c48a6b0967393995bd78e", func := "loop.example/namedflags/laws.FnSameMeaning", spec := "fnSameMeaning", unfollowed := true, recurses := true, apart := false, narrowed := true }
def FnSameMeaningUptoSaid : Prop := fnSameMeaningUptoRow.holds Try.pinned (OpenSpec.upto fnSameMeaningSpec)

end Rows
end Go.Proofs.Ytpoaggicbnldhaa
