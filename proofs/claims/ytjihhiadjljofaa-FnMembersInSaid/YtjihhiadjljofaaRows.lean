/-
  No cell of these rows narrows 'for every input' (looked for: loops, veiled, ifaces, maps, wideKeys, modest, calm, conditions, laid).
  DERIVED. THE GIVEN ROWS OF THIS SEAT. 4 by the template 'for every input the law returns true; each argument reads behind the call as it read before'; 0 by the template 'total and deterministic' (their statements: YtjihhiadjljofaaTotals.lean).
  GIVEN WITH THE SEED: the statements are not yours to turn. If you find one false, say at which input.
  Laid BY PROGRAM, IN A SANDBOX (cutbox-rows.mjs): the forced cells as the released guide's own fill.sh prints them over the translation 3afdb88f8100dc7c… (all of the seat's roots in one cut). By AI agents, Wed Nov 11 2026. No macro, syntax, notation, axiom, sorry.
-/
import Derived.Test.YtjihhiadjljofaaChecked
import GoSem.Claim
import GoSem.ClaimJoined
import GoSem.ClaimMapViews
import Derived.JoinedTies
import Derived.KernelRfl
namespace Go.Proofs.Ytjihhiadjljofaa
/- THE CELL 'sum', in the pinned program and in every row, IS THE sha256 OF THE DUMP (.gsa) THAT YtjihhiadjljofaaProg.lean LOADS. Nothing in Lean hashes anything: it is a label: what it is worth is what the hold of that sum in a sandbox is worth. -/
noncomputable def Try.pinned : Pinned := { name := "ytjihhiadjljofaa", sum := "3afdb88f8100dc7cb4cd45a23ea4feeeb84d671e3cf03519863305292e2a4f66", checked := Try.checked }
namespace Rows
def none {H : Type} : Left H := { results := [], args := [] }

/-- 'laws.FnFirstMissed': WHATEVER THE INPUT: true; the input reads as it did. -/
def fnFirstMissedSpec : ChangeSpec := { name := "fnFirstMissed", fn := fun _ => fun
  | [d] => { results := [.lit (.bool true)], args := [d] }
  | _ => none }
def fnFirstMissedRow : OpenClaim := { program := "ytjihhiadjljofaa", sum := "3afdb88f8100dc7cb4cd45a23ea4feeeb84d671e3cf03519863305292e2a4f66", func := "loop.example/namedflags/laws.FnFirstMissed", spec := "fnFirstMissed", unfollowed := true, recurses := true, apart := false }
def FnFirstMissedSaid : Prop := fnFirstMissedRow.holds Try.pinned (OpenSpec.ofChange fnFirstMissedSpec)

/-- ITS FALSE NEIGHBOUR: 'it returns false'. Refute it at one input. -/
def fnFirstMissedWrong : ChangeSpec := { name := "fnFirstMissed", fn := fun _ => fun
  | [d] => { results := [.lit (.bool false)], args := [d] }
  | _ => none }
def FnFirstMissedWrongFalsely : Prop := fnFirstMissedRow.holds Try.pinned (OpenSpec.ofChange fnFirstMissedWrong)

/-- 'laws.FnBuildFlag': WHATEVER THE INPUT: true; the input reads as it did. -/
def fnBuildFlagSpec : ChangeSpec := { name := "fnBuildFlag", fn := fun _ => fun
  | [d] => { results := [.lit (.bool true)], args := [d] }
  | _ => none }
def fnBuildFlagRow : OpenClaim := { program := "ytjihhiadjljofaa", sum := "3afdb88f8100dc7cb4cd45a23ea4feeeb84d671e3cf03519863305292e2a4f66", func := "loop.example/namedflags/laws.FnBuildFlag", spec := "fnBuildFlag", unfollowed := true, recurses := true, apart := false }
def FnBuildFlagSaid : Prop := fnBuildFlagRow.holds Try.pinned (OpenSpec.ofChange fnBuildFlagSpec)

/-- ITS FALSE NEIGHBOUR: 'it returns false'. Refute it at one input. -/
def fnBuildFlagWrong : ChangeSpec := { name := "fnBuildFlag", fn := fun _ => fun
  | [d] => { results := [.lit (.bool false)], args := [d] }
  | _ => none }
def FnBuildFlagWrongFalsely : Prop := fnBuildFlagRow.holds Try.pinned (OpenSpec.ofChange fnBuildFlagWrong)

/-- 'laws.FnExactBuildFlag': WHATEVER THE INPUT: true; the input reads as it did. -/
def fnExactBuildFlagSpec : ChangeSpec := { name := "fnExactBuildFlag", fn := fun _ => fun
  | [d1, d2] => { results := [.lit (.bool true)], args := [d1, d2] }
  | _ => none }
def fnExactBuildFlagRow : OpenClaim := { program := "ytjihhiadjljofaa", sum := "3afdb88f8100dc7cb4cd45a23ea4feeeb84d671e3cf03519863305292e2a4f66", func := "loop.example/namedflags/laws.FnExactBuildFlag", spec := "fnExactBuildFlag", unfollowed := true, recurses := true, apart := false }
def FnExactBuildFlagSaid : Prop := fnExactBuildFlagRow.holds Try.pinned (OpenSpec.ofChange fnExactBuildFlagSpec)

/-- ITS FALSE NEIGHBOUR: 'it returns false'. Refute it at one input. -/
def fnExactBuildFlagWrong : ChangeSpec := { name := "fnExactBuildFlag", fn := fun _ => fun
  | [d1, d2] => { results := [.lit (.bool false)], args := [d1, d2] }
  | _ => none }
def FnExactBuildFlagWrongFalsely : Prop := fnExactBuildFlagRow.holds Try.pinned (OpenSpec.ofChange fnExactBuildFlagWrong)

/-- 'laws.FnMembersIn': WHATEVER THE INPUT: true; the input reads as it did. -/
def fnMembersInSpec : ChangeSpec := { name := "fnMembersIn", fn := fun _ => fun
  | [d] => { results := [.lit (.bool true)], args := [d] }
  | _ => none }
def fnMembersInRow : OpenClaim := { program := "ytjihhiadjljofaa", sum := "3afdb88f8100dc7cb4cd45a23ea4feeeb84d671e3cf03519863305292e2a4f66", func := "loop.example/namedflags/laws.FnMembersIn", spec := "fnMembersIn", unfollowed := true, recurses := true, apart := false }
def FnMembersInSaid : Prop := fnMembersInRow.holds Try.pinned (OpenSpec.ofChange fnMembersInSpec)

/-- ITS FALSE NEIGHBOUR: 'it returns false'. Refute it at one input. -/
def fnMembersInWrong : ChangeSpec := { name := "fnMembersIn", fn := fun _ => fun
  | [d] => { results := [.lit (.bool false)], args := [d] }
  | _ => none }
def FnMembersInWrongFalsely : Prop := fnMembersInRow.holds Try.pinned (OpenSpec.ofChange fnMembersInWrong)

/- THE SECOND FORM. 'bulk': how many values and letters a reading holds, each counted each time it is reached (what is shared counts as often as it is met; a slice's spare places count too). A statement '..UptoSaid' is the law's where the arguments, and the package variables that the reading takes, are together of bulk at most 1048576: NARROWER than '..Said'. Prove '..Said' where nothing that the law and all that it calls make is longer than what came in: it says more and counts as full. Else prove '..UptoSaid'. A law counts once. -/
mutual
def uptoBulk {H : Type} : DataW H → Nat
  | .lit (.string bytes) => bytes.length + 1
  | .lit _ => 1
  | .nil => 1
  | .ptr d => uptoBulk d + 1
  | .slice elems spare => uptoBulkAll elems + uptoBulkAll spare + 1
  | .agg parts => uptoBulkAll parts + 1
  | .iface _ d => uptoBulk d + 1
  | .map entries => uptoBulkEntries entries + 1
  | .held _ => 1
def uptoBulkAll {H : Type} : List (DataW H) → Nat
  | [] => 0
  | d :: r => uptoBulk d + uptoBulkAll r
def uptoBulkEntries {H : Type} : List (Lit × DataW H) → Nat
  | [] => 0
  | x :: r => uptoBulkEntry x + uptoBulkEntries r
def uptoBulkEntry {H : Type} : Lit × DataW H → Nat
  | (.string bytes, d) => bytes.length + uptoBulk d + 1
  | (_, d) => uptoBulk d + 1
 end
def uptoSmall : (H : Type) → List (DataW H) → Bool := fun _ ds => decide (uptoBulkAll ds ≤ 1048576)
def OpenSpec.upto (s : _root_.Go.ChangeSpec) : _root_.Go.OpenSpec := { _root_.Go.OpenSpec.ofChange s with cond := some uptoSmall }

/-- 'laws.FnFirstMissed', WHERE WHAT IT READS IS OF BULK AT MOST 1048576: true; the input reads as it did. -/
def fnFirstMissedUptoRow : OpenClaim := { program := "ytjihhiadjljofaa", sum := "3afdb88f8100dc7cb4cd45a23ea4feeeb84d671e3cf03519863305292e2a4f66", func := "loop.example/namedflags/laws.FnFirstMissed", spec := "fnFirstMissed", unfollowed := true, recurses := true, apart := false, narrowed := true }
def FnFirstMissedUptoSaid : Prop := fnFirstMissedUptoRow.holds Try.pinned (OpenSpec.upto fnFirstMissedSpec)

/-- 'laws.FnBuildFlag', WHERE WHAT IT READS IS OF BULK AT MOST 1048576: true; the input reads as it did. -/
def fnBuildFlagUptoRow : OpenClaim := { program := "ytjihhiadjljofaa", sum := "3afdb88f8100dc7cb4cd45a23ea4feeeb84d671e3cf03519863305292e2a4f66", func := "loop.example/namedflags/laws.FnBuildFlag", spec := "fnBuildFlag", unfollowed := true, recurses := true, apart := false, narrowed := true }
def FnBuildFlagUptoSaid : Prop := fnBuildFlagUptoRow.holds Try.pinned (OpenSpec.upto fnBuildFlagSpec)

/-- 'laws.FnExactBuildFlag', WHERE WHAT IT READS IS OF BULK AT MOST 1048576: true; the input reads as it did. -/
def fnExactBuildFlagUptoRow : OpenClaim := { program := "ytjihhiadjljofaa", sum := "3afdb88f8100dc7cb4cd45a23ea4feeeb84d671e3cf03519863305292e2a4f66", func := "loop.example/namedflags/laws.FnExactBuildFlag", spec := "fnExactBuildFlag", unfollowed := true, recurses := true, apart := false, narrowed := true }
def FnExactBuildFlagUptoSaid : Prop := fnExactBuildFlagUptoRow.holds Try.pinned (OpenSpec.upto fnExactBuildFlagSpec)

/-- 'laws.FnMembersIn', WHERE WHAT IT READS IS OF BULK AT MOST 1048576: true; the input reads as it did. -/
def fnMembersInUptoRow : OpenClaim := { program := "ytjihhiadjljofaa", sum := "3afdb88f8100dc7cb4cd45a23ea4feeeb84d671e3cf03519863305292e2a4f66", func := "loop.example/namedflags/laws.FnMembersIn", spec := "fnMembersIn", unfollowed := true, recurses := true, apart := false, narrowed := true }
def FnMembersInUptoSaid : Prop := fnMembersInUptoRow.holds Try.pinned (OpenSpec.upto fnMembersInSpec)

end Rows
end Go.Proofs.Ytjihhiadjljofaa
