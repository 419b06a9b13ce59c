/-
  No cell of these rows narrows 'for every input' (looked for: loops, veiled, ifaces, maps, wideKeys, modest, calm, conditions, laid).
  DERIVED. THE GIVEN ROWS OF THIS SEAT. 10 by the template 'for every input the law returns true; each argument reads behind the call as it read before'; 0 by the template 'total and deterministic' (their statements: YtehcdfddbnhniaaTotals.lean).
  GIVEN WITH THE SEED: the statements are not yours to turn. If you find one false, say at which input.
  Laid BY PROGRAM, IN A SANDBOX (cutbox-rows.mjs): the forced cells as the released guide's own fill.sh prints them over the translation a8ad92b7e1718782… (all of the seat's roots in one cut). By AI agents, Wed Nov 11 2026. No macro, syntax, notation, axiom, sorry.
-/
import Derived.Test.YtehcdfddbnhniaaChecked
import GoSem.Claim
import GoSem.ClaimJoined
import GoSem.ClaimMapViews
import Derived.JoinedTies
import Derived.KernelRfl
namespace Go.Proofs.Ytehcdfddbnhniaa
/- THE CELL 'sum', in the pinned program and in every row, IS THE sha256 OF THE DUMP (.gsa) THAT YtehcdfddbnhniaaProg.lean LOADS. Nothing in Lean hashes anything: it is a label: what it is worth is what the hold of that sum in a sandbox is worth. -/
noncomputable def Try.pinned : Pinned := { name := "ytehcdfddbnhniaa", sum := "a8ad92b7e1718782b6ebf3b670e24e1bf7624583761eda2d267fdef3e040d464", checked := Try.checked }
namespace Rows
def none {H : Type} : Left H := { results := [], args := [] }

/-- 'laws.FnGreatestArms': WHATEVER THE INPUT: true; the input reads as it did. -/
def fnGreatestArmsSpec : ChangeSpec := { name := "fnGreatestArms", fn := fun _ => fun
  | [d] => { results := [.lit (.bool true)], args := [d] }
  | _ => none }
def fnGreatestArmsRow : OpenClaim := { program := "ytehcdfddbnhniaa", sum := "a8ad92b7e1718782b6ebf3b670e24e1bf7624583761eda2d267fdef3e040d464", func := "loop.example/namedflags/laws.FnGreatestArms", spec := "fnGreatestArms", unfollowed := true, recurses := true, apart := false }
def FnGreatestArmsSaid : Prop := fnGreatestArmsRow.holds Try.pinned (OpenSpec.ofChange fnGreatestArmsSpec)

/-- ITS FALSE NEIGHBOUR: 'it returns false'. Refute it at one input. -/
def fnGreatestArmsWrong : ChangeSpec := { name := "fnGreatestArms", fn := fun _ => fun
  | [d] => { results := [.lit (.bool false)], args := [d] }
  | _ => none }
def FnGreatestArmsWrongFalsely : Prop := fnGreatestArmsRow.holds Try.pinned (OpenSpec.ofChange fnGreatestArmsWrong)

/-- 'laws.FnExactGreatestArms': WHATEVER THE INPUT: true; the input reads as it did. -/
def fnExactGreatestArmsSpec : ChangeSpec := { name := "fnExactGreatestArms", fn := fun _ => fun
  | [d1, d2] => { results := [.lit (.bool true)], args := [d1, d2] }
  | _ => none }
def fnExactGreatestArmsRow : OpenClaim := { program := "ytehcdfddbnhniaa", sum := "a8ad92b7e1718782b6ebf3b670e24e1bf7624583761eda2d267fdef3e040d464", func := "loop.example/namedflags/laws.FnExactGreatestArms", spec := "fnExactGreatestArms", unfollowed := true, recurses := true, apart := false }
def FnExactGreatestArmsSaid : Prop := fnExactGreatestArmsRow.holds Try.pinned (OpenSpec.ofChange fnExactGreatestArmsSpec)

/-- ITS FALSE NEIGHBOUR: 'it returns false'. Refute it at one input. -/
def fnExactGreatestArmsWrong : ChangeSpec := { name := "fnExactGreatestArms", fn := fun _ => fun
  | [d1, d2] => { results := [.lit (.bool false)], args := [d1, d2] }
  | _ => none }
def FnExactGreatestArmsWrongFalsely : Prop := fnExactGreatestArmsRow.holds Try.pinned (OpenSpec.ofChange fnExactGreatestArmsWrong)

/-- 'laws.FnDeadArms': WHATEVER THE INPUT: true; the input reads as it did. -/
def fnDeadArmsSpec : ChangeSpec := { name := "fnDeadArms", fn := fun _ => fun
  | [d] => { results := [.lit (.bool true)], args := [d] }
  | _ => none }
def fnDeadArmsRow : OpenClaim := { program := "ytehcdfddbnhniaa", sum := "a8ad92b7e1718782b6ebf3b670e24e1bf7624583761eda2d267fdef3e040d464", func := "loop.example/namedflags/laws.FnDeadArms", spec := "fnDeadArms", unfollowed := true, recurses := true, apart := false }
def FnDeadArmsSaid : Prop := fnDeadArmsRow.holds Try.pinned (OpenSpec.ofChange fnDeadArmsSpec)

/-- ITS FALSE NEIGHBOUR: 'it returns false'. Refute it at one input. -/
def fnDeadArmsWrong : ChangeSpec := { name := "fnDeadArms", fn := fun _ => fun
  | [d] => { results := [.lit (.bool false)], args := [d] }
  | _ => none }
def FnDeadArmsWrongFalsely : Prop := fnDeadArmsRow.holds Try.pinned (OpenSpec.ofChange fnDeadArmsWrong)

/-- 'laws.FnDeadArmsCover': WHATEVER THE INPUT: true; the input reads as it did. -/
def fnDeadArmsCoverSpec : ChangeSpec := { name := "fnDeadArmsCover", fn := fun _ => fun
  | [d] => { results := [.lit (.bool true)], args := [d] }
  | _ => none }
def fnDeadArmsCoverRow : OpenClaim := { program := "ytehcdfddbnhniaa", sum := "a8ad92b7e1718782b6ebf3b670e24e1bf7624583761eda2d267fdef3e040d464", func := "loop.example/namedflags/laws.FnDeadArmsCover", spec := "fnDeadArmsCover", unfollowed := true, recurses := true, apart := false }
def FnDeadArmsCoverSaid : Prop := fnDeadArmsCoverRow.holds Try.pinned (OpenSpec.ofChange fnDeadArmsCoverSpec)

/-- ITS FALSE NEIGHBOUR: 'it returns false'. Refute it at one input. -/
def fnDeadArmsCoverWrong : ChangeSpec := { name := "fnDeadArmsCover", fn := fun _ => fun
  | [d] => { results := [.lit (.bool false)], args := [d] }
  | _ => none }
def FnDeadArmsCoverWrongFalsely : Prop := fnDeadArmsCoverRow.holds Try.pinned (OpenSpec.ofChange fnDeadArmsCoverWrong)

/-- 'laws.FnExactDeadArms': WHATEVER THE INPUT: true; the input reads as it did. -/
def fnExactDeadArmsSpec : ChangeSpec := { name := "fnExactDeadArms", fn := fun _ => fun
  | [d1, d2] => { results := [.lit (.bool true)], args := [d1, d2] }
  | _ => none }
def fnExactDeadArmsRow : OpenClaim := { program := "ytehcdfddbnhniaa", sum := "a8ad92b7e1718782b6ebf3b670e24e1bf7624583761eda2d267fdef3e040d464", func := "loop.example/namedflags/laws.FnExactDeadArms", spec := "fnExactDeadArms", unfollowed := true, recurses := true, apart := false }
def FnExactDeadArmsSaid : Prop := fnExactDeadArmsRow.holds Try.pinned (OpenSpec.ofChange fnExactDeadArmsSpec)

/-- ITS FALSE NEIGHBOUR: 'it returns false'. Refute it at one input. -/
def fnExactDeadArmsWrong : ChangeSpec := { name := "fnExactDeadArms", fn := fun _ => fun
  | [d1, d2] => { results := [.lit (.bool false)], args := [d1, d2] }
  | _ => none }
def FnExactDeadArmsWrongFalsely : Prop := fnExactDeadArmsRow.holds Try.pinned (OpenSpec.ofChange fnExactDeadArmsWrong)

/-- 'laws.FnSetOf': WHATEVER THE INPUT: true; the input reads as it did. -/
def fnSetOfSpec : ChangeSpec := { name := "fnSetOf", fn := fun _ => fun
  | [d] => { results := [.lit (.bool true)], args := [d] }
  | _ => none }
def fnSetOfRow : OpenClaim := { program := "ytehcdfddbnhniaa", sum := "a8ad92b7e1718782b6ebf3b670e24e1bf7624583761eda2d267fdef3e040d464", func := "loop.example/namedflags/laws.FnSetOf", spec := "fnSetOf", unfollowed := true, recurses := true, apart := false }
def FnSetOfSaid : Prop := fnSetOfRow.holds Try.pinned (OpenSpec.ofChange fnSetOfSpec)

/-- ITS FALSE NEIGHBOUR: 'it returns false'. Refute it at one input. -/
def fnSetOfWrong : ChangeSpec := { name := "fnSetOf", fn := fun _ => fun
  | [d] => { results := [.lit (.bool false)], args := [d] }
  | _ => none }
def FnSetOfWrongFalsely : Prop := fnSetOfRow.holds Try.pinned (OpenSpec.ofChange fnSetOfWrong)

/-- 'laws.FnExactMembersIn': WHATEVER THE INPUT: true; the input reads as it did. -/
def fnExactMembersInSpec : ChangeSpec := { name := "fnExactMembersIn", fn := fun _ => fun
  | [d1, d2] => { results := [.lit (.bool true)], args := [d1, d2] }
  | _ => none }
def fnExactMembersInRow : OpenClaim := { program := "ytehcdfddbnhniaa", sum := "a8ad92b7e1718782b6ebf3b670e24e1bf7624583761eda2d267fdef3e040d464", func := "loop.example/namedflags/laws.FnExactMembersIn", spec := "fnExactMembersIn", unfollowed := true, recurses := true, apart := false }
def FnExactMembersInSaid : Prop := fnExactMembersInRow.holds Try.pinned (OpenSpec.ofChange fnExactMembersInSpec)

/-- ITS FALSE NEIGHBOUR: 'it returns false'. Refute it at one input. -/
def fnExactMembersInWrong : ChangeSpec := { name := "fnExactMembersIn", fn := fun _ => fun
  | [d1, d2] => { results := [.lit (.bool false)], args := [d1, d2] }
  | _ => none }
def FnExactMembersInWrongFalsely : Prop := fnExactMembersInRow.holds Try.pinned (OpenSpec.ofChange fnExactMembersInWrong)

/-- 'laws.FnSinglesOf': WHATEVER THE INPUT: true; the input reads as it did. -/
def fnSinglesOfSpec : ChangeSpec := { name := "fnSinglesOf", fn := fun _ => fun
  | [d] => { results := [.lit (.bool true)], args := [d] }
  | _ => none }
def fnSinglesOfRow : OpenClaim := { program := "ytehcdfddbnhniaa", sum := "a8ad92b7e1718782b6ebf3b670e24e1bf7624583761eda2d267fdef3e040d464", func := "loop.example/namedflags/laws.FnSinglesOf", spec := "fnSinglesOf", unfollowed := true, recurses := true, apart := false }
def FnSinglesOfSaid : Prop := fnSinglesOfRow.holds Try.pinned (OpenSpec.ofChange fnSinglesOfSpec)

/-- ITS FALSE NEIGHBOUR: 'it returns false'. Refute it at one input. -/
def fnSinglesOfWrong : ChangeSpec := { name := "fnSinglesOf", fn := fun _ => fun
  | [d] => { results := [.lit (.bool false)], args := [d] }
  | _ => none }
def FnSinglesOfWrongFalsely : Prop := fnSinglesOfRow.holds Try.pinned (OpenSpec.ofChange fnSinglesOfWrong)

/-- 'laws.FnComposedOf': WHATEVER THE INPUT: true; the input reads as it did. -/
def fnComposedOfSpec : ChangeSpec := { name := "fnComposedOf", fn := fun _ => fun
  | [d] => { results := [.lit (.bool true)], args := [d] }
  | _ => none }
def fnComposedOfRow : OpenClaim := { program := "ytehcdfddbnhniaa", sum := "a8ad92b7e1718782b6ebf3b670e24e1bf7624583761eda2d267fdef3e040d464", func := "loop.example/namedflags/laws.FnComposedOf", spec := "fnComposedOf", unfollowed := true, recurses := true, apart := false }
def FnComposedOfSaid : Prop := fnComposedOfRow.holds Try.pinned (OpenSpec.ofChange fnComposedOfSpec)

/-- ITS FALSE NEIGHBOUR: 'it returns false'. Refute it at one input. -/
def fnComposedOfWrong : ChangeSpec := { name := "fnComposedOf", fn := fun _ => fun
  | [d] => { results := [.lit (.bool false)], args := [d] }
  | _ => none }
def FnComposedOfWrongFalsely : Prop := fnComposedOfRow.holds Try.pinned (OpenSpec.ofChange fnComposedOfWrong)

/-- 'laws.FnFittingNames': WHATEVER THE INPUT: true; the input reads as it did. -/
def fnFittingNamesSpec : ChangeSpec := { name := "fnFittingNames", fn := fun _ => fun
  | [d] => { results := [.lit (.bool true)], args := [d] }
  | _ => none }
def fnFittingNamesRow : OpenClaim := { program := "ytehcdfddbnhniaa", sum := "a8ad92b7e1718782b6ebf3b670e24e1bf7624583761eda2d267fdef3e040d464", func := "loop.example/namedflags/laws.FnFittingNames", spec := "fnFittingNames", unfollowed := true, recurses := true, apart := false }
def FnFittingNamesSaid : Prop := fnFittingNamesRow.holds Try.pinned (OpenSpec.ofChange fnFittingNamesSpec)

/-- ITS FALSE NEIGHBOUR: 'it returns false'. Refute it at one input. -/
def fnFittingNamesWrong : ChangeSpec := { name := "fnFittingNames", fn := fun _ => fun
  | [d] => { results := [.lit (.bool false)], args := [d] }
  | _ => none }
def FnFittingNamesWrongFalsely : Prop := fnFittingNamesRow.holds Try.pinned (OpenSpec.ofChange fnFittingNamesWrong)

/- THE SECOND FORM. 'bulk': how many values and letters a reading holds, each counted each time it is reached (what is shared counts as often as it is met; a slice's spare places count too). A statement '..UptoSaid' is the law's where the arguments, and the package variables that the reading takes, are together of bulk at most 1048576: NARROWER than '..Said'. Prove '..Said' where nothing that the law and all that it calls make is longer than what came in: it says more and counts as full. Else prove '..UptoSaid'. A law counts once. -/
mutual
def uptoBulk {H : Type} : DataW H → Nat
  | .lit (.string bytes) => bytes.length + 1
  | .lit _ => 1
  | .nil => 1
  | .ptr d => uptoBulk d + 1
  | .slice elems spare => uptoBulkAll elems + uptoBulkAll spare + 1
  | .agg parts => uptoBulkAll parts + 1
  | .iface _ d => uptoBulk d + 1
  | .map entries => uptoBulkEntries entries + 1
  | .held _ => 1
def uptoBulkAll {H : Type} : List (DataW H) → Nat
  | [] => 0
  | d :: r => uptoBulk d + uptoBulkAll r
def uptoBulkEntries {H : Type} : List (Lit × DataW H) → Nat
  | [] => 0
  | x :: r => uptoBulkEntry x + uptoBulkEntries r
def uptoBulkEntry {H : Type} : Lit × DataW H → Nat
  | (.string bytes, d) => bytes.length + uptoBulk d + 1
  | (_, d) => uptoBulk d + 1
 end
def uptoSmall : (H : Type) → List (DataW H) → Bool := fun _ ds => decide (uptoBulkAll ds ≤ 1048576)
def OpenSpec.upto (s : _root_.Go.ChangeSpec) : _root_.Go.OpenSpec := { _root_.Go.OpenSpec.ofChange s with cond := some uptoSmall }

/-- 'laws.FnGreatestArms', WHERE WHAT IT READS IS OF BULK AT MOST 1048576: true; the input reads as it did. -/
def fnGreatestArmsUptoRow : OpenClaim := { program := "ytehcdfddbnhniaa", sum := "a8ad92b7e1718782b6ebf3b670e24e1bf7624583761eda2d267fdef3e040d464", func := "loop.example/namedflags/laws.FnGreatestArms", spec := "fnGreatestArms", unfollowed := true, recurses := true, apart := false, narrowed := true }
def FnGreatestArmsUptoSaid : Prop := fnGreatestArmsUptoRow.holds Try.pinned (OpenSpec.upto fnGreatestArmsSpec)

/-- 'laws.FnExactGreatestArms', WHERE WHAT IT READS IS OF BULK AT MOST 1048576: true; the input reads as it did. -/
def fnExactGreatestArmsUptoRow : OpenClaim := { program := "ytehcdfddbnhniaa", sum := "a8ad92b7e1718782b6ebf3b670e24e1bf7624583761eda2d267fdef3e040d464", func := "loop.example/namedflags/laws.FnExactGreatestArms", spec := "fnExactGreatestArms", unfollowed := true, recurses := true, apart := false, narrowed := true }
def FnExactGreatestArmsUptoSaid : Prop := fnExactGreatestArmsUptoRow.holds Try.pinned (OpenSpec.upto fnExactGreatestArmsSpec)

/-- 'laws.FnDeadArms', WHERE WHAT IT READS IS OF BULK AT MOST 1048576: true; the input reads as it did. -/
def fnDeadArmsUptoRow : OpenClaim := { program := "ytehcdfddbnhniaa", sum := "a8ad92b7e1718782b6ebf3b670e24e1bf7624583761eda2d267fdef3e040d464", func := "loop.example/namedflags/laws.FnDeadArms", spec := "fnDeadArms", unfollowed := true, recurses := true, apart := false, narrowed := true }
def FnDeadArmsUptoSaid : Prop := fnDeadArmsUptoRow.holds Try.pinned (OpenSpec.upto fnDeadArmsSpec)

/-- 'laws.FnDeadArmsCover', WHERE WHAT IT READS IS OF BULK AT MOST 1048576: true; the input reads as it did. -/
def fnDeadArmsCoverUptoRow : OpenClaim := { program := "ytehcdfddbnhniaa", sum := "a8ad92b7e1718782b6ebf3b670e24e1bf7624583761eda2d267fdef3e040d464", func := "loop.example/namedflags/laws.FnDeadArmsCover", spec := "fnDeadArmsCover", unfollowed := true, recurses := true, apart := false, narrowed := true }
def FnDeadArmsCoverUptoSaid : Prop := fnDeadArmsCoverUptoRow.holds Try.pinned (OpenSpec.upto fnDeadArmsCoverSpec)

/-- 'laws.FnExactDeadArms', WHERE WHAT IT READS IS OF BULK AT MOST 1048576: true; the input reads as it did. -/
def fnExactDeadArmsUptoRow : OpenClaim := { program := "ytehcdfddbnhniaa", sum := "a8ad92b7e1718782b6ebf3b670e24e1bf7624583761eda2d267fdef3e040d464", func := "loop.example/namedflags/laws.FnExactDeadArms", spec := "fnExactDeadArms", unfollowed := true, recurses := true, apart := false, narrowed := true }
def FnExactDeadArmsUptoSaid : Prop := fnExactDeadArmsUptoRow.holds Try.pinned (OpenSpec.upto fnExactDeadArmsSpec)

/-- 'laws.FnSetOf', WHERE WHAT IT READS IS OF BULK AT MOST 1048576: true; the input reads as it did. -/
def fnSetOfUptoRow : OpenClaim := { program := "ytehcdfddbnhniaa", sum := "a8ad92b7e1718782b6ebf3b670e24e1bf7624583761eda2d267fdef3e040d464", func := "loop.example/namedflags/laws.FnSetOf", spec := "fnSetOf", unfollowed := true, recurses := true, apart := false, narrowed := true }
def FnSetOfUptoSaid : Prop := fnSetOfUptoRow.holds Try.pinned (OpenSpec.upto fnSetOfSpec)

/-- 'laws.FnExactMembersIn', WHERE WHAT IT READS IS OF BULK AT MOST 1048576: true; the input reads as it did. -/
def fnExactMembersInUptoRow : OpenClaim := { program := "ytehcdfddbnhniaa", sum := "a8ad92b7e1718782b6ebf3b670e24e1bf7624583761eda2d267fdef3e040d464", func := "loop.example/namedflags/laws.FnExactMembersIn", spec := "fnExactMembersIn", unfollowed := true, recurses := true, apart := false, narrowed := true }
def FnExactMembersInUptoSaid : Prop := fnExactMembersInUptoRow.holds Try.pinned (OpenSpec.upto fnExactMembersInSpec)

/-- 'laws.FnSinglesOf', WHERE WHAT IT READS IS OF BULK AT MOST 1048576: true; the input reads as it did. -/
def fnSinglesOfUptoRow : OpenClaim := { program := "ytehcdfddbnhniaa", sum := "a8ad92b7e1718782b6ebf3b670e24e1bf7624583761eda2d267fdef3e040d464", func := "loop.example/namedflags/laws.FnSinglesOf", spec := "fnSinglesOf", unfollowed := true, recurses := true, apart := false, narrowed := true }
def FnSinglesOfUptoSaid : Prop := fnSinglesOfUptoRow.holds Try.pinned (OpenSpec.upto fnSinglesOfSpec)

/-- 'laws.FnComposedOf', WHERE WHAT IT READS IS OF BULK AT MOST 1048576: true; the input reads as it did. -/
def fnComposedOfUptoRow : OpenClaim := { program := "ytehcdfddbnhniaa", sum := "a8ad92b7e1718782b6ebf3b670e24e1bf7624583761eda2d267fdef3e040d464", func := "loop.example/namedflags/laws.FnComposedOf", spec := "fnComposedOf", unfollowed := true, recurses := true, apart := false, narrowed := true }
def FnComposedOfUptoSaid : Prop := fnComposedOfUptoRow.holds Try.pinned (OpenSpec.upto fnComposedOfSpec)

/-- 'laws.FnFittingNames', WHERE WHAT IT READS IS OF BULK AT MOST 1048576: true; the input reads as it did. -/
def fnFittingNamesUptoRow : OpenClaim := { program := "ytehcdfddbnhniaa", sum := "a8ad92b7e1718782b6ebf3b670e24e1bf7624583761eda2d267fdef3e040d464", func := "loop.example/namedflags/laws.FnFittingNames", spec := "fnFittingNames", unfollowed := true, recurses := true, apart := false, narrowed := true }
def FnFittingNamesUptoSaid : Prop := fnFittingNamesUptoRow.holds Try.pinned (OpenSpec.upto fnFittingNamesSpec)

end Rows
end Go.Proofs.Ytehcdfddbnhniaa
