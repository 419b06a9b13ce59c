/-
  No cell of these rows narrows 'for every input' (looked for: loops, veiled, ifaces, maps, wideKeys, modest, calm, conditions, laid).
  DERIVED. THE GIVEN ROWS OF THIS SEAT. 12 by the template 'for every input the law returns true; each argument reads behind the call as it read before'; 0 by the template 'total and deterministic' (their statements: YtpfhlnhdlmeocaaTotals.lean).
  GIVEN WITH THE SEED: the statements are not yours to turn. If you find one false, say at which input.
  Laid BY PROGRAM, IN A SANDBOX (cutbox-rows.mjs): the forced cells as the released guide's own fill.sh prints them over the translation f4561e89fc99261b… (all of the seat's roots in one cut). By AI agents, Wed Nov 11 2026. No macro, syntax, notation, axiom, sorry.
-/
import Derived.Test.YtpfhlnhdlmeocaaChecked
import GoSem.Claim
import GoSem.ClaimJoined
import GoSem.ClaimMapViews
import Derived.JoinedTies
import Derived.KernelRfl
namespace Go.Proofs.Ytpfhlnhdlmeocaa
/- THE CELL 'sum', in the pinned program and in every row, IS THE sha256 OF THE DUMP (.gsa) THAT YtpfhlnhdlmeocaaProg.lean LOADS. Nothing in Lean hashes anything: it is a label: what it is worth is what the hold of that sum in a sandbox is worth. -/
noncomputable def Try.pinned : Pinned := { name := "ytpfhlnhdlmeocaa", sum := "f4561e89fc99261b96581edfa935919bc39f36ac4db8c0e9fc4079ef9b1d9870", checked := Try.checked }
namespace Rows
def none {H : Type} : Left H := { results := [], args := [] }

/-- 'laws.FnExactLooseBits': WHATEVER THE INPUT: true; the input reads as it did. -/
def fnExactLooseBitsSpec : ChangeSpec := { name := "fnExactLooseBits", fn := fun _ => fun
  | [d] => { results := [.lit (.bool true)], args := [d] }
  | _ => none }
def fnExactLooseBitsRow : OpenClaim := { program := "ytpfhlnhdlmeocaa", sum := "f4561e89fc99261b96581edfa935919bc39f36ac4db8c0e9fc4079ef9b1d9870", func := "loop.example/namedflags/laws.FnExactLooseBits", spec := "fnExactLooseBits", unfollowed := true, recurses := true, apart := false }
def FnExactLooseBitsSaid : Prop := fnExactLooseBitsRow.holds Try.pinned (OpenSpec.ofChange fnExactLooseBitsSpec)

/-- ITS FALSE NEIGHBOUR: 'it returns false'. Refute it at one input. -/
def fnExactLooseBitsWrong : ChangeSpec := { name := "fnExactLooseBits", fn := fun _ => fun
  | [d] => { results := [.lit (.bool false)], args := [d] }
  | _ => none }
def FnExactLooseBitsWrongFalsely : Prop := fnExactLooseBitsRow.holds Try.pinned (OpenSpec.ofChange fnExactLooseBitsWrong)

/-- 'laws.FnExactRestIn': WHATEVER THE INPUT: true; the input reads as it did. -/
def fnExactRestInSpec : ChangeSpec := { name := "fnExactRestIn", fn := fun _ => fun
  | [d1, d2] => { results := [.lit (.bool true)], args := [d1, d2] }
  | _ => none }
def fnExactRestInRow : OpenClaim := { program := "ytpfhlnhdlmeocaa", sum := "f4561e89fc99261b96581edfa935919bc39f36ac4db8c0e9fc4079ef9b1d9870", func := "loop.example/namedflags/laws.FnExactRestIn", spec := "fnExactRestIn", unfollowed := true, recurses := true, apart := false }
def FnExactRestInSaid : Prop := fnExactRestInRow.holds Try.pinned (OpenSpec.ofChange fnExactRestInSpec)

/-- ITS FALSE NEIGHBOUR: 'it returns false'. Refute it at one input. -/
def fnExactRestInWrong : ChangeSpec := { name := "fnExactRestIn", fn := fun _ => fun
  | [d1, d2] => { results := [.lit (.bool false)], args := [d1, d2] }
  | _ => none }
def FnExactRestInWrongFalsely : Prop := fnExactRestInRow.holds Try.pinned (OpenSpec.ofChange fnExactRestInWrong)

/-- 'laws.FnExactSinglesOf': WHATEVER THE INPUT: true; the input reads as it did. -/
def fnExactSinglesOfSpec : ChangeSpec := { name := "fnExactSinglesOf", fn := fun _ => fun
  | [d] => { results := [.lit (.bool true)], args := [d] }
  | _ => none }
def fnExactSinglesOfRow : OpenClaim := { program := "ytpfhlnhdlmeocaa", sum := "f4561e89fc99261b96581edfa935919bc39f36ac4db8c0e9fc4079ef9b1d9870", func := "loop.example/namedflags/laws.FnExactSinglesOf", spec := "fnExactSinglesOf", unfollowed := true, recurses := true, apart := false }
def FnExactSinglesOfSaid : Prop := fnExactSinglesOfRow.holds Try.pinned (OpenSpec.ofChange fnExactSinglesOfSpec)

/-- ITS FALSE NEIGHBOUR: 'it returns false'. Refute it at one input. -/
def fnExactSinglesOfWrong : ChangeSpec := { name := "fnExactSinglesOf", fn := fun _ => fun
  | [d] => { results := [.lit (.bool false)], args := [d] }
  | _ => none }
def FnExactSinglesOfWrongFalsely : Prop := fnExactSinglesOfRow.holds Try.pinned (OpenSpec.ofChange fnExactSinglesOfWrong)

/-- 'laws.FnCountBits': WHATEVER THE INPUT: true; the input reads as it did. -/
def fnCountBitsSpec : ChangeSpec := { name := "fnCountBits", fn := fun _ => fun
  | [d] => { results := [.lit (.bool true)], args := [d] }
  | _ => none }
def fnCountBitsRow : OpenClaim := { program := "ytpfhlnhdlmeocaa", sum := "f4561e89fc99261b96581edfa935919bc39f36ac4db8c0e9fc4079ef9b1d9870", func := "loop.example/namedflags/laws.FnCountBits", spec := "fnCountBits", unfollowed := true, recurses := true, apart := false }
def FnCountBitsSaid : Prop := fnCountBitsRow.holds Try.pinned (OpenSpec.ofChange fnCountBitsSpec)

/-- ITS FALSE NEIGHBOUR: 'it returns false'. Refute it at one input. -/
def fnCountBitsWrong : ChangeSpec := { name := "fnCountBits", fn := fun _ => fun
  | [d] => { results := [.lit (.bool false)], args := [d] }
  | _ => none }
def FnCountBitsWrongFalsely : Prop := fnCountBitsRow.holds Try.pinned (OpenSpec.ofChange fnCountBitsWrong)

/-- 'laws.FnNamesInOr': WHATEVER THE INPUT: true; the input reads as it did. -/
def fnNamesInOrSpec : ChangeSpec := { name := "fnNamesInOr", fn := fun _ => fun
  | [d] => { results := [.lit (.bool true)], args := [d] }
  | _ => none }
def fnNamesInOrRow : OpenClaim := { program := "ytpfhlnhdlmeocaa", sum := "f4561e89fc99261b96581edfa935919bc39f36ac4db8c0e9fc4079ef9b1d9870", func := "loop.example/namedflags/laws.FnNamesInOr", spec := "fnNamesInOr", unfollowed := true, recurses := true, apart := false }
def FnNamesInOrSaid : Prop := fnNamesInOrRow.holds Try.pinned (OpenSpec.ofChange fnNamesInOrSpec)

/-- ITS FALSE NEIGHBOUR: 'it returns false'. Refute it at one input. -/
def fnNamesInOrWrong : ChangeSpec := { name := "fnNamesInOr", fn := fun _ => fun
  | [d] => { results := [.lit (.bool false)], args := [d] }
  | _ => none }
def FnNamesInOrWrongFalsely : Prop := fnNamesInOrRow.holds Try.pinned (OpenSpec.ofChange fnNamesInOrWrong)

/-- 'laws.FnLooseBits': WHATEVER THE INPUT: true; the input reads as it did. -/
def fnLooseBitsSpec : ChangeSpec := { name := "fnLooseBits", fn := fun _ => fun
  | [d] => { results := [.lit (.bool true)], args := [d] }
  | _ => none }
def fnLooseBitsRow : OpenClaim := { program := "ytpfhlnhdlmeocaa", sum := "f4561e89fc99261b96581edfa935919bc39f36ac4db8c0e9fc4079ef9b1d9870", func := "loop.example/namedflags/laws.FnLooseBits", spec := "fnLooseBits", unfollowed := true, recurses := true, apart := false }
def FnLooseBitsSaid : Prop := fnLooseBitsRow.holds Try.pinned (OpenSpec.ofChange fnLooseBitsSpec)

/-- ITS FALSE NEIGHBOUR: 'it returns false'. Refute it at one input. -/
def fnLooseBitsWrong : ChangeSpec := { name := "fnLooseBits", fn := fun _ => fun
  | [d] => { results := [.lit (.bool false)], args := [d] }
  | _ => none }
def FnLooseBitsWrongFalsely : Prop := fnLooseBitsRow.holds Try.pinned (OpenSpec.ofChange fnLooseBitsWrong)

/-- 'laws.FnRestIn': WHATEVER THE INPUT: true; the input reads as it did. -/
def fnRestInSpec : ChangeSpec := { name := "fnRestIn", fn := fun _ => fun
  | [d] => { results := [.lit (.bool true)], args := [d] }
  | _ => none }
def fnRestInRow : OpenClaim := { program := "ytpfhlnhdlmeocaa", sum := "f4561e89fc99261b96581edfa935919bc39f36ac4db8c0e9fc4079ef9b1d9870", func := "loop.example/namedflags/laws.FnRestIn", spec := "fnRestIn", unfollowed := true, recurses := true, apart := false }
def FnRestInSaid : Prop := fnRestInRow.holds Try.pinned (OpenSpec.ofChange fnRestInSpec)

/-- ITS FALSE NEIGHBOUR: 'it returns false'. Refute it at one input. -/
def fnRestInWrong : ChangeSpec := { name := "fnRestIn", fn := fun _ => fun
  | [d] => { results := [.lit (.bool false)], args := [d] }
  | _ => none }
def FnRestInWrongFalsely : Prop := fnRestInRow.holds Try.pinned (OpenSpec.ofChange fnRestInWrong)

/-- 'laws.FnExactConvertValue': WHATEVER THE INPUT: true; the input reads as it did. -/
def fnExactConvertValueSpec : ChangeSpec := { name := "fnExactConvertValue", fn := fun _ => fun
  | [d1, d2, d3] => { results := [.lit (.bool true)], args := [d1, d2, d3] }
  | _ => none }
def fnExactConvertValueRow : OpenClaim := { program := "ytpfhlnhdlmeocaa", sum := "f4561e89fc99261b96581edfa935919bc39f36ac4db8c0e9fc4079ef9b1d9870", func := "loop.example/namedflags/laws.FnExactConvertValue", spec := "fnExactConvertValue", unfollowed := true, recurses := true, apart := false }
def FnExactConvertValueSaid : Prop := fnExactConvertValueRow.holds Try.pinned (OpenSpec.ofChange fnExactConvertValueSpec)

/-- ITS FALSE NEIGHBOUR: 'it returns false'. Refute it at one input. -/
def fnExactConvertValueWrong : ChangeSpec := { name := "fnExactConvertValue", fn := fun _ => fun
  | [d1, d2, d3] => { results := [.lit (.bool false)], args := [d1, d2, d3] }
  | _ => none }
def FnExactConvertValueWrongFalsely : Prop := fnExactConvertValueRow.holds Try.pinned (OpenSpec.ofChange fnExactConvertValueWrong)

/-- 'laws.FnExactNamesIn': WHATEVER THE INPUT: true; the input reads as it did. -/
def fnExactNamesInSpec : ChangeSpec := { name := "fnExactNamesIn", fn := fun _ => fun
  | [d1, d2] => { results := [.lit (.bool true)], args := [d1, d2] }
  | _ => none }
def fnExactNamesInRow : OpenClaim := { program := "ytpfhlnhdlmeocaa", sum := "f4561e89fc99261b96581edfa935919bc39f36ac4db8c0e9fc4079ef9b1d9870", func := "loop.example/namedflags/laws.FnExactNamesIn", spec := "fnExactNamesIn", unfollowed := true, recurses := true, apart := false }
def FnExactNamesInSaid : Prop := fnExactNamesInRow.holds Try.pinned (OpenSpec.ofChange fnExactNamesInSpec)

/-- ITS FALSE NEIGHBOUR: 'it returns false'. Refute it at one input. -/
def fnExactNamesInWrong : ChangeSpec := { name := "fnExactNamesIn", fn := fun _ => fun
  | [d1, d2] => { results := [.lit (.bool false)], args := [d1, d2] }
  | _ => none }
def FnExactNamesInWrongFalsely : Prop := fnExactNamesInRow.holds Try.pinned (OpenSpec.ofChange fnExactNamesInWrong)

/-- 'laws.FnConvertValue': WHATEVER THE INPUT: true; the input reads as it did. -/
def fnConvertValueSpec : ChangeSpec := { name := "fnConvertValue", fn := fun _ => fun
  | [d] => { results := [.lit (.bool true)], args := [d] }
  | _ => none }
def fnConvertValueRow : OpenClaim := { program := "ytpfhlnhdlmeocaa", sum := "f4561e89fc99261b96581edfa935919bc39f36ac4db8c0e9fc4079ef9b1d9870", func := "loop.example/namedflags/laws.FnConvertValue", spec := "fnConvertValue", unfollowed := true, recurses := true, apart := false }
def FnConvertValueSaid : Prop := fnConvertValueRow.holds Try.pinned (OpenSpec.ofChange fnConvertValueSpec)

/-- ITS FALSE NEIGHBOUR: 'it returns false'. Refute it at one input. -/
def fnConvertValueWrong : ChangeSpec := { name := "fnConvertValue", fn := fun _ => fun
  | [d] => { results := [.lit (.bool false)], args := [d] }
  | _ => none }
def FnConvertValueWrongFalsely : Prop := fnConvertValueRow.holds Try.pinned (OpenSpec.ofChange fnConvertValueWrong)

/-- 'laws.FnNamesIn': WHATEVER THE INPUT: true; the input reads as it did. -/
def fnNamesInSpec : ChangeSpec := { name := "fnNamesIn", fn := fun _ => fun
  | [d] => { results := [.lit (.bool true)], args := [d] }
  | _ => none }
def fnNamesInRow : OpenClaim := { program := "ytpfhlnhdlmeocaa", sum := "f4561e89fc99261b96581edfa935919bc39f36ac4db8c0e9fc4079ef9b1d9870", func := "loop.example/namedflags/laws.FnNamesIn", spec := "fnNamesIn", unfollowed := true, recurses := true, apart := false }
def FnNamesInSaid : Prop := fnNamesInRow.holds Try.pinned (OpenSpec.ofChange fnNamesInSpec)

/-- ITS FALSE NEIGHBOUR: 'it returns false'. Refute it at one input. -/
def fnNamesInWrong : ChangeSpec := { name := "fnNamesIn", fn := fun _ => fun
  | [d] => { results := [.lit (.bool false)], args := [d] }
  | _ => none }
def FnNamesInWrongFalsely : Prop := fnNamesInRow.holds Try.pinned (OpenSpec.ofChange fnNamesInWrong)

/-- 'laws.FnConvertValueOr': WHATEVER THE INPUT: true; the input reads as it did. -/
def fnConvertValueOrSpec : ChangeSpec := { name := "fnConvertValueOr", fn := fun _ => fun
  | [d] => { results := [.lit (.bool true)], args := [d] }
  | _ => none }
def fnConvertValueOrRow : OpenClaim := { program := "ytpfhlnhdlmeocaa", sum := "f4561e89fc99261b96581edfa935919bc39f36ac4db8c0e9fc4079ef9b1d9870", func := "loop.example/namedflags/laws.FnConvertValueOr", spec := "fnConvertValueOr", unfollowed := true, recurses := true, apart := false }
def FnConvertValueOrSaid : Prop := fnConvertValueOrRow.holds Try.pinned (OpenSpec.ofChange fnConvertValueOrSpec)

/-- ITS FALSE NEIGHBOUR: 'it returns false'. Refute it at one input. -/
def fnConvertValueOrWrong : ChangeSpec := { name := "fnConvertValueOr", fn := fun _ => fun
  | [d] => { results := [.lit (.bool false)], args := [d] }
  | _ => none }
def FnConvertValueOrWrongFalsely : Prop := fnConvertValueOrRow.holds Try.pinned (OpenSpec.ofChange fnConvertValueOrWrong)

/- THE SECOND FORM. 'bulk': how many values and letters a reading holds, each counted each time it is reached (what is shared counts as often as it is met; a slice's spare places count too). A statement '..UptoSaid' is the law's where the arguments, and the package variables that the reading takes, are together of bulk at most 1048576: NARROWER than '..Said'. Prove '..Said' where nothing that the law and all that it calls make is longer than what came in: it says more and counts as full. Else prove '..UptoSaid'. A law counts once. -/
mutual
def uptoBulk {H : Type} : DataW H → Nat
  | .lit (.string bytes) => bytes.length + 1
  | .lit _ => 1
  | .nil => 1
  | .ptr d => uptoBulk d + 1
  | .slice elems spare => uptoBulkAll elems + uptoBulkAll spare + 1
  | .agg parts => uptoBulkAll parts + 1
  | .iface _ d => uptoBulk d + 1
  | .map entries => uptoBulkEntries entries + 1
  | .held _ => 1
def uptoBulkAll {H : Type} : List (DataW H) → Nat
  | [] => 0
  | d :: r => uptoBulk d + uptoBulkAll r
def uptoBulkEntries {H : Type} : List (Lit × DataW H) → Nat
  | [] => 0
  | x :: r => uptoBulkEntry x + uptoBulkEntries r
def uptoBulkEntry {H : Type} : Lit × DataW H → Nat
  | (.string bytes, d) => bytes.length + uptoBulk d + 1
  | (_, d) => uptoBulk d + 1
 end
def uptoSmall : (H : Type) → List (DataW H) → Bool := fun _ ds => decide (uptoBulkAll ds ≤ 1048576)
def OpenSpec.upto (s : _root_.Go.ChangeSpec) : _root_.Go.OpenSpec := { _root_.Go.OpenSpec.ofChange s with cond := some uptoSmall }

/-- 'laws.FnExactLooseBits', WHERE WHAT IT READS IS OF BULK AT MOST 1048576: true; the input reads as it did. -/
def fnExactLooseBitsUptoRow : OpenClaim := { program := "ytpfhlnhdlmeocaa", sum := "f4561e89fc99261b96581edfa935919bc39f36ac4db8c0e9fc4079ef9b1d9870", func := "loop.example/namedflags/laws.FnExactLooseBits", spec := "fnExactLooseBits", unfollowed := true, recurses := true, apart := false, narrowed := true }
def FnExactLooseBitsUptoSaid : Prop := fnExactLooseBitsUptoRow.holds Try.pinned (OpenSpec.upto fnExactLooseBitsSpec)

/-- 'laws.FnExactRestIn', WHERE WHAT IT READS IS OF BULK AT MOST 1048576: true; the input reads as it did. -/
def fnExactRestInUptoRow : OpenClaim := { program := "ytpfhlnhdlmeocaa", sum := "f4561e89fc99261b96581edfa935919bc39f36ac4db8c0e9fc4079ef9b1d9870", func := "loop.example/namedflags/laws.FnExactRestIn", spec := "fnExactRestIn", unfollowed := true, recurses := true, apart := false, narrowed := true }
def FnExactRestInUptoSaid : Prop := fnExactRestInUptoRow.holds Try.pinned (OpenSpec.upto fnExactRestInSpec)

/-- 'laws.FnExactSinglesOf', WHERE WHAT IT READS IS OF BULK AT MOST 1048576: true; the input reads as it did. -/
def fnExactSinglesOfUptoRow : OpenClaim := { program := "ytpfhlnhdlmeocaa", sum := "f4561e89fc99261b96581edfa935919bc39f36ac4db8c0e9fc4079ef9b1d9870", func := "loop.example/namedflags/laws.FnExactSinglesOf", spec := "fnExactSinglesOf", unfollowed := true, recurses := true, apart := false, narrowed := true }
def FnExactSinglesOfUptoSaid : Prop := fnExactSinglesOfUptoRow.holds Try.pinned (OpenSpec.upto fnExactSinglesOfSpec)

/-- 'laws.FnCountBits', WHERE WHAT IT READS IS OF BULK AT MOST 1048576: true; the input reads as it did. -/
def fnCountBitsUptoRow : OpenClaim := { program := "ytpfhlnhdlmeocaa", sum := "f4561e89fc99261b96581edfa935919bc39f36ac4db8c0e9fc4079ef9b1d9870", func := "loop.example/namedflags/laws.FnCountBits", spec := "fnCountBits", unfollowed := true, recurses := true, apart := false, narrowed := true }
def FnCountBitsUptoSaid : Prop := fnCountBitsUptoRow.holds Try.pinned (OpenSpec.upto fnCountBitsSpec)

/-- 'laws.FnNamesInOr', WHERE WHAT IT READS IS OF BULK AT MOST 1048576: true; the input reads as it did. -/
def fnNamesInOrUptoRow : OpenClaim := { program := "ytpfhlnhdlmeocaa", sum := "f4561e89fc99261b96581edfa935919bc39f36ac4db8c0e9fc4079ef9b1d9870", func := "loop.example/namedflags/laws.FnNamesInOr", spec := "fnNamesInOr", unfollowed := true, recurses := true, apart := false, narrowed := true }
def FnNamesInOrUptoSaid : Prop := fnNamesInOrUptoRow.holds Try.pinned (OpenSpec.upto fnNamesInOrSpec)

/-- 'laws.FnLooseBits', WHERE WHAT IT READS IS OF BULK AT MOST 1048576: true; the input reads as it did. -/
def fnLooseBitsUptoRow : OpenClaim := { program := "ytpfhlnhdlmeocaa", sum := "f4561e89fc99261b96581edfa935919bc39f36ac4db8c0e9fc4079ef9b1d9870", func := "loop.example/namedflags/laws.FnLooseBits", spec := "fnLooseBits", unfollowed := true, recurses := true, apart := false, narrowed := true }
def FnLooseBitsUptoSaid : Prop := fnLooseBitsUptoRow.holds Try.pinned (OpenSpec.upto fnLooseBitsSpec)

/-- 'laws.FnRestIn', WHERE WHAT IT READS IS OF BULK AT MOST 1048576: true; the input reads as it did. -/
def fnRestInUptoRow : OpenClaim := { program := "ytpfhlnhdlmeocaa", sum := "f4561e89fc99261b96581edfa935919bc39f36ac4db8c0e9fc4079ef9b1d9870", func := "loop.example/namedflags/laws.FnRestIn", spec := "fnRestIn", unfollowed := true, recurses := true, apart := false, narrowed := true }
def FnRestInUptoSaid : Prop := fnRestInUptoRow.holds Try.pinned (OpenSpec.upto fnRestInSpec)

/-- 'laws.FnExactConvertValue', WHERE WHAT IT READS IS OF BULK AT MOST 1048576: true; the input reads as it did. -/
def fnExactConvertValueUptoRow : OpenClaim := { program := "ytpfhlnhdlmeocaa", sum := "f4561e89fc99261b96581edfa935919bc39f36ac4db8c0e9fc4079ef9b1d9870", func := "loop.example/namedflags/laws.FnExactConvertValue", spec := "fnExactConvertValue", unfollowed := true, recurses := true, apart := false, narrowed := true }
def FnExactConvertValueUptoSaid : Prop := fnExactConvertValueUptoRow.holds Try.pinned (OpenSpec.upto fnExactConvertValueSpec)

/-- 'laws.FnExactNamesIn', WHERE WHAT IT READS IS OF BULK AT MOST 1048576: true; the input reads as it did. -/
def fnExactNamesInUptoRow : OpenClaim := { program := "ytpfhlnhdlmeocaa", sum := "f4561e89fc99261b96581edfa935919bc39f36ac4db8c0e9fc4079ef9b1d9870", func := "loop.example/namedflags/laws.FnExactNamesIn", spec := "fnExactNamesIn", unfollowed := true, recurses := true, apart := false, narrowed := true }
def FnExactNamesInUptoSaid : Prop := fnExactNamesInUptoRow.holds Try.pinned (OpenSpec.upto fnExactNamesInSpec)

/-- 'laws.FnConvertValue', WHERE WHAT IT READS IS OF BULK AT MOST 1048576: true; the input reads as it did. -/
def fnConvertValueUptoRow : OpenClaim := { program := "ytpfhlnhdlmeocaa", sum := "f4561e89fc99261b96581edfa935919bc39f36ac4db8c0e9fc4079ef9b1d9870", func := "loop.example/namedflags/laws.FnConvertValue", spec := "fnConvertValue", unfollowed := true, recurses := true, apart := false, narrowed := true }
def FnConvertValueUptoSaid : Prop := fnConvertValueUptoRow.holds Try.pinned (OpenSpec.upto fnConvertValueSpec)

/-- 'laws.FnNamesIn', WHERE WHAT IT READS IS OF BULK AT MOST 1048576: true; the input reads as it did. -/
def fnNamesInUptoRow : OpenClaim := { program := "ytpfhlnhdlmeocaa", sum := "f4561e89fc99261b96581edfa935919bc39f36ac4db8c0e9fc4079ef9b1d9870", func := "loop.example/namedflags/laws.FnNamesIn", spec := "fnNamesIn", unfollowed := true, recurses := true, apart := false, narrowed := true }
def FnNamesInUptoSaid : Prop := fnNamesInUptoRow.holds Try.pinned (OpenSpec.upto fnNamesInSpec)

/-- 'laws.FnConvertValueOr', WHERE WHAT IT READS IS OF BULK AT MOST 1048576: true; the input reads as it did. -/
def fnConvertValueOrUptoRow : OpenClaim := { program := "ytpfhlnhdlmeocaa", sum := "f4561e89fc99261b96581edfa935919bc39f36ac4db8c0e9fc4079ef9b1d9870", func := "loop.example/namedflags/laws.FnConvertValueOr", spec := "fnConvertValueOr", unfollowed := true, recurses := true, apart := false, narrowed := true }
def FnConvertValueOrUptoSaid : Prop := fnConvertValueOrUptoRow.holds Try.pinned (OpenSpec.upto fnConvertValueOrSpec)

end Rows
end Go.Proofs.Ytpfhlnhdlmeocaa
