/-
  No cell of these rows narrows 'for every input' (looked for: loops, veiled, ifaces, maps, wideKeys, modest, calm, conditions, laid).
  DERIVED. THE GIVEN ROWS OF THIS SEAT. 12 by the template 'for every input the law returns true; each argument reads behind the call as it read before'; 0 by the template 'total and deterministic' (their statements: YtchdgmamkafcnaaTotals.lean).
  GIVEN WITH THE SEED: the statements are not yours to turn. If you find one false, say at which input.
  Laid BY PROGRAM, IN A SANDBOX (cutbox-rows.mjs): the forced cells as the released guide's own fill.sh prints them over the translation b48985a77c816efe… (all of the seat's roots in one cut). By AI agents, Wed Nov 11 2026. No macro, syntax, notation, axiom, sorry.
-/
import Derived.Test.YtchdgmamkafcnaaChecked
import GoSem.Claim
import GoSem.ClaimJoined
import GoSem.ClaimMapViews
import Derived.JoinedTies
import Derived.KernelRfl
namespace Go.Proofs.Ytchdgmamkafcnaa
/- THE CELL 'sum', in the pinned program and in every row, IS THE sha256 OF THE DUMP (.gsa) THAT YtchdgmamkafcnaaProg.lean LOADS. Nothing in Lean hashes anything: it is a label: what it is worth is what the hold of that sum in a sandbox is worth. -/
noncomputable def Try.pinned : Pinned := { name := "ytchdgmamkafcnaa", sum := "b48985a77c816efeb8ab9bfe1a0d3de625391295ef61e760ab29969972e4283f", checked := Try.checked }
namespace Rows
def none {H : Type} : Left H := { results := [], args := [] }

/-- 'laws.FnExactAreLetters': WHATEVER THE INPUT: true; the input reads as it did. -/
def fnExactAreLettersSpec : ChangeSpec := { name := "fnExactAreLetters", fn := fun _ => fun
  | [d1, d2] => { results := [.lit (.bool true)], args := [d1, d2] }
  | _ => none }
def fnExactAreLettersRow : OpenClaim := { program := "ytchdgmamkafcnaa", sum := "b48985a77c816efeb8ab9bfe1a0d3de625391295ef61e760ab29969972e4283f", func := "loop.example/g01316/laws.FnExactAreLetters", spec := "fnExactAreLetters", unfollowed := true, recurses := true, apart := false }
def FnExactAreLettersSaid : Prop := fnExactAreLettersRow.holds Try.pinned (OpenSpec.ofChange fnExactAreLettersSpec)

/-- ITS FALSE NEIGHBOUR: 'it returns false'. Refute it at one input. -/
def fnExactAreLettersWrong : ChangeSpec := { name := "fnExactAreLetters", fn := fun _ => fun
  | [d1, d2] => { results := [.lit (.bool false)], args := [d1, d2] }
  | _ => none }
def FnExactAreLettersWrongFalsely : Prop := fnExactAreLettersRow.holds Try.pinned (OpenSpec.ofChange fnExactAreLettersWrong)

/-- 'laws.FnExactStarLetters': WHATEVER THE INPUT: true; the input reads as it did. -/
def fnExactStarLettersSpec : ChangeSpec := { name := "fnExactStarLetters", fn := fun _ => fun
  | [d1, d2] => { results := [.lit (.bool true)], args := [d1, d2] }
  | _ => none }
def fnExactStarLettersRow : OpenClaim := { program := "ytchdgmamkafcnaa", sum := "b48985a77c816efeb8ab9bfe1a0d3de625391295ef61e760ab29969972e4283f", func := "loop.example/g01316/laws.FnExactStarLetters", spec := "fnExactStarLetters", apart := false }
def FnExactStarLettersSaid : Prop := fnExactStarLettersRow.holds Try.pinned (OpenSpec.ofChange fnExactStarLettersSpec)

/-- ITS FALSE NEIGHBOUR: 'it returns false'. Refute it at one input. -/
def fnExactStarLettersWrong : ChangeSpec := { name := "fnExactStarLetters", fn := fun _ => fun
  | [d1, d2] => { results := [.lit (.bool false)], args := [d1, d2] }
  | _ => none }
def FnExactStarLettersWrongFalsely : Prop := fnExactStarLettersRow.holds Try.pinned (OpenSpec.ofChange fnExactStarLettersWrong)

/-- 'laws.FnExactBackLetters': WHATEVER THE INPUT: true; the input reads as it did. -/
def fnExactBackLettersSpec : ChangeSpec := { name := "fnExactBackLetters", fn := fun _ => fun
  | [d1, d2] => { results := [.lit (.bool true)], args := [d1, d2] }
  | _ => none }
def fnExactBackLettersRow : OpenClaim := { program := "ytchdgmamkafcnaa", sum := "b48985a77c816efeb8ab9bfe1a0d3de625391295ef61e760ab29969972e4283f", func := "loop.example/g01316/laws.FnExactBackLetters", spec := "fnExactBackLetters", unfollowed := true, recurses := true, apart := false }
def FnExactBackLettersSaid : Prop := fnExactBackLettersRow.holds Try.pinned (OpenSpec.ofChange fnExactBackLettersSpec)

/-- ITS FALSE NEIGHBOUR: 'it returns false'. Refute it at one input. -/
def fnExactBackLettersWrong : ChangeSpec := { name := "fnExactBackLetters", fn := fun _ => fun
  | [d1, d2] => { results := [.lit (.bool false)], args := [d1, d2] }
  | _ => none }
def FnExactBackLettersWrongFalsely : Prop := fnExactBackLettersRow.holds Try.pinned (OpenSpec.ofChange fnExactBackLettersWrong)

/-- 'laws.FnExactAllByLetters': WHATEVER THE INPUT: true; the input reads as it did. -/
def fnExactAllByLettersSpec : ChangeSpec := { name := "fnExactAllByLetters", fn := fun _ => fun
  | [d1, d2] => { results := [.lit (.bool true)], args := [d1, d2] }
  | _ => none }
def fnExactAllByLettersRow : OpenClaim := { program := "ytchdgmamkafcnaa", sum := "b48985a77c816efeb8ab9bfe1a0d3de625391295ef61e760ab29969972e4283f", func := "loop.example/g01316/laws.FnExactAllByLetters", spec := "fnExactAllByLetters", unfollowed := true, recurses := true, apart := false }
def FnExactAllByLettersSaid : Prop := fnExactAllByLettersRow.holds Try.pinned (OpenSpec.ofChange fnExactAllByLettersSpec)

/-- ITS FALSE NEIGHBOUR: 'it returns false'. Refute it at one input. -/
def fnExactAllByLettersWrong : ChangeSpec := { name := "fnExactAllByLetters", fn := fun _ => fun
  | [d1, d2] => { results := [.lit (.bool false)], args := [d1, d2] }
  | _ => none }
def FnExactAllByLettersWrongFalsely : Prop := fnExactAllByLettersRow.holds Try.pinned (OpenSpec.ofChange fnExactAllByLettersWrong)

/-- 'laws.FnExactLettersOfCalls': WHATEVER THE INPUT: true; the input reads as it did. -/
def fnExactLettersOfCallsSpec : ChangeSpec := { name := "fnExactLettersOfCalls", fn := fun _ => fun
  | [d1, d2] => { results := [.lit (.bool true)], args := [d1, d2] }
  | _ => none }
def fnExactLettersOfCallsRow : OpenClaim := { program := "ytchdgmamkafcnaa", sum := "b48985a77c816efeb8ab9bfe1a0d3de625391295ef61e760ab29969972e4283f", func := "loop.example/g01316/laws.FnExactLettersOfCalls", spec := "fnExactLettersOfCalls", unfollowed := true, recurses := true, apart := false }
def FnExactLettersOfCallsSaid : Prop := fnExactLettersOfCallsRow.holds Try.pinned (OpenSpec.ofChange fnExactLettersOfCallsSpec)

/-- ITS FALSE NEIGHBOUR: 'it returns false'. Refute it at one input. -/
def fnExactLettersOfCallsWrong : ChangeSpec := { name := "fnExactLettersOfCalls", fn := fun _ => fun
  | [d1, d2] => { results := [.lit (.bool false)], args := [d1, d2] }
  | _ => none }
def FnExactLettersOfCallsWrongFalsely : Prop := fnExactLettersOfCallsRow.holds Try.pinned (OpenSpec.ofChange fnExactLettersOfCallsWrong)

/-- 'laws.FnExactLettersNeeded': WHATEVER THE INPUT: true; the input reads as it did. -/
def fnExactLettersNeededSpec : ChangeSpec := { name := "fnExactLettersNeeded", fn := fun _ => fun
  | [d1, d2] => { results := [.lit (.bool true)], args := [d1, d2] }
  | _ => none }
def fnExactLettersNeededRow : OpenClaim := { program := "ytchdgmamkafcnaa", sum := "b48985a77c816efeb8ab9bfe1a0d3de625391295ef61e760ab29969972e4283f", func := "loop.example/g01316/laws.FnExactLettersNeeded", spec := "fnExactLettersNeeded", unfollowed := true, recurses := true, apart := false }
def FnExactLettersNeededSaid : Prop := fnExactLettersNeededRow.holds Try.pinned (OpenSpec.ofChange fnExactLettersNeededSpec)

/-- ITS FALSE NEIGHBOUR: 'it returns false'. Refute it at one input. -/
def fnExactLettersNeededWrong : ChangeSpec := { name := "fnExactLettersNeeded", fn := fun _ => fun
  | [d1, d2] => { results := [.lit (.bool false)], args := [d1, d2] }
  | _ => none }
def FnExactLettersNeededWrongFalsely : Prop := fnExactLettersNeededRow.holds Try.pinned (OpenSpec.ofChange fnExactLettersNeededWrong)

/-- 'laws.FnExactCanAllHear': WHATEVER THE INPUT: true; the input reads as it did. -/
def fnExactCanAllHearSpec : ChangeSpec := { name := "fnExactCanAllHear", fn := fun _ => fun
  | [d1, d2] => { results := [.lit (.bool true)], args := [d1, d2] }
  | _ => none }
def fnExactCanAllHearRow : OpenClaim := { program := "ytchdgmamkafcnaa", sum := "b48985a77c816efeb8ab9bfe1a0d3de625391295ef61e760ab29969972e4283f", func := "loop.example/g01316/laws.FnExactCanAllHear", spec := "fnExactCanAllHear", unfollowed := true, recurses := true, apart := false }
def FnExactCanAllHearSaid : Prop := fnExactCanAllHearRow.holds Try.pinned (OpenSpec.ofChange fnExactCanAllHearSpec)

/-- ITS FALSE NEIGHBOUR: 'it returns false'. Refute it at one input. -/
def fnExactCanAllHearWrong : ChangeSpec := { name := "fnExactCanAllHear", fn := fun _ => fun
  | [d1, d2] => { results := [.lit (.bool false)], args := [d1, d2] }
  | _ => none }
def FnExactCanAllHearWrongFalsely : Prop := fnExactCanAllHearRow.holds Try.pinned (OpenSpec.ofChange fnExactCanAllHearWrong)

/-- 'laws.FnExactHeardFrom': WHATEVER THE INPUT: true; the input reads as it did. -/
def fnExactHeardFromSpec : ChangeSpec := { name := "fnExactHeardFrom", fn := fun _ => fun
  | [d1, d2, d3] => { results := [.lit (.bool true)], args := [d1, d2, d3] }
  | _ => none }
def fnExactHeardFromRow : OpenClaim := { program := "ytchdgmamkafcnaa", sum := "b48985a77c816efeb8ab9bfe1a0d3de625391295ef61e760ab29969972e4283f", func := "loop.example/g01316/laws.FnExactHeardFrom", spec := "fnExactHeardFrom", unfollowed := true, recurses := true, apart := false }
def FnExactHeardFromSaid : Prop := fnExactHeardFromRow.holds Try.pinned (OpenSpec.ofChange fnExactHeardFromSpec)

/-- ITS FALSE NEIGHBOUR: 'it returns false'. Refute it at one input. -/
def fnExactHeardFromWrong : ChangeSpec := { name := "fnExactHeardFrom", fn := fun _ => fun
  | [d1, d2, d3] => { results := [.lit (.bool false)], args := [d1, d2, d3] }
  | _ => none }
def FnExactHeardFromWrongFalsely : Prop := fnExactHeardFromRow.holds Try.pinned (OpenSpec.ofChange fnExactHeardFromWrong)

/-- 'laws.FnExactIdleLetters': WHATEVER THE INPUT: true; the input reads as it did. -/
def fnExactIdleLettersSpec : ChangeSpec := { name := "fnExactIdleLetters", fn := fun _ => fun
  | [d1, d2] => { results := [.lit (.bool true)], args := [d1, d2] }
  | _ => none }
def fnExactIdleLettersRow : OpenClaim := { program := "ytchdgmamkafcnaa", sum := "b48985a77c816efeb8ab9bfe1a0d3de625391295ef61e760ab29969972e4283f", func := "loop.example/g01316/laws.FnExactIdleLetters", spec := "fnExactIdleLetters", unfollowed := true, recurses := true, apart := false }
def FnExactIdleLettersSaid : Prop := fnExactIdleLettersRow.holds Try.pinned (OpenSpec.ofChange fnExactIdleLettersSpec)

/-- ITS FALSE NEIGHBOUR: 'it returns false'. Refute it at one input. -/
def fnExactIdleLettersWrong : ChangeSpec := { name := "fnExactIdleLetters", fn := fun _ => fun
  | [d1, d2] => { results := [.lit (.bool false)], args := [d1, d2] }
  | _ => none }
def FnExactIdleLettersWrongFalsely : Prop := fnExactIdleLettersRow.holds Try.pinned (OpenSpec.ofChange fnExactIdleLettersWrong)

/-- 'laws.FnExactKnownByLetters': WHATEVER THE INPUT: true; the input reads as it did. -/
def fnExactKnownByLettersSpec : ChangeSpec := { name := "fnExactKnownByLetters", fn := fun _ => fun
  | [d1, d2] => { results := [.lit (.bool true)], args := [d1, d2] }
  | _ => none }
def fnExactKnownByLettersRow : OpenClaim := { program := "ytchdgmamkafcnaa", sum := "b48985a77c816efeb8ab9bfe1a0d3de625391295ef61e760ab29969972e4283f", func := "loop.example/g01316/laws.FnExactKnownByLetters", spec := "fnExactKnownByLetters", unfollowed := true, recurses := true, apart := false }
def FnExactKnownByLettersSaid : Prop := fnExactKnownByLettersRow.holds Try.pinned (OpenSpec.ofChange fnExactKnownByLettersSpec)

/-- ITS FALSE NEIGHBOUR: 'it returns false'. Refute it at one input. -/
def fnExactKnownByLettersWrong : ChangeSpec := { name := "fnExactKnownByLetters", fn := fun _ => fun
  | [d1, d2] => { results := [.lit (.bool false)], args := [d1, d2] }
  | _ => none }
def FnExactKnownByLettersWrongFalsely : Prop := fnExactKnownByLettersRow.holds Try.pinned (OpenSpec.ofChange fnExactKnownByLettersWrong)

/-- 'laws.FnExactNeedlessLetters': WHATEVER THE INPUT: true; the input reads as it did. -/
def fnExactNeedlessLettersSpec : ChangeSpec := { name := "fnExactNeedlessLetters", fn := fun _ => fun
  | [d1, d2] => { results := [.lit (.bool true)], args := [d1, d2] }
  | _ => none }
def fnExactNeedlessLettersRow : OpenClaim := { program := "ytchdgmamkafcnaa", sum := "b48985a77c816efeb8ab9bfe1a0d3de625391295ef61e760ab29969972e4283f", func := "loop.example/g01316/laws.FnExactNeedlessLetters", spec := "fnExactNeedlessLetters", unfollowed := true, recurses := true, apart := false }
def FnExactNeedlessLettersSaid : Prop := fnExactNeedlessLettersRow.holds Try.pinned (OpenSpec.ofChange fnExactNeedlessLettersSpec)

/-- ITS FALSE NEIGHBOUR: 'it returns false'. Refute it at one input. -/
def fnExactNeedlessLettersWrong : ChangeSpec := { name := "fnExactNeedlessLetters", fn := fun _ => fun
  | [d1, d2] => { results := [.lit (.bool false)], args := [d1, d2] }
  | _ => none }
def FnExactNeedlessLettersWrongFalsely : Prop := fnExactNeedlessLettersRow.holds Try.pinned (OpenSpec.ofChange fnExactNeedlessLettersWrong)

/-- 'laws.FnExactSilentGroups': WHATEVER THE INPUT: true; the input reads as it did. -/
def fnExactSilentGroupsSpec : ChangeSpec := { name := "fnExactSilentGroups", fn := fun _ => fun
  | [d1, d2] => { results := [.lit (.bool true)], args := [d1, d2] }
  | _ => none }
def fnExactSilentGroupsRow : OpenClaim := { program := "ytchdgmamkafcnaa", sum := "b48985a77c816efeb8ab9bfe1a0d3de625391295ef61e760ab29969972e4283f", func := "loop.example/g01316/laws.FnExactSilentGroups", spec := "fnExactSilentGroups", unfollowed := true, recurses := true, apart := false }
def FnExactSilentGroupsSaid : Prop := fnExactSilentGroupsRow.holds Try.pinned (OpenSpec.ofChange fnExactSilentGroupsSpec)

/-- ITS FALSE NEIGHBOUR: 'it returns false'. Refute it at one input. -/
def fnExactSilentGroupsWrong : ChangeSpec := { name := "fnExactSilentGroups", fn := fun _ => fun
  | [d1, d2] => { results := [.lit (.bool false)], args := [d1, d2] }
  | _ => none }
def FnExactSilentGroupsWrongFalsely : Prop := fnExactSilentGroupsRow.holds Try.pinned (OpenSpec.ofChange fnExactSilentGroupsWrong)

/- THE SECOND FORM. 'bulk': how many values and letters a reading holds, each counted each time it is reached (what is shared counts as often as it is met; a slice's spare places count too). A statement '..UptoSaid' is the law's where the arguments, and the package variables that the reading takes, are together of bulk at most 1048576: NARROWER than '..Said'. Prove '..Said' where nothing that the law and all that it calls make is longer than what came in: it says more and counts as full. Else prove '..UptoSaid'. A law counts once. -/
mutual
def uptoBulk {H : Type} : DataW H → Nat
  | .lit (.string bytes) => bytes.length + 1
  | .lit _ => 1
  | .nil => 1
  | .ptr d => uptoBulk d + 1
  | .slice elems spare => uptoBulkAll elems + uptoBulkAll spare + 1
  | .agg parts => uptoBulkAll parts + 1
  | .iface _ d => uptoBulk d + 1
  | .map entries => uptoBulkEntries entries + 1
  | .held _ => 1
def uptoBulkAll {H : Type} : List (DataW H) → Nat
  | [] => 0
  | d :: r => uptoBulk d + uptoBulkAll r
def uptoBulkEntries {H : Type} : List (Lit × DataW H) → Nat
  | [] => 0
  | x :: r => uptoBulkEntry x + uptoBulkEntries r
def uptoBulkEntry {H : Type} : Lit × DataW H → Nat
  | (.string bytes, d) => bytes.length + uptoBulk d + 1
  | (_, d) => uptoBulk d + 1
 end
def uptoSmall : (H : Type) → List (DataW H) → Bool := fun _ ds => decide (uptoBulkAll ds ≤ 1048576)
def OpenSpec.upto (s : _root_.Go.ChangeSpec) : _root_.Go.OpenSpec := { _root_.Go.OpenSpec.ofChange s with cond := some uptoSmall }

/-- 'laws.FnExactAreLetters', WHERE WHAT IT READS IS OF BULK AT MOST 1048576: true; the input reads as it did. -/
def fnExactAreLettersUptoRow : OpenClaim := { program := "ytchdgmamkafcnaa", sum := "b48985a77c816efeb8ab9bfe1a0d3de625391295ef61e760ab29969972e4283f", func := "loop.example/g01316/laws.FnExactAreLetters", spec := "fnExactAreLetters", unfollowed := true, recurses := true, apart := false, narrowed := true }
def FnExactAreLettersUptoSaid : Prop := fnExactAreLettersUptoRow.holds Try.pinned (OpenSpec.upto fnExactAreLettersSpec)

/-- 'laws.FnExactStarLetters', WHERE WHAT IT READS IS OF BULK AT MOST 1048576: true; the input reads as it did. -/
def fnExactStarLettersUptoRow : OpenClaim := { program := "ytchdgmamkafcnaa", sum := "b48985a77c816efeb8ab9bfe1a0d3de625391295ef61e760ab29969972e4283f", func := "loop.example/g01316/laws.FnExactStarLetters", spec := "fnExactStarLetters", apart := false, narrowed := true }
def FnExactStarLettersUptoSaid : Prop := fnExactStarLettersUptoRow.holds Try.pinned (OpenSpec.upto fnExactStarLettersSpec)

/-- 'laws.FnExactBackLetters', WHERE WHAT IT READS IS OF BULK AT MOST 1048576: true; the input reads as it did. -/
def fnExactBackLettersUptoRow : OpenClaim := { program := "ytchdgmamkafcnaa", sum := "b48985a77c816efeb8ab9bfe1a0d3de625391295ef61e760ab29969972e4283f", func := "loop.example/g01316/laws.FnExactBackLetters", spec := "fnExactBackLetters", unfollowed := true, recurses := true, apart := false, narrowed := true }
def FnExactBackLettersUptoSaid : Prop := fnExactBackLettersUptoRow.holds Try.pinned (OpenSpec.upto fnExactBackLettersSpec)

/-- 'laws.FnExactAllByLetters', WHERE WHAT IT READS IS OF BULK AT MOST 1048576: true; the input reads as it did. -/
def fnExactAllByLettersUptoRow : OpenClaim := { program := "ytchdgmamkafcnaa", sum := "b48985a77c816efeb8ab9bfe1a0d3de625391295ef61e760ab29969972e4283f", func := "loop.example/g01316/laws.FnExactAllByLetters", spec := "fnExactAllByLetters", unfollowed := true, recurses := true, apart := false, narrowed := true }
def FnExactAllByLettersUptoSaid : Prop := fnExactAllByLettersUptoRow.holds Try.pinned (OpenSpec.upto fnExactAllByLettersSpec)

/-- 'laws.FnExactLettersOfCalls', WHERE WHAT IT READS IS OF BULK AT MOST 1048576: true; the input reads as it did. -/
def fnExactLettersOfCallsUptoRow : OpenClaim := { program := "ytchdgmamkafcnaa", sum := "b48985a77c816efeb8ab9bfe1a0d3de625391295ef61e760ab29969972e4283f", func := "loop.example/g01316/laws.FnExactLettersOfCalls", spec := "fnExactLettersOfCalls", unfollowed := true, recurses := true, apart := false, narrowed := true }
def FnExactLettersOfCallsUptoSaid : Prop := fnExactLettersOfCallsUptoRow.holds Try.pinned (OpenSpec.upto fnExactLettersOfCallsSpec)

/-- 'laws.FnExactLettersNeeded', WHERE WHAT IT READS IS OF BULK AT MOST 1048576: true; the input reads as it did. -/
def fnExactLettersNeededUptoRow : OpenClaim := { program := "ytchdgmamkafcnaa", sum := "b48985a77c816efeb8ab9bfe1a0d3de625391295ef61e760ab29969972e4283f", func := "loop.example/g01316/laws.FnExactLettersNeeded", spec := "fnExactLettersNeeded", unfollowed := true, recurses := true, apart := false, narrowed := true }
def FnExactLettersNeededUptoSaid : Prop := fnExactLettersNeededUptoRow.holds Try.pinned (OpenSpec.upto fnExactLettersNeededSpec)

/-- 'laws.FnExactCanAllHear', WHERE WHAT IT READS IS OF BULK AT MOST 1048576: true; the input reads as it did. -/
def fnExactCanAllHearUptoRow : OpenClaim := { program := "ytchdgmamkafcnaa", sum := "b48985a77c816efeb8ab9bfe1a0d3de625391295ef61e760ab29969972e4283f", func := "loop.example/g01316/laws.FnExactCanAllHear", spec := "fnExactCanAllHear", unfollowed := true, recurses := true, apart := false, narrowed := true }
def FnExactCanAllHearUptoSaid : Prop := fnExactCanAllHearUptoRow.holds Try.pinned (OpenSpec.upto fnExactCanAllHearSpec)

/-- 'laws.FnExactHeardFrom', WHERE WHAT IT READS IS OF BULK AT MOST 1048576: true; the input reads as it did. -/
def fnExactHeardFromUptoRow : OpenClaim := { program := "ytchdgmamkafcnaa", sum := "b48985a77c816efeb8ab9bfe1a0d3de625391295ef61e760ab29969972e4283f", func := "loop.example/g01316/laws.FnExactHeardFrom", spec := "fnExactHeardFrom", unfollowed := true, recurses := true, apart := false, narrowed := true }
def FnExactHeardFromUptoSaid : Prop := fnExactHeardFromUptoRow.holds Try.pinned (OpenSpec.upto fnExactHeardFromSpec)

/-- 'laws.FnExactIdleLetters', WHERE WHAT IT READS IS OF BULK AT MOST 1048576: true; the input reads as it did. -/
def fnExactIdleLettersUptoRow : OpenClaim := { program := "ytchdgmamkafcnaa", sum := "b48985a77c816efeb8ab9bfe1a0d3de625391295ef61e760ab29969972e4283f", func := "loop.example/g01316/laws.FnExactIdleLetters", spec := "fnExactIdleLetters", unfollowed := true, recurses := true, apart := false, narrowed := true }
def FnExactIdleLettersUptoSaid : Prop := fnExactIdleLettersUptoRow.holds Try.pinned (OpenSpec.upto fnExactIdleLettersSpec)

/-- 'laws.FnExactKnownByLetters', WHERE WHAT IT READS IS OF BULK AT MOST 1048576: true; the input reads as it did. -/
def fnExactKnownByLettersUptoRow : OpenClaim := { program := "ytchdgmamkafcnaa", sum := "b48985a77c816efeb8ab9bfe1a0d3de625391295ef61e760ab29969972e4283f", func := "loop.example/g01316/laws.FnExactKnownByLetters", spec := "fnExactKnownByLetters", unfollowed := true, recurses := true, apart := false, narrowed := true }
def FnExactKnownByLettersUptoSaid : Prop := fnExactKnownByLettersUptoRow.holds Try.pinned (OpenSpec.upto fnExactKnownByLettersSpec)

/-- 'laws.FnExactNeedlessLetters', WHERE WHAT IT READS IS OF BULK AT MOST 1048576: true; the input reads as it did. -/
def fnExactNeedlessLettersUptoRow : OpenClaim := { program := "ytchdgmamkafcnaa", sum := "b48985a77c816efeb8ab9bfe1a0d3de625391295ef61e760ab29969972e4283f", func := "loop.example/g01316/laws.FnExactNeedlessLetters", spec := "fnExactNeedlessLetters", unfollowed := true, recurses := true, apart := false, narrowed := true }
def FnExactNeedlessLettersUptoSaid : Prop := fnExactNeedlessLettersUptoRow.holds Try.pinned (OpenSpec.upto fnExactNeedlessLettersSpec)

/-- 'laws.FnExactSilentGroups', WHERE WHAT IT READS IS OF BULK AT MOST 1048576: true; the input reads as it did. -/
def fnExactSilentGroupsUptoRow : OpenClaim := { program := "ytchdgmamkafcnaa", sum := "b48985a77c816efeb8ab9bfe1a0d3de625391295ef61e760ab29969972e4283f", func := "loop.example/g01316/laws.FnExactSilentGroups", spec := "fnExactSilentGroups", unfollowed := true, recurses := true, apart := false, narrowed := true }
def FnExactSilentGroupsUptoSaid : Prop := fnExactSilentGroupsUptoRow.holds Try.pinned (OpenSpec.upto fnExactSilentGroupsSpec)

end Rows
end Go.Proofs.Ytchdgmamkafcnaa
