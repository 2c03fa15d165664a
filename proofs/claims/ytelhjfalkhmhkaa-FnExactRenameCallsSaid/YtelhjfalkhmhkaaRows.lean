/-
  No cell of these rows narrows 'for every input' (looked for: loops, veiled, ifaces, maps, wideKeys, modest, calm, conditions, laid).
  DERIVED. THE GIVEN ROWS OF THIS SEAT. 9 by the template 'for every input the law returns true; each argument reads behind the call as it read before'; 0 by the template 'total and deterministic' (their statements: YtelhjfalkhmhkaaTotals.lean).
  GIVEN WITH THE SEED: the statements are not yours to turn. If you find one false, say at which input.
  Laid BY PROGRAM, IN A SANDBOX (cutbox-rows.mjs): the forced cells as the released guide's own fill.sh prints them over the translation b29aab2b55d95533… (all of the seat's roots in one cut). By AI agents, Wed Nov 11 2026. No macro, syntax, notation, axiom, sorry.
-/
import Derived.Test.YtelhjfalkhmhkaaChecked
import GoSem.Claim
import GoSem.ClaimJoined
import GoSem.ClaimMapViews
import Derived.JoinedTies
import Derived.KernelRfl
namespace Go.Proofs.Ytelhjfalkhmhkaa
/- THE CELL 'sum', in the pinned program and in every row, IS THE sha256 OF THE DUMP (.gsa) THAT YtelhjfalkhmhkaaProg.lean LOADS. Nothing in Lean hashes anything: it is a label: what it is worth is what the hold of that sum in a sandbox is worth. -/
noncomputable def Try.pinned : Pinned := { name := "ytelhjfalkhmhkaa", sum := "b29aab2b55d95533f2fdbc39e8837d7405253d86cd0bf56d240d9736260a9720", checked := Try.checked }
namespace Rows
def none {H : Type} : Left H := { results := [], args := [] }

/-- 'laws.FnExactStarNet': WHATEVER THE INPUT: true; the input reads as it did. -/
def fnExactStarNetSpec : ChangeSpec := { name := "fnExactStarNet", fn := fun _ => fun
  | [d1, d2] => { results := [.lit (.bool true)], args := [d1, d2] }
  | _ => none }
def fnExactStarNetRow : OpenClaim := { program := "ytelhjfalkhmhkaa", sum := "b29aab2b55d95533f2fdbc39e8837d7405253d86cd0bf56d240d9736260a9720", func := "loop.example/g01316/laws.FnExactStarNet", spec := "fnExactStarNet", unfollowed := true, recurses := true, apart := false }
def FnExactStarNetSaid : Prop := fnExactStarNetRow.holds Try.pinned (OpenSpec.ofChange fnExactStarNetSpec)

/-- ITS FALSE NEIGHBOUR: 'it returns false'. Refute it at one input. -/
def fnExactStarNetWrong : ChangeSpec := { name := "fnExactStarNet", fn := fun _ => fun
  | [d1, d2] => { results := [.lit (.bool false)], args := [d1, d2] }
  | _ => none }
def FnExactStarNetWrongFalsely : Prop := fnExactStarNetRow.holds Try.pinned (OpenSpec.ofChange fnExactStarNetWrong)

/-- 'laws.FnExactCircleNet': WHATEVER THE INPUT: true; the input reads as it did. -/
def fnExactCircleNetSpec : ChangeSpec := { name := "fnExactCircleNet", fn := fun _ => fun
  | [d] => { results := [.lit (.bool true)], args := [d] }
  | _ => none }
def fnExactCircleNetRow : OpenClaim := { program := "ytelhjfalkhmhkaa", sum := "b29aab2b55d95533f2fdbc39e8837d7405253d86cd0bf56d240d9736260a9720", func := "loop.example/g01316/laws.FnExactCircleNet", spec := "fnExactCircleNet", inPlace := ["slices.overlaps[loop.example/g01316/impl.Call]"], apart := false }
def FnExactCircleNetSaid : Prop := fnExactCircleNetRow.holds Try.pinned (OpenSpec.ofChange fnExactCircleNetSpec)

/-- ITS FALSE NEIGHBOUR: 'it returns false'. Refute it at one input. -/
def fnExactCircleNetWrong : ChangeSpec := { name := "fnExactCircleNet", fn := fun _ => fun
  | [d] => { results := [.lit (.bool false)], args := [d] }
  | _ => none }
def FnExactCircleNetWrongFalsely : Prop := fnExactCircleNetRow.holds Try.pinned (OpenSpec.ofChange fnExactCircleNetWrong)

/-- 'laws.FnExactIsJoined': WHATEVER THE INPUT: true; the input reads as it did. -/
def fnExactIsJoinedSpec : ChangeSpec := { name := "fnExactIsJoined", fn := fun _ => fun
  | [d1, d2] => { results := [.lit (.bool true)], args := [d1, d2] }
  | _ => none }
def fnExactIsJoinedRow : OpenClaim := { program := "ytelhjfalkhmhkaa", sum := "b29aab2b55d95533f2fdbc39e8837d7405253d86cd0bf56d240d9736260a9720", func := "loop.example/g01316/laws.FnExactIsJoined", spec := "fnExactIsJoined", apart := false }
def FnExactIsJoinedSaid : Prop := fnExactIsJoinedRow.holds Try.pinned (OpenSpec.ofChange fnExactIsJoinedSpec)

/-- ITS FALSE NEIGHBOUR: 'it returns false'. Refute it at one input. -/
def fnExactIsJoinedWrong : ChangeSpec := { name := "fnExactIsJoined", fn := fun _ => fun
  | [d1, d2] => { results := [.lit (.bool false)], args := [d1, d2] }
  | _ => none }
def FnExactIsJoinedWrongFalsely : Prop := fnExactIsJoinedRow.holds Try.pinned (OpenSpec.ofChange fnExactIsJoinedWrong)

/-- 'laws.FnExactDistanceInNet': WHATEVER THE INPUT: true; the input reads as it did. -/
def fnExactDistanceInNetSpec : ChangeSpec := { name := "fnExactDistanceInNet", fn := fun _ => fun
  | [d1, d2, d3, d4] => { results := [.lit (.bool true)], args := [d1, d2, d3, d4] }
  | _ => none }
def fnExactDistanceInNetRow : OpenClaim := { program := "ytelhjfalkhmhkaa", sum := "b29aab2b55d95533f2fdbc39e8837d7405253d86cd0bf56d240d9736260a9720", func := "loop.example/g01316/laws.FnExactDistanceInNet", spec := "fnExactDistanceInNet", apart := false }
def FnExactDistanceInNetSaid : Prop := fnExactDistanceInNetRow.holds Try.pinned (OpenSpec.ofChange fnExactDistanceInNetSpec)

/-- ITS FALSE NEIGHBOUR: 'it returns false'. Refute it at one input. -/
def fnExactDistanceInNetWrong : ChangeSpec := { name := "fnExactDistanceInNet", fn := fun _ => fun
  | [d1, d2, d3, d4] => { results := [.lit (.bool false)], args := [d1, d2, d3, d4] }
  | _ => none }
def FnExactDistanceInNetWrongFalsely : Prop := fnExactDistanceInNetRow.holds Try.pinned (OpenSpec.ofChange fnExactDistanceInNetWrong)

/-- 'laws.FnExactBackLetters': WHATEVER THE INPUT: true; the input reads as it did. -/
def fnExactBackLettersSpec : ChangeSpec := { name := "fnExactBackLetters", fn := fun _ => fun
  | [d1, d2] => { results := [.lit (.bool true)], args := [d1, d2] }
  | _ => none }
def fnExactBackLettersRow : OpenClaim := { program := "ytelhjfalkhmhkaa", sum := "b29aab2b55d95533f2fdbc39e8837d7405253d86cd0bf56d240d9736260a9720", func := "loop.example/g01316/laws.FnExactBackLetters", spec := "fnExactBackLetters", unfollowed := true, recurses := true, apart := false }
def FnExactBackLettersSaid : Prop := fnExactBackLettersRow.holds Try.pinned (OpenSpec.ofChange fnExactBackLettersSpec)

/-- ITS FALSE NEIGHBOUR: 'it returns false'. Refute it at one input. -/
def fnExactBackLettersWrong : ChangeSpec := { name := "fnExactBackLetters", fn := fun _ => fun
  | [d1, d2] => { results := [.lit (.bool false)], args := [d1, d2] }
  | _ => none }
def FnExactBackLettersWrongFalsely : Prop := fnExactBackLettersRow.holds Try.pinned (OpenSpec.ofChange fnExactBackLettersWrong)

/-- 'laws.FnExactKnownByLetters': WHATEVER THE INPUT: true; the input reads as it did. -/
def fnExactKnownByLettersSpec : ChangeSpec := { name := "fnExactKnownByLetters", fn := fun _ => fun
  | [d1, d2] => { results := [.lit (.bool true)], args := [d1, d2] }
  | _ => none }
def fnExactKnownByLettersRow : OpenClaim := { program := "ytelhjfalkhmhkaa", sum := "b29aab2b55d95533f2fdbc39e8837d7405253d86cd0bf56d240d9736260a9720", func := "loop.example/g01316/laws.FnExactKnownByLetters", spec := "fnExactKnownByLetters", unfollowed := true, recurses := true, apart := false }
def FnExactKnownByLettersSaid : Prop := fnExactKnownByLettersRow.holds Try.pinned (OpenSpec.ofChange fnExactKnownByLettersSpec)

/-- ITS FALSE NEIGHBOUR: 'it returns false'. Refute it at one input. -/
def fnExactKnownByLettersWrong : ChangeSpec := { name := "fnExactKnownByLetters", fn := fun _ => fun
  | [d1, d2] => { results := [.lit (.bool false)], args := [d1, d2] }
  | _ => none }
def FnExactKnownByLettersWrongFalsely : Prop := fnExactKnownByLettersRow.holds Try.pinned (OpenSpec.ofChange fnExactKnownByLettersWrong)

/-- 'laws.FnExactSilentGroups': WHATEVER THE INPUT: true; the input reads as it did. -/
def fnExactSilentGroupsSpec : ChangeSpec := { name := "fnExactSilentGroups", fn := fun _ => fun
  | [d1, d2] => { results := [.lit (.bool true)], args := [d1, d2] }
  | _ => none }
def fnExactSilentGroupsRow : OpenClaim := { program := "ytelhjfalkhmhkaa", sum := "b29aab2b55d95533f2fdbc39e8837d7405253d86cd0bf56d240d9736260a9720", func := "loop.example/g01316/laws.FnExactSilentGroups", spec := "fnExactSilentGroups", unfollowed := true, recurses := true, apart := false }
def FnExactSilentGroupsSaid : Prop := fnExactSilentGroupsRow.holds Try.pinned (OpenSpec.ofChange fnExactSilentGroupsSpec)

/-- ITS FALSE NEIGHBOUR: 'it returns false'. Refute it at one input. -/
def fnExactSilentGroupsWrong : ChangeSpec := { name := "fnExactSilentGroups", fn := fun _ => fun
  | [d1, d2] => { results := [.lit (.bool false)], args := [d1, d2] }
  | _ => none }
def FnExactSilentGroupsWrongFalsely : Prop := fnExactSilentGroupsRow.holds Try.pinned (OpenSpec.ofChange fnExactSilentGroupsWrong)

/-- 'laws.FnExactRenameCalls': WHATEVER THE INPUT: true; the input reads as it did. -/
def fnExactRenameCallsSpec : ChangeSpec := { name := "fnExactRenameCalls", fn := fun _ => fun
  | [d1, d2, d3] => { results := [.lit (.bool true)], args := [d1, d2, d3] }
  | _ => none }
def fnExactRenameCallsRow : OpenClaim := { program := "ytelhjfalkhmhkaa", sum := "b29aab2b55d95533f2fdbc39e8837d7405253d86cd0bf56d240d9736260a9720", func := "loop.example/g01316/laws.FnExactRenameCalls", spec := "fnExactRenameCalls", unfollowed := true, recurses := true, apart := false }
def FnExactRenameCallsSaid : Prop := fnExactRenameCallsRow.holds Try.pinned (OpenSpec.ofChange fnExactRenameCallsSpec)

/-- ITS FALSE NEIGHBOUR: 'it returns false'. Refute it at one input. -/
def fnExactRenameCallsWrong : ChangeSpec := { name := "fnExactRenameCalls", fn := fun _ => fun
  | [d1, d2, d3] => { results := [.lit (.bool false)], args := [d1, d2, d3] }
  | _ => none }
def FnExactRenameCallsWrongFalsely : Prop := fnExactRenameCallsRow.holds Try.pinned (OpenSpec.ofChange fnExactRenameCallsWrong)

/-- 'laws.FnExactKnownAfter': WHATEVER THE INPUT: true; the input reads as it did. -/
def fnExactKnownAfterSpec : ChangeSpec := { name := "fnExactKnownAfter", fn := fun _ => fun
  | [d1, d2] => { results := [.lit (.bool true)], args := [d1, d2] }
  | _ => none }
def fnExactKnownAfterRow : OpenClaim := { program := "ytelhjfalkhmhkaa", sum := "b29aab2b55d95533f2fdbc39e8837d7405253d86cd0bf56d240d9736260a9720", func := "loop.example/g01316/laws.FnExactKnownAfter", spec := "fnExactKnownAfter", unfollowed := true, recurses := true, apart := false }
def FnExactKnownAfterSaid : Prop := fnExactKnownAfterRow.holds Try.pinned (OpenSpec.ofChange fnExactKnownAfterSpec)

/-- ITS FALSE NEIGHBOUR: 'it returns false'. Refute it at one input. -/
def fnExactKnownAfterWrong : ChangeSpec := { name := "fnExactKnownAfter", fn := fun _ => fun
  | [d1, d2] => { results := [.lit (.bool false)], args := [d1, d2] }
  | _ => none }
def FnExactKnownAfterWrongFalsely : Prop := fnExactKnownAfterRow.holds Try.pinned (OpenSpec.ofChange fnExactKnownAfterWrong)

/- THE SECOND FORM. 'bulk': how many values and letters a reading holds, each counted each time it is reached (what is shared counts as often as it is met; a slice's spare places count too). A statement '..UptoSaid' is the law's where the arguments, and the package variables that the reading takes, are together of bulk at most 1048576: NARROWER than '..Said'. Prove '..Said' where nothing that the law and all that it calls make is longer than what came in: it says more and counts as full. Else prove '..UptoSaid'. A law counts once. -/
mutual
def uptoBulk {H : Type} : DataW H → Nat
  | .lit (.string bytes) => bytes.length + 1
  | .lit _ => 1
  | .nil => 1
  | .ptr d => uptoBulk d + 1
  | .slice elems spare => uptoBulkAll elems + uptoBulkAll spare + 1
  | .agg parts => uptoBulkAll parts + 1
  | .iface _ d => uptoBulk d + 1
  | .map entries => uptoBulkEntries entries + 1
  | .held _ => 1
def uptoBulkAll {H : Type} : List (DataW H) → Nat
  | [] => 0
  | d :: r => uptoBulk d + uptoBulkAll r
def uptoBulkEntries {H : Type} : List (Lit × DataW H) → Nat
  | [] => 0
  | x :: r => uptoBulkEntry x + uptoBulkEntries r
def uptoBulkEntry {H : Type} : Lit × DataW H → Nat
  | (.string bytes, d) => bytes.length + uptoBulk d + 1
  | (_, d) => uptoBulk d + 1
 end
def uptoSmall : (H : Type) → List (DataW H) → Bool := fun _ ds => decide (uptoBulkAll ds ≤ 1048576)
def OpenSpec.upto (s : _root_.Go.ChangeSpec) : _root_.Go.OpenSpec := { _root_.Go.OpenSpec.ofChange s with cond := some uptoSmall }

/-- 'laws.FnExactStarNet', WHERE WHAT IT READS IS OF BULK AT MOST 1048576: true; the input reads as it did. -/
def fnExactStarNetUptoRow : OpenClaim := { program := "ytelhjfalkhmhkaa", sum := "b29aab2b55d95533f2fdbc39e8837d7405253d86cd0bf56d240d9736260a9720", func := "loop.example/g01316/laws.FnExactStarNet", spec := "fnExactStarNet", unfollowed := true, recurses := true, apart := false, narrowed := true }
def FnExactStarNetUptoSaid : Prop := fnExactStarNetUptoRow.holds Try.pinned (OpenSpec.upto fnExactStarNetSpec)

/-- 'laws.FnExactCircleNet', WHERE WHAT IT READS IS OF BULK AT MOST 1048576: true; the input reads as it did. -/
def fnExactCircleNetUptoRow : OpenClaim := { program := "ytelhjfalkhmhkaa", sum := "b29aab2b55d95533f2fdbc39e8837d7405253d86cd0bf56d240d9736260a9720", func := "loop.example/g01316/laws.FnExactCircleNet", spec := "fnExactCircleNet", inPlace := ["slices.overlaps[loop.example/g01316/impl.Call]"], apart := false, narrowed := true }
def FnExactCircleNetUptoSaid : Prop := fnExactCircleNetUptoRow.holds Try.pinned (OpenSpec.upto fnExactCircleNetSpec)

/-- 'laws.FnExactIsJoined', WHERE WHAT IT READS IS OF BULK AT MOST 1048576: true; the input reads as it did. -/
def fnExactIsJoinedUptoRow : OpenClaim := { program := "ytelhjfalkhmhkaa", sum := "b29aab2b55d95533f2fdbc39e8837d7405253d86cd0bf56d240d9736260a9720", func := "loop.example/g01316/laws.FnExactIsJoined", spec := "fnExactIsJoined", apart := false, narrowed := true }
def FnExactIsJoinedUptoSaid : Prop := fnExactIsJoinedUptoRow.holds Try.pinned (OpenSpec.upto fnExactIsJoinedSpec)

/-- 'laws.FnExactDistanceInNet', WHERE WHAT IT READS IS OF BULK AT MOST 1048576: true; the input reads as it did. -/
def fnExactDistanceInNetUptoRow : OpenClaim := { program := "ytelhjfalkhmhkaa", sum := "b29aab2b55d95533f2fdbc39e8837d7405253d86cd0bf56d240d9736260a9720", func := "loop.example/g01316/laws.FnExactDistanceInNet", spec := "fnExactDistanceInNet", apart := false, narrowed := true }
def FnExactDistanceInNetUptoSaid : Prop := fnExactDistanceInNetUptoRow.holds Try.pinned (OpenSpec.upto fnExactDistanceInNetSpec)

/-- 'laws.FnExactBackLetters', WHERE WHAT IT READS IS OF BULK AT MOST 1048576: true; the input reads as it did. -/
def fnExactBackLettersUptoRow : OpenClaim := { program := "ytelhjfalkhmhkaa", sum := "b29aab2b55d95533f2fdbc39e8837d7405253d86cd0bf56d240d9736260a9720", func := "loop.example/g01316/laws.FnExactBackLetters", spec := "fnExactBackLetters", unfollowed := true, recurses := true, apart := false, narrowed := true }
def FnExactBackLettersUptoSaid : Prop := fnExactBackLettersUptoRow.holds Try.pinned (OpenSpec.upto fnExactBackLettersSpec)

/-- 'laws.FnExactKnownByLetters', WHERE WHAT IT READS IS OF BULK AT MOST 1048576: true; the input reads as it did. -/
def fnExactKnownByLettersUptoRow : OpenClaim := { program := "ytelhjfalkhmhkaa", sum := "b29aab2b55d95533f2fdbc39e8837d7405253d86cd0bf56d240d9736260a9720", func := "loop.example/g01316/laws.FnExactKnownByLetters", spec := "fnExactKnownByLetters", unfollowed := true, recurses := true, apart := false, narrowed := true }
def FnExactKnownByLettersUptoSaid : Prop := fnExactKnownByLettersUptoRow.holds Try.pinned (OpenSpec.upto fnExactKnownByLettersSpec)

/-- 'laws.FnExactSilentGroups', WHERE WHAT IT READS IS OF BULK AT MOST 1048576: true; the input reads as it did. -/
def fnExactSilentGroupsUptoRow : OpenClaim := { program := "ytelhjfalkhmhkaa", sum := "b29aab2b55d95533f2fdbc39e8837d7405253d86cd0bf56d240d9736260a9720", func := "loop.example/g01316/laws.FnExactSilentGroups", spec := "fnExactSilentGroups", unfollowed := true, recurses := true, apart := false, narrowed := true }
def FnExactSilentGroupsUptoSaid : Prop := fnExactSilentGroupsUptoRow.holds Try.pinned (OpenSpec.upto fnExactSilentGroupsSpec)

/-- 'laws.FnExactRenameCalls', WHERE WHAT IT READS IS OF BULK AT MOST 1048576: true; the input reads as it did. -/
def fnExactRenameCallsUptoRow : OpenClaim := { program := "ytelhjfalkhmhkaa", sum := "b29aab2b55d95533f2fdbc39e8837d7405253d86cd0bf56d240d9736260a9720", func := "loop.example/g01316/laws.FnExactRenameCalls", spec := "fnExactRenameCalls", unfollowed := true, recurses := true, apart := false, narrowed := true }
def FnExactRenameCallsUptoSaid : Prop := fnExactRenameCallsUptoRow.holds Try.pinned (OpenSpec.upto fnExactRenameCallsSpec)

/-- 'laws.FnExactKnownAfter', WHERE WHAT IT READS IS OF BULK AT MOST 1048576: true; the input reads as it did. -/
def fnExactKnownAfterUptoRow : OpenClaim := { program := "ytelhjfalkhmhkaa", sum := "b29aab2b55d95533f2fdbc39e8837d7405253d86cd0bf56d240d9736260a9720", func := "loop.example/g01316/laws.FnExactKnownAfter", spec := "fnExactKnownAfter", unfollowed := true, recurses := true, apart := false, narrowed := true }
def FnExactKnownAfterUptoSaid : Prop := fnExactKnownAfterUptoRow.holds Try.pinned (OpenSpec.upto fnExactKnownAfterSpec)

end Rows
end Go.Proofs.Ytelhjfalkhmhkaa
