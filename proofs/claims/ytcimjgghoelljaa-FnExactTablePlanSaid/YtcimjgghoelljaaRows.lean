/-
  No cell of these rows narrows 'for every input' (looked for: loops, veiled, ifaces, maps, wideKeys, modest, calm, conditions, laid).
  DERIVED. THE GIVEN ROWS OF THIS SEAT. 9 by the template 'for every input the law returns true; each argument reads behind the call as it read before'; 0 by the template 'total and deterministic' (their statements: YtcimjgghoelljaaTotals.lean).
  GIVEN WITH THE SEED: the statements are not yours to turn. If you find one false, say at which input.
  Laid BY PROGRAM, IN A SANDBOX (cutbox-rows.mjs): the forced cells as the released guide's own fill.sh prints them over the translation bf86a4aa440f6f00… (all of the seat's roots in one cut). By AI agents, Wed Nov 11 2026. No macro, syntax, notation, axiom, sorry.
-/
import Derived.Test.YtcimjgghoelljaaChecked
import GoSem.Claim
import GoSem.ClaimJoined
import GoSem.ClaimMapViews
import Derived.JoinedTies
import Derived.KernelRfl
namespace Go.Proofs.Ytcimjgghoelljaa
/- THE CELL 'sum', in the pinned program and in every row, IS THE sha256 OF THE DUMP (.gsa) THAT YtcimjgghoelljaaProg.lean LOADS. Nothing in Lean hashes anything: it is a label: what it is worth is what the hold of that sum in a sandbox is worth. -/
noncomputable def Try.pinned : Pinned := { name := "ytcimjgghoelljaa", sum := "bf86a4aa440f6f009c0fd6eefa164da0c02aef6f54286b1405883f08e80b01aa", checked := Try.checked }
namespace Rows
def none {H : Type} : Left H := { results := [], args := [] }

/-- 'laws.FnExactFourPlan': WHATEVER THE INPUT: true; the input reads as it did. -/
def fnExactFourPlanSpec : ChangeSpec := { name := "fnExactFourPlan", fn := fun _ => fun
  | [d] => { results := [.lit (.bool true)], args := [d] }
  | _ => none }
def fnExactFourPlanRow : OpenClaim := { program := "ytcimjgghoelljaa", sum := "bf86a4aa440f6f009c0fd6eefa164da0c02aef6f54286b1405883f08e80b01aa", func := "loop.example/g01316/laws.FnExactFourPlan", spec := "fnExactFourPlan", apart := false }
def FnExactFourPlanSaid : Prop := fnExactFourPlanRow.holds Try.pinned (OpenSpec.ofChange fnExactFourPlanSpec)

/-- ITS FALSE NEIGHBOUR: 'it returns false'. Refute it at one input. -/
def fnExactFourPlanWrong : ChangeSpec := { name := "fnExactFourPlan", fn := fun _ => fun
  | [d] => { results := [.lit (.bool false)], args := [d] }
  | _ => none }
def FnExactFourPlanWrongFalsely : Prop := fnExactFourPlanRow.holds Try.pinned (OpenSpec.ofChange fnExactFourPlanWrong)

/-- 'laws.FnExactTablePlan': WHATEVER THE INPUT: true; the input reads as it did. -/
def fnExactTablePlanSpec : ChangeSpec := { name := "fnExactTablePlan", fn := fun _ => fun
  | [d] => { results := [.lit (.bool true)], args := [d] }
  | _ => none }
def fnExactTablePlanRow : OpenClaim := { program := "ytcimjgghoelljaa", sum := "bf86a4aa440f6f009c0fd6eefa164da0c02aef6f54286b1405883f08e80b01aa", func := "loop.example/g01316/laws.FnExactTablePlan", spec := "fnExactTablePlan", apart := false }
def FnExactTablePlanSaid : Prop := fnExactTablePlanRow.holds Try.pinned (OpenSpec.ofChange fnExactTablePlanSpec)

/-- ITS FALSE NEIGHBOUR: 'it returns false'. Refute it at one input. -/
def fnExactTablePlanWrong : ChangeSpec := { name := "fnExactTablePlan", fn := fun _ => fun
  | [d] => { results := [.lit (.bool false)], args := [d] }
  | _ => none }
def FnExactTablePlanWrongFalsely : Prop := fnExactTablePlanRow.holds Try.pinned (OpenSpec.ofChange fnExactTablePlanWrong)

/-- 'laws.FnExactCallsText': WHATEVER THE INPUT: true; the input reads as it did. -/
def fnExactCallsTextSpec : ChangeSpec := { name := "fnExactCallsText", fn := fun _ => fun
  | [d] => { results := [.lit (.bool true)], args := [d] }
  | _ => none }
def fnExactCallsTextRow : OpenClaim := { program := "ytcimjgghoelljaa", sum := "bf86a4aa440f6f009c0fd6eefa164da0c02aef6f54286b1405883f08e80b01aa", func := "loop.example/g01316/laws.FnExactCallsText", spec := "fnExactCallsText", inPlace := ["internal/abi.NoEscape", "internal/bytealg.MakeNoZero"], unfollowed := true, recurses := true, apart := false }
def FnExactCallsTextSaid : Prop := fnExactCallsTextRow.holds Try.pinned (OpenSpec.ofChange fnExactCallsTextSpec)

/-- ITS FALSE NEIGHBOUR: 'it returns false'. Refute it at one input. -/
def fnExactCallsTextWrong : ChangeSpec := { name := "fnExactCallsText", fn := fun _ => fun
  | [d] => { results := [.lit (.bool false)], args := [d] }
  | _ => none }
def FnExactCallsTextWrongFalsely : Prop := fnExactCallsTextRow.holds Try.pinned (OpenSpec.ofChange fnExactCallsTextWrong)

/-- 'laws.FnExactFirstPlan': WHATEVER THE INPUT: true; the input reads as it did. -/
def fnExactFirstPlanSpec : ChangeSpec := { name := "fnExactFirstPlan", fn := fun _ => fun
  | [d] => { results := [.lit (.bool true)], args := [d] }
  | _ => none }
def fnExactFirstPlanRow : OpenClaim := { program := "ytcimjgghoelljaa", sum := "bf86a4aa440f6f009c0fd6eefa164da0c02aef6f54286b1405883f08e80b01aa", func := "loop.example/g01316/laws.FnExactFirstPlan", spec := "fnExactFirstPlan", unfollowed := true, recurses := true, apart := false }
def FnExactFirstPlanSaid : Prop := fnExactFirstPlanRow.holds Try.pinned (OpenSpec.ofChange fnExactFirstPlanSpec)

/-- ITS FALSE NEIGHBOUR: 'it returns false'. Refute it at one input. -/
def fnExactFirstPlanWrong : ChangeSpec := { name := "fnExactFirstPlan", fn := fun _ => fun
  | [d] => { results := [.lit (.bool false)], args := [d] }
  | _ => none }
def FnExactFirstPlanWrongFalsely : Prop := fnExactFirstPlanRow.holds Try.pinned (OpenSpec.ofChange fnExactFirstPlanWrong)

/-- 'laws.FnExactLettersText': WHATEVER THE INPUT: true; the input reads as it did. -/
def fnExactLettersTextSpec : ChangeSpec := { name := "fnExactLettersText", fn := fun _ => fun
  | [d] => { results := [.lit (.bool true)], args := [d] }
  | _ => none }
def fnExactLettersTextRow : OpenClaim := { program := "ytcimjgghoelljaa", sum := "bf86a4aa440f6f009c0fd6eefa164da0c02aef6f54286b1405883f08e80b01aa", func := "loop.example/g01316/laws.FnExactLettersText", spec := "fnExactLettersText", inPlace := ["internal/abi.NoEscape", "internal/bytealg.MakeNoZero"], unfollowed := true, recurses := true, apart := false }
def FnExactLettersTextSaid : Prop := fnExactLettersTextRow.holds Try.pinned (OpenSpec.ofChange fnExactLettersTextSpec)

/-- ITS FALSE NEIGHBOUR: 'it returns false'. Refute it at one input. -/
def fnExactLettersTextWrong : ChangeSpec := { name := "fnExactLettersText", fn := fun _ => fun
  | [d] => { results := [.lit (.bool false)], args := [d] }
  | _ => none }
def FnExactLettersTextWrongFalsely : Prop := fnExactLettersTextRow.holds Try.pinned (OpenSpec.ofChange fnExactLettersTextWrong)

/-- 'laws.FnExactRoundsText': WHATEVER THE INPUT: true; the input reads as it did. -/
def fnExactRoundsTextSpec : ChangeSpec := { name := "fnExactRoundsText", fn := fun _ => fun
  | [d] => { results := [.lit (.bool true)], args := [d] }
  | _ => none }
def fnExactRoundsTextRow : OpenClaim := { program := "ytcimjgghoelljaa", sum := "bf86a4aa440f6f009c0fd6eefa164da0c02aef6f54286b1405883f08e80b01aa", func := "loop.example/g01316/laws.FnExactRoundsText", spec := "fnExactRoundsText", inPlace := ["internal/abi.NoEscape", "internal/bytealg.MakeNoZero"], unfollowed := true, recurses := true, apart := false }
def FnExactRoundsTextSaid : Prop := fnExactRoundsTextRow.holds Try.pinned (OpenSpec.ofChange fnExactRoundsTextSpec)

/-- ITS FALSE NEIGHBOUR: 'it returns false'. Refute it at one input. -/
def fnExactRoundsTextWrong : ChangeSpec := { name := "fnExactRoundsText", fn := fun _ => fun
  | [d] => { results := [.lit (.bool false)], args := [d] }
  | _ => none }
def FnExactRoundsTextWrongFalsely : Prop := fnExactRoundsTextRow.holds Try.pinned (OpenSpec.ofChange fnExactRoundsTextWrong)

/-- 'laws.FnExactFirstLetters': WHATEVER THE INPUT: true; the input reads as it did. -/
def fnExactFirstLettersSpec : ChangeSpec := { name := "fnExactFirstLetters", fn := fun _ => fun
  | [d] => { results := [.lit (.bool true)], args := [d] }
  | _ => none }
def fnExactFirstLettersRow : OpenClaim := { program := "ytcimjgghoelljaa", sum := "bf86a4aa440f6f009c0fd6eefa164da0c02aef6f54286b1405883f08e80b01aa", func := "loop.example/g01316/laws.FnExactFirstLetters", spec := "fnExactFirstLetters", unfollowed := true, recurses := true, apart := false }
def FnExactFirstLettersSaid : Prop := fnExactFirstLettersRow.holds Try.pinned (OpenSpec.ofChange fnExactFirstLettersSpec)

/-- ITS FALSE NEIGHBOUR: 'it returns false'. Refute it at one input. -/
def fnExactFirstLettersWrong : ChangeSpec := { name := "fnExactFirstLetters", fn := fun _ => fun
  | [d] => { results := [.lit (.bool false)], args := [d] }
  | _ => none }
def FnExactFirstLettersWrongFalsely : Prop := fnExactFirstLettersRow.holds Try.pinned (OpenSpec.ofChange fnExactFirstLettersWrong)

/-- 'laws.FnExactFirstRounds': WHATEVER THE INPUT: true; the input reads as it did. -/
def fnExactFirstRoundsSpec : ChangeSpec := { name := "fnExactFirstRounds", fn := fun _ => fun
  | [d] => { results := [.lit (.bool true)], args := [d] }
  | _ => none }
def fnExactFirstRoundsRow : OpenClaim := { program := "ytcimjgghoelljaa", sum := "bf86a4aa440f6f009c0fd6eefa164da0c02aef6f54286b1405883f08e80b01aa", func := "loop.example/g01316/laws.FnExactFirstRounds", spec := "fnExactFirstRounds", unfollowed := true, recurses := true, apart := false }
def FnExactFirstRoundsSaid : Prop := fnExactFirstRoundsRow.holds Try.pinned (OpenSpec.ofChange fnExactFirstRoundsSpec)

/-- ITS FALSE NEIGHBOUR: 'it returns false'. Refute it at one input. -/
def fnExactFirstRoundsWrong : ChangeSpec := { name := "fnExactFirstRounds", fn := fun _ => fun
  | [d] => { results := [.lit (.bool false)], args := [d] }
  | _ => none }
def FnExactFirstRoundsWrongFalsely : Prop := fnExactFirstRoundsRow.holds Try.pinned (OpenSpec.ofChange fnExactFirstRoundsWrong)

/-- 'laws.FnExactFewestRounds': WHATEVER THE INPUT: true; the input reads as it did. -/
def fnExactFewestRoundsSpec : ChangeSpec := { name := "fnExactFewestRounds", fn := fun _ => fun
  | [d] => { results := [.lit (.bool true)], args := [d] }
  | _ => none }
def fnExactFewestRoundsRow : OpenClaim := { program := "ytcimjgghoelljaa", sum := "bf86a4aa440f6f009c0fd6eefa164da0c02aef6f54286b1405883f08e80b01aa", func := "loop.example/g01316/laws.FnExactFewestRounds", spec := "fnExactFewestRounds", recurses := true, apart := false }
def FnExactFewestRoundsSaid : Prop := fnExactFewestRoundsRow.holds Try.pinned (OpenSpec.ofChange fnExactFewestRoundsSpec)

/-- ITS FALSE NEIGHBOUR: 'it returns false'. Refute it at one input. -/
def fnExactFewestRoundsWrong : ChangeSpec := { name := "fnExactFewestRounds", fn := fun _ => fun
  | [d] => { results := [.lit (.bool false)], args := [d] }
  | _ => none }
def FnExactFewestRoundsWrongFalsely : Prop := fnExactFewestRoundsRow.holds Try.pinned (OpenSpec.ofChange fnExactFewestRoundsWrong)

/- THE SECOND FORM. 'bulk': how many values and letters a reading holds, each counted each time it is reached (what is shared counts as often as it is met; a slice's spare places count too). A statement '..UptoSaid' is the law's where the arguments, and the package variables that the reading takes, are together of bulk at most 1048576: NARROWER than '..Said'. Prove '..Said' where nothing that the law and all that it calls make is longer than what came in: it says more and counts as full. Else prove '..UptoSaid'. A law counts once. -/
mutual
def uptoBulk {H : Type} : DataW H → Nat
  | .lit (.string bytes) => bytes.length + 1
  | .lit _ => 1
  | .nil => 1
  | .ptr d => uptoBulk d + 1
  | .slice elems spare => uptoBulkAll elems + uptoBulkAll spare + 1
  | .agg parts => uptoBulkAll parts + 1
  | .iface _ d => uptoBulk d + 1
  | .map entries => uptoBulkEntries entries + 1
  | .held _ => 1
def uptoBulkAll {H : Type} : List (DataW H) → Nat
  | [] => 0
  | d :: r => uptoBulk d + uptoBulkAll r
def uptoBulkEntries {H : Type} : List (Lit × DataW H) → Nat
  | [] => 0
  | x :: r => uptoBulkEntry x + uptoBulkEntries r
def uptoBulkEntry {H : Type} : Lit × DataW H → Nat
  | (.string bytes, d) => bytes.length + uptoBulk d + 1
  | (_, d) => uptoBulk d + 1
 end
def uptoSmall : (H : Type) → List (DataW H) → Bool := fun _ ds => decide (uptoBulkAll ds ≤ 1048576)
def OpenSpec.upto (s : _root_.Go.ChangeSpec) : _root_.Go.OpenSpec := { _root_.Go.OpenSpec.ofChange s with cond := some uptoSmall }

/-- 'laws.FnExactFourPlan', WHERE WHAT IT READS IS OF BULK AT MOST 1048576: true; the input reads as it did. -/
def fnExactFourPlanUptoRow : OpenClaim := { program := "ytcimjgghoelljaa", sum := "bf86a4aa440f6f009c0fd6eefa164da0c02aef6f54286b1405883f08e80b01aa", func := "loop.example/g01316/laws.FnExactFourPlan", spec := "fnExactFourPlan", apart := false, narrowed := true }
def FnExactFourPlanUptoSaid : Prop := fnExactFourPlanUptoRow.holds Try.pinned (OpenSpec.upto fnExactFourPlanSpec)

/-- 'laws.FnExactTablePlan', WHERE WHAT IT READS IS OF BULK AT MOST 1048576: true; the input reads as it did. -/
def fnExactTablePlanUptoRow : OpenClaim := { program := "ytcimjgghoelljaa", sum := "bf86a4aa440f6f009c0fd6eefa164da0c02aef6f54286b1405883f08e80b01aa", func := "loop.example/g01316/laws.FnExactTablePlan", spec := "fnExactTablePlan", apart := false, narrowed := true }
def FnExactTablePlanUptoSaid : Prop := fnExactTablePlanUptoRow.holds Try.pinned (OpenSpec.upto fnExactTablePlanSpec)

/-- 'laws.FnExactCallsText', WHERE WHAT IT READS IS OF BULK AT MOST 1048576: true; the input reads as it did. -/
def fnExactCallsTextUptoRow : OpenClaim := { program := "ytcimjgghoelljaa", sum := "bf86a4aa440f6f009c0fd6eefa164da0c02aef6f54286b1405883f08e80b01aa", func := "loop.example/g01316/laws.FnExactCallsText", spec := "fnExactCallsText", inPlace := ["internal/abi.NoEscape", "internal/bytealg.MakeNoZero"], unfollowed := true, recurses := true, apart := false, narrowed := true }
def FnExactCallsTextUptoSaid : Prop := fnExactCallsTextUptoRow.holds Try.pinned (OpenSpec.upto fnExactCallsTextSpec)

/-- 'laws.FnExactFirstPlan', WHERE WHAT IT READS IS OF BULK AT MOST 1048576: true; the input reads as it did. -/
def fnExactFirstPlanUptoRow : OpenClaim := { program := "ytcimjgghoelljaa", sum := "bf86a4aa440f6f009c0fd6eefa164da0c02aef6f54286b1405883f08e80b01aa", func := "loop.example/g01316/laws.FnExactFirstPlan", spec := "fnExactFirstPlan", unfollowed := true, recurses := true, apart := false, narrowed := true }
def FnExactFirstPlanUptoSaid : Prop := fnExactFirstPlanUptoRow.holds Try.pinned (OpenSpec.upto fnExactFirstPlanSpec)

/-- 'laws.FnExactLettersText', WHERE WHAT IT READS IS OF BULK AT MOST 1048576: true; the input reads as it did. -/
def fnExactLettersTextUptoRow : OpenClaim := { program := "ytcimjgghoelljaa", sum := "bf86a4aa440f6f009c0fd6eefa164da0c02aef6f54286b1405883f08e80b01aa", func := "loop.example/g01316/laws.FnExactLettersText", spec := "fnExactLettersText", inPlace := ["internal/abi.NoEscape", "internal/bytealg.MakeNoZero"], unfollowed := true, recurses := true, apart := false, narrowed := true }
def FnExactLettersTextUptoSaid : Prop := fnExactLettersTextUptoRow.holds Try.pinned (OpenSpec.upto fnExactLettersTextSpec)

/-- 'laws.FnExactRoundsText', WHERE WHAT IT READS IS OF BULK AT MOST 1048576: true; the input reads as it did. -/
def fnExactRoundsTextUptoRow : OpenClaim := { program := "ytcimjgghoelljaa", sum := "bf86a4aa440f6f009c0fd6eefa164da0c02aef6f54286b1405883f08e80b01aa", func := "loop.example/g01316/laws.FnExactRoundsText", spec := "fnExactRoundsText", inPlace := ["internal/abi.NoEscape", "internal/bytealg.MakeNoZero"], unfollowed := true, recurses := true, apart := false, narrowed := true }
def FnExactRoundsTextUptoSaid : Prop := fnExactRoundsTextUptoRow.holds Try.pinned (OpenSpec.upto fnExactRoundsTextSpec)

/-- 'laws.FnExactFirstLetters', WHERE WHAT IT READS IS OF BULK AT MOST 1048576: true; the input reads as it did. -/
def fnExactFirstLettersUptoRow : OpenClaim := { program := "ytcimjgghoelljaa", sum := "bf86a4aa440f6f009c0fd6eefa164da0c02aef6f54286b1405883f08e80b01aa", func := "loop.example/g01316/laws.FnExactFirstLetters", spec := "fnExactFirstLetters", unfollowed := true, recurses := true, apart := false, narrowed := true }
def FnExactFirstLettersUptoSaid : Prop := fnExactFirstLettersUptoRow.holds Try.pinned (OpenSpec.upto fnExactFirstLettersSpec)

/-- 'laws.FnExactFirstRounds', WHERE WHAT IT READS IS OF BULK AT MOST 1048576: true; the input reads as it did. -/
def fnExactFirstRoundsUptoRow : OpenClaim := { program := "ytcimjgghoelljaa", sum := "bf86a4aa440f6f009c0fd6eefa164da0c02aef6f54286b1405883f08e80b01aa", func := "loop.example/g01316/laws.FnExactFirstRounds", spec := "fnExactFirstRounds", unfollowed := true, recurses := true, apart := false, narrowed := true }
def FnExactFirstRoundsUptoSaid : Prop := fnExactFirstRoundsUptoRow.holds Try.pinned (OpenSpec.upto fnExactFirstRoundsSpec)

/-- 'laws.FnExactFewestRounds', WHERE WHAT IT READS IS OF BULK AT MOST 1048576: true; the input reads as it did. -/
def fnExactFewestRoundsUptoRow : OpenClaim := { program := "ytcimjgghoelljaa", sum := "bf86a4aa440f6f009c0fd6eefa164da0c02aef6f54286b1405883f08e80b01aa", func := "loop.example/g01316/laws.FnExactFewestRounds", spec := "fnExactFewestRounds", recurses := true, apart := false, narrowed := true }
def FnExactFewestRoundsUptoSaid : Prop := fnExactFewestRoundsUptoRow.holds Try.pinned (OpenSpec.upto fnExactFewestRoundsSpec)

end Rows
end Go.Proofs.Ytcimjgghoelljaa
