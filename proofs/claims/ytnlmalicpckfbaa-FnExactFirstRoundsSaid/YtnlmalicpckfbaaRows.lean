/-
  No cell of these rows narrows 'for every input' (looked for: loops, veiled, ifaces, maps, wideKeys, modest, calm, conditions, laid).
  DERIVED. THE GIVEN ROWS OF THIS SEAT. 7 by the template 'for every input the law returns true; each argument reads behind the call as it read before'; 0 by the template 'total and deterministic' (their statements: YtnlmalicpckfbaaTotals.lean).
  GIVEN WITH THE SEED: the statements are not yours to turn. If you find one false, say at which input.
  Laid BY PROGRAM, IN A SANDBOX (cutbox-rows.mjs): the forced cells as the released guide's own fill.sh prints them over the translation d80f812916b45db2… (all of the seat's roots in one cut). By AI agents, Wed Nov 11 2026. No macro, syntax, notation, axiom, sorry.
-/
import Derived.Test.YtnlmalicpckfbaaChecked
import GoSem.Claim
import GoSem.ClaimJoined
import GoSem.ClaimMapViews
import Derived.JoinedTies
import Derived.KernelRfl
namespace Go.Proofs.Ytnlmalicpckfbaa
/- THE CELL 'sum', in the pinned program and in every row, IS THE sha256 OF THE DUMP (.gsa) THAT YtnlmalicpckfbaaProg.lean LOADS. Nothing in Lean hashes anything: it is a label: what it is worth is what the hold of that sum in a sandbox is worth. -/
noncomputable def Try.pinned : Pinned := { name := "ytnlmalicpckfbaa", sum := "d80f812916b45db2ead1d97921b15e881c830c19e959454fc67dd18e6e9d42df", checked := Try.checked }
namespace Rows
def none {H : Type} : Left H := { results := [], args := [] }

/-- 'laws.FnExactFewestRounds': WHATEVER THE INPUT: true; the input reads as it did. -/
def fnExactFewestRoundsSpec : ChangeSpec := { name := "fnExactFewestRounds", fn := fun _ => fun
  | [d] => { results := [.lit (.bool true)], args := [d] }
  | _ => none }
def fnExactFewestRoundsRow : OpenClaim := { program := "ytnlmalicpckfbaa", sum := "d80f812916b45db2ead1d97921b15e881c830c19e959454fc67dd18e6e9d42df", func := "loop.example/g01316/laws.FnExactFewestRounds", spec := "fnExactFewestRounds", recurses := true, apart := false }
def FnExactFewestRoundsSaid : Prop := fnExactFewestRoundsRow.holds Try.pinned (OpenSpec.ofChange fnExactFewestRoundsSpec)

/-- ITS FALSE NEIGHBOUR: 'it returns false'. Refute it at one input. -/
def fnExactFewestRoundsWrong : ChangeSpec := { name := "fnExactFewestRounds", fn := fun _ => fun
  | [d] => { results := [.lit (.bool false)], args := [d] }
  | _ => none }
def FnExactFewestRoundsWrongFalsely : Prop := fnExactFewestRoundsRow.holds Try.pinned (OpenSpec.ofChange fnExactFewestRoundsWrong)

/-- 'laws.FnExactFirstPlan': WHATEVER THE INPUT: true; the input reads as it did. -/
def fnExactFirstPlanSpec : ChangeSpec := { name := "fnExactFirstPlan", fn := fun _ => fun
  | [d] => { results := [.lit (.bool true)], args := [d] }
  | _ => none }
def fnExactFirstPlanRow : OpenClaim := { program := "ytnlmalicpckfbaa", sum := "d80f812916b45db2ead1d97921b15e881c830c19e959454fc67dd18e6e9d42df", func := "loop.example/g01316/laws.FnExactFirstPlan", spec := "fnExactFirstPlan", unfollowed := true, recurses := true, apart := false }
def FnExactFirstPlanSaid : Prop := fnExactFirstPlanRow.holds Try.pinned (OpenSpec.ofChange fnExactFirstPlanSpec)

/-- ITS FALSE NEIGHBOUR: 'it returns false'. Refute it at one input. -/
def fnExactFirstPlanWrong : ChangeSpec := { name := "fnExactFirstPlan", fn := fun _ => fun
  | [d] => { results := [.lit (.bool false)], args := [d] }
  | _ => none }
def FnExactFirstPlanWrongFalsely : Prop := fnExactFirstPlanRow.holds Try.pinned (OpenSpec.ofChange fnExactFirstPlanWrong)

/-- 'laws.FnExactFirstLetters': WHATEVER THE INPUT: true; the input reads as it did. -/
def fnExactFirstLettersSpec : ChangeSpec := { name := "fnExactFirstLetters", fn := fun _ => fun
  | [d] => { results := [.lit (.bool true)], args := [d] }
  | _ => none }
def fnExactFirstLettersRow : OpenClaim := { program := "ytnlmalicpckfbaa", sum := "d80f812916b45db2ead1d97921b15e881c830c19e959454fc67dd18e6e9d42df", func := "loop.example/g01316/laws.FnExactFirstLetters", spec := "fnExactFirstLetters", unfollowed := true, recurses := true, apart := false }
def FnExactFirstLettersSaid : Prop := fnExactFirstLettersRow.holds Try.pinned (OpenSpec.ofChange fnExactFirstLettersSpec)

/-- ITS FALSE NEIGHBOUR: 'it returns false'. Refute it at one input. -/
def fnExactFirstLettersWrong : ChangeSpec := { name := "fnExactFirstLetters", fn := fun _ => fun
  | [d] => { results := [.lit (.bool false)], args := [d] }
  | _ => none }
def FnExactFirstLettersWrongFalsely : Prop := fnExactFirstLettersRow.holds Try.pinned (OpenSpec.ofChange fnExactFirstLettersWrong)

/-- 'laws.FnExactFirstRounds': WHATEVER THE INPUT: true; the input reads as it did. -/
def fnExactFirstRoundsSpec : ChangeSpec := { name := "fnExactFirstRounds", fn := fun _ => fun
  | [d] => { results := [.lit (.bool true)], args := [d] }
  | _ => none }
def fnExactFirstRoundsRow : OpenClaim := { program := "ytnlmalicpckfbaa", sum := "d80f812916b45db2ead1d97921b15e881c830c19e959454fc67dd18e6e9d42df", func := "loop.example/g01316/laws.FnExactFirstRounds", spec := "fnExactFirstRounds", unfollowed := true, recurses := true, apart := false }
def FnExactFirstRoundsSaid : Prop := fnExactFirstRoundsRow.holds Try.pinned (OpenSpec.ofChange fnExactFirstRoundsSpec)

/-- ITS FALSE NEIGHBOUR: 'it returns false'. Refute it at one input. -/
def fnExactFirstRoundsWrong : ChangeSpec := { name := "fnExactFirstRounds", fn := fun _ => fun
  | [d] => { results := [.lit (.bool false)], args := [d] }
  | _ => none }
def FnExactFirstRoundsWrongFalsely : Prop := fnExactFirstRoundsRow.holds Try.pinned (OpenSpec.ofChange fnExactFirstRoundsWrong)

/-- 'laws.FnExactCallsText': WHATEVER THE INPUT: true; the input reads as it did. -/
def fnExactCallsTextSpec : ChangeSpec := { name := "fnExactCallsText", fn := fun _ => fun
  | [d] => { results := [.lit (.bool true)], args := [d] }
  | _ => none }
def fnExactCallsTextRow : OpenClaim := { program := "ytnlmalicpckfbaa", sum := "d80f812916b45db2ead1d97921b15e881c830c19e959454fc67dd18e6e9d42df", func := "loop.example/g01316/laws.FnExactCallsText", spec := "fnExactCallsText", inPlace := ["internal/abi.NoEscape", "internal/bytealg.MakeNoZero"], unfollowed := true, recurses := true, apart := false }
def FnExactCallsTextSaid : Prop := fnExactCallsTextRow.holds Try.pinned (OpenSpec.ofChange fnExactCallsTextSpec)

/-- ITS FALSE NEIGHBOUR: 'it returns false'. Refute it at one input. -/
def fnExactCallsTextWrong : ChangeSpec := { name := "fnExactCallsText", fn := fun _ => fun
  | [d] => { results := [.lit (.bool false)], args := [d] }
  | _ => none }
def FnExactCallsTextWrongFalsely : Prop := fnExactCallsTextRow.holds Try.pinned (OpenSpec.ofChange fnExactCallsTextWrong)

/-- 'laws.FnExactLettersText': WHATEVER THE INPUT: true; the input reads as it did. -/
def fnExactLettersTextSpec : ChangeSpec := { name := "fnExactLettersText", fn := fun _ => fun
  | [d] => { results := [.lit (.bool true)], args := [d] }
  | _ => none }
def fnExactLettersTextRow : OpenClaim := { program := "ytnlmalicpckfbaa", sum := "d80f812916b45db2ead1d97921b15e881c830c19e959454fc67dd18e6e9d42df", func := "loop.example/g01316/laws.FnExactLettersText", spec := "fnExactLettersText", inPlace := ["internal/abi.NoEscape", "internal/bytealg.MakeNoZero"], unfollowed := true, recurses := true, apart := false }
def FnExactLettersTextSaid : Prop := fnExactLettersTextRow.holds Try.pinned (OpenSpec.ofChange fnExactLettersTextSpec)

/-- ITS FALSE NEIGHBOUR: 'it returns false'. Refute it at one input. -/
def fnExactLettersTextWrong : ChangeSpec := { name := "fnExactLettersText", fn := fun _ => fun
  | [d] => { results := [.lit (.bool false)], args := [d] }
  | _ => none }
def FnExactLettersTextWrongFalsely : Prop := fnExactLettersTextRow.holds Try.pinned (OpenSpec.ofChange fnExactLettersTextWrong)

/-- 'laws.FnExactRoundsText': WHATEVER THE INPUT: true; the input reads as it did. -/
def fnExactRoundsTextSpec : ChangeSpec := { name := "fnExactRoundsText", fn := fun _ => fun
  | [d] => { results := [.lit (.bool true)], args := [d] }
  | _ => none }
def fnExactRoundsTextRow : OpenClaim := { program := "ytnlmalicpckfbaa", sum := "d80f812916b45db2ead1d97921b15e881c830c19e959454fc67dd18e6e9d42df", func := "loop.example/g01316/laws.FnExactRoundsText", spec := "fnExactRoundsText", inPlace := ["internal/abi.NoEscape", "internal/bytealg.MakeNoZero"], unfollowed := true, recurses := true, apart := false }
def FnExactRoundsTextSaid : Prop := fnExactRoundsTextRow.holds Try.pinned (OpenSpec.ofChange fnExactRoundsTextSpec)

/-- ITS FALSE NEIGHBOUR: 'it returns false'. Refute it at one input. -/
def fnExactRoundsTextWrong : ChangeSpec := { name := "fnExactRoundsText", fn := fun _ => fun
  | [d] => { results := [.lit (.bool false)], args := [d] }
  | _ => none }
def FnExactRoundsTextWrongFalsely : Prop := fnExactRoundsTextRow.holds Try.pinned (OpenSpec.ofChange fnExactRoundsTextWrong)

/- THE SECOND FORM. 'bulk': how many values and letters a reading holds, each counted each time it is reached (what is shared counts as often as it is met; a slice's spare places count too). A statement '..UptoSaid' is the law's where the arguments, and the package variables that the reading takes, are together of bulk at most 1048576: NARROWER than '..Said'. Prove '..Said' where nothing that the law and all that it calls make is longer than what came in: it says more and counts as full. Else prove '..UptoSaid'. A law counts once. -/
mutual
def uptoBulk {H : Type} : DataW H → Nat
  | .lit (.string bytes) => bytes.length + 1
  | .lit _ => 1
  | .nil => 1
  | .ptr d => uptoBulk d + 1
  | .slice elems spare => uptoBulkAll elems + uptoBulkAll spare + 1
  | .agg parts => uptoBulkAll parts + 1
  | .iface _ d => uptoBulk d + 1
  | .map entries => uptoBulkEntries entries + 1
  | .held _ => 1
def uptoBulkAll {H : Type} : List (DataW H) → Nat
  | [] => 0
  | d :: r => uptoBulk d + uptoBulkAll r
def uptoBulkEntries {H : Type} : List (Lit × DataW H) → Nat
  | [] => 0
  | x :: r => uptoBulkEntry x + uptoBulkEntries r
def uptoBulkEntry {H : Type} : Lit × DataW H → Nat
  | (.string bytes, d) => bytes.length + uptoBulk d + 1
  | (_, d) => uptoBulk d + 1
 end
def uptoSmall : (H : Type) → List (DataW H) → Bool := fun _ ds => decide (uptoBulkAll ds ≤ 1048576)
def OpenSpec.upto (s : _root_.Go.ChangeSpec) : _root_.Go.OpenSpec := { _root_.Go.OpenSpec.ofChange s with cond := some uptoSmall }

/-- 'laws.FnExactFewestRounds', WHERE WHAT IT READS IS OF BULK AT MOST 1048576: true; the input reads as it did. -/
def fnExactFewestRoundsUptoRow : OpenClaim := { program := "ytnlmalicpckfbaa", sum := "d80f812916b45db2ead1d97921b15e881c830c19e959454fc67dd18e6e9d42df", func := "loop.example/g01316/laws.FnExactFewestRounds", spec := "fnExactFewestRounds", recurses := true, apart := false, narrowed := true }
def FnExactFewestRoundsUptoSaid : Prop := fnExactFewestRoundsUptoRow.holds Try.pinned (OpenSpec.upto fnExactFewestRoundsSpec)

/-- 'laws.FnExactFirstPlan', WHERE WHAT IT READS IS OF BULK AT MOST 1048576: true; the input reads as it did. -/
def fnExactFirstPlanUptoRow : OpenClaim := { program := "ytnlmalicpckfbaa", sum := "d80f812916b45db2ead1d97921b15e881c830c19e959454fc67dd18e6e9d42df", func := "loop.example/g01316/laws.FnExactFirstPlan", spec := "fnExactFirstPlan", unfollowed := true, recurses := true, apart := false, narrowed := true }
def FnExactFirstPlanUptoSaid : Prop := fnExactFirstPlanUptoRow.holds Try.pinned (OpenSpec.upto fnExactFirstPlanSpec)

/-- 'laws.FnExactFirstLetters', WHERE WHAT IT READS IS OF BULK AT MOST 1048576: true; the input reads as it did. -/
def fnExactFirstLettersUptoRow : OpenClaim := { program := "ytnlmalicpckfbaa", sum := "d80f812916b45db2ead1d97921b15e881c830c19e959454fc67dd18e6e9d42df", func := "loop.example/g01316/laws.FnExactFirstLetters", spec := "fnExactFirstLetters", unfollowed := true, recurses := true, apart := false, narrowed := true }
def FnExactFirstLettersUptoSaid : Prop := fnExactFirstLettersUptoRow.holds Try.pinned (OpenSpec.upto fnExactFirstLettersSpec)

/-- 'laws.FnExactFirstRounds', WHERE WHAT IT READS IS OF BULK AT MOST 1048576: true; the input reads as it did. -/
def fnExactFirstRoundsUptoRow : OpenClaim := { program := "ytnlmalicpckfbaa", sum := "d80f812916b45db2ead1d97921b15e881c830c19e959454fc67dd18e6e9d42df", func := "loop.example/g01316/laws.FnExactFirstRounds", spec := "fnExactFirstRounds", unfollowed := true, recurses := true, apart := false, narrowed := true }
def FnExactFirstRoundsUptoSaid : Prop := fnExactFirstRoundsUptoRow.holds Try.pinned (OpenSpec.upto fnExactFirstRoundsSpec)

/-- 'laws.FnExactCallsText', WHERE WHAT IT READS IS OF BULK AT MOST 1048576: true; the input reads as it did. -/
def fnExactCallsTextUptoRow : OpenClaim := { program := "ytnlmalicpckfbaa", sum := "d80f812916b45db2ead1d97921b15e881c830c19e959454fc67dd18e6e9d42df", func := "loop.example/g01316/laws.FnExactCallsText", spec := "fnExactCallsText", inPlace := ["internal/abi.NoEscape", "internal/bytealg.MakeNoZero"], unfollowed := true, recurses := true, apart := false, narrowed := true }
def FnExactCallsTextUptoSaid : Prop := fnExactCallsTextUptoRow.holds Try.pinned (OpenSpec.upto fnExactCallsTextSpec)

/-- 'laws.FnExactLettersText', WHERE WHAT IT READS IS OF BULK AT MOST 1048576: true; the input reads as it did. -/
def fnExactLettersTextUptoRow : OpenClaim := { program := "ytnlmalicpckfbaa", sum := "d80f812916b45db2ead1d97921b15e881c830c19e959454fc67dd18e6e9d42df", func := "loop.example/g01316/laws.FnExactLettersText", spec := "fnExactLettersText", inPlace := ["internal/abi.NoEscape", "internal/bytealg.MakeNoZero"], unfollowed := true, recurses := true, apart := false, narrowed := true }
def FnExactLettersTextUptoSaid : Prop := fnExactLettersTextUptoRow.holds Try.pinned (OpenSpec.upto fnExactLettersTextSpec)

/-- 'laws.FnExactRoundsText', WHERE WHAT IT READS IS OF BULK AT MOST 1048576: true; the input reads as it did. -/
def fnExactRoundsTextUptoRow : OpenClaim := { program := "ytnlmalicpckfbaa", sum := "d80f812916b45db2ead1d97921b15e881c830c19e959454fc67dd18e6e9d42df", func := "loop.example/g01316/laws.FnExactRoundsText", spec := "fnExactRoundsText", inPlace := ["internal/abi.NoEscape", "internal/bytealg.MakeNoZero"], unfollowed := true, recurses := true, apart := false, narrowed := true }
def FnExactRoundsTextUptoSaid : Prop := fnExactRoundsTextUptoRow.holds Try.pinned (OpenSpec.upto fnExactRoundsTextSpec)

end Rows
end Go.Proofs.Ytnlmalicpckfbaa
