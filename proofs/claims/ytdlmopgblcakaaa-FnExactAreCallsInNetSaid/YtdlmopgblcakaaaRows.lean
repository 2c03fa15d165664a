/-
  No cell of these rows narrows 'for every input' (looked for: loops, veiled, ifaces, maps, wideKeys, modest, calm, conditions, laid).
  DERIVED. THE GIVEN ROWS OF THIS SEAT. 11 by the template 'for every input the law returns true; each argument reads behind the call as it read before'; 0 by the template 'total and deterministic' (their statements: YtdlmopgblcakaaaTotals.lean).
  GIVEN WITH THE SEED: the statements are not yours to turn. If you find one false, say at which input.
  Laid BY PROGRAM, IN A SANDBOX (cutbox-rows.mjs): the forced cells as the released guide's own fill.sh prints them over the translation 567c1ea8c31402cb… (all of the seat's roots in one cut). By AI agents, Wed Nov 11 2026. No macro, syntax, notation, axiom, sorry.
-/
import Derived.Test.YtdlmopgblcakaaaChecked
import GoSem.Claim
import GoSem.ClaimJoined
import GoSem.ClaimMapViews
import Derived.JoinedTies
import Derived.KernelRfl
namespace Go.Proofs.Ytdlmopgblcakaaa
/- THE CELL 'sum', in the pinned program and in every row, IS THE sha256 OF THE DUMP (.gsa) THAT YtdlmopgblcakaaaProg.lean LOADS. Nothing in Lean hashes anything: it is a label: what it is worth is what the hold of that sum in a sandbox is worth. -/
noncomputable def Try.pinned : Pinned := { name := "ytdlmopgblcakaaa", sum := "567c1ea8c31402cb2d9938aa598e518c837cb85e893a5aae9616c9d86a9b7afd", checked := Try.checked }
namespace Rows
def none {H : Type} : Left H := { results := [], args := [] }

/-- 'laws.FnExactWholeNet': WHATEVER THE INPUT: true; the input reads as it did. -/
def fnExactWholeNetSpec : ChangeSpec := { name := "fnExactWholeNet", fn := fun _ => fun
  | [d] => { results := [.lit (.bool true)], args := [d] }
  | _ => none }
def fnExactWholeNetRow : OpenClaim := { program := "ytdlmopgblcakaaa", sum := "567c1ea8c31402cb2d9938aa598e518c837cb85e893a5aae9616c9d86a9b7afd", func := "loop.example/g01316/laws.FnExactWholeNet", spec := "fnExactWholeNet", apart := false }
def FnExactWholeNetSaid : Prop := fnExactWholeNetRow.holds Try.pinned (OpenSpec.ofChange fnExactWholeNetSpec)

/-- ITS FALSE NEIGHBOUR: 'it returns false'. Refute it at one input. -/
def fnExactWholeNetWrong : ChangeSpec := { name := "fnExactWholeNet", fn := fun _ => fun
  | [d] => { results := [.lit (.bool false)], args := [d] }
  | _ => none }
def FnExactWholeNetWrongFalsely : Prop := fnExactWholeNetRow.holds Try.pinned (OpenSpec.ofChange fnExactWholeNetWrong)

/-- 'laws.FnExactArePairs': WHATEVER THE INPUT: true; the input reads as it did. -/
def fnExactArePairsSpec : ChangeSpec := { name := "fnExactArePairs", fn := fun _ => fun
  | [d1, d2] => { results := [.lit (.bool true)], args := [d1, d2] }
  | _ => none }
def fnExactArePairsRow : OpenClaim := { program := "ytdlmopgblcakaaa", sum := "567c1ea8c31402cb2d9938aa598e518c837cb85e893a5aae9616c9d86a9b7afd", func := "loop.example/g01316/laws.FnExactArePairs", spec := "fnExactArePairs", apart := false }
def FnExactArePairsSaid : Prop := fnExactArePairsRow.holds Try.pinned (OpenSpec.ofChange fnExactArePairsSpec)

/-- ITS FALSE NEIGHBOUR: 'it returns false'. Refute it at one input. -/
def fnExactArePairsWrong : ChangeSpec := { name := "fnExactArePairs", fn := fun _ => fun
  | [d1, d2] => { results := [.lit (.bool false)], args := [d1, d2] }
  | _ => none }
def FnExactArePairsWrongFalsely : Prop := fnExactArePairsRow.holds Try.pinned (OpenSpec.ofChange fnExactArePairsWrong)

/-- 'laws.FnExactStarNet': WHATEVER THE INPUT: true; the input reads as it did. -/
def fnExactStarNetSpec : ChangeSpec := { name := "fnExactStarNet", fn := fun _ => fun
  | [d1, d2] => { results := [.lit (.bool true)], args := [d1, d2] }
  | _ => none }
def fnExactStarNetRow : OpenClaim := { program := "ytdlmopgblcakaaa", sum := "567c1ea8c31402cb2d9938aa598e518c837cb85e893a5aae9616c9d86a9b7afd", func := "loop.example/g01316/laws.FnExactStarNet", spec := "fnExactStarNet", unfollowed := true, recurses := true, apart := false }
def FnExactStarNetSaid : Prop := fnExactStarNetRow.holds Try.pinned (OpenSpec.ofChange fnExactStarNetSpec)

/-- ITS FALSE NEIGHBOUR: 'it returns false'. Refute it at one input. -/
def fnExactStarNetWrong : ChangeSpec := { name := "fnExactStarNet", fn := fun _ => fun
  | [d1, d2] => { results := [.lit (.bool false)], args := [d1, d2] }
  | _ => none }
def FnExactStarNetWrongFalsely : Prop := fnExactStarNetRow.holds Try.pinned (OpenSpec.ofChange fnExactStarNetWrong)

/-- 'laws.FnExactDegreesOf': WHATEVER THE INPUT: true; the input reads as it did. -/
def fnExactDegreesOfSpec : ChangeSpec := { name := "fnExactDegreesOf", fn := fun _ => fun
  | [d1, d2] => { results := [.lit (.bool true)], args := [d1, d2] }
  | _ => none }
def fnExactDegreesOfRow : OpenClaim := { program := "ytdlmopgblcakaaa", sum := "567c1ea8c31402cb2d9938aa598e518c837cb85e893a5aae9616c9d86a9b7afd", func := "loop.example/g01316/laws.FnExactDegreesOf", spec := "fnExactDegreesOf", apart := false }
def FnExactDegreesOfSaid : Prop := fnExactDegreesOfRow.holds Try.pinned (OpenSpec.ofChange fnExactDegreesOfSpec)

/-- ITS FALSE NEIGHBOUR: 'it returns false'. Refute it at one input. -/
def fnExactDegreesOfWrong : ChangeSpec := { name := "fnExactDegreesOf", fn := fun _ => fun
  | [d1, d2] => { results := [.lit (.bool false)], args := [d1, d2] }
  | _ => none }
def FnExactDegreesOfWrongFalsely : Prop := fnExactDegreesOfRow.holds Try.pinned (OpenSpec.ofChange fnExactDegreesOfWrong)

/-- 'laws.FnExactDropPair': WHATEVER THE INPUT: true; the input reads as it did. -/
def fnExactDropPairSpec : ChangeSpec := { name := "fnExactDropPair", fn := fun _ => fun
  | [d1, d2, d3] => { results := [.lit (.bool true)], args := [d1, d2, d3] }
  | _ => none }
def fnExactDropPairRow : OpenClaim := { program := "ytdlmopgblcakaaa", sum := "567c1ea8c31402cb2d9938aa598e518c837cb85e893a5aae9616c9d86a9b7afd", func := "loop.example/g01316/laws.FnExactDropPair", spec := "fnExactDropPair", apart := false }
def FnExactDropPairSaid : Prop := fnExactDropPairRow.holds Try.pinned (OpenSpec.ofChange fnExactDropPairSpec)

/-- ITS FALSE NEIGHBOUR: 'it returns false'. Refute it at one input. -/
def fnExactDropPairWrong : ChangeSpec := { name := "fnExactDropPair", fn := fun _ => fun
  | [d1, d2, d3] => { results := [.lit (.bool false)], args := [d1, d2, d3] }
  | _ => none }
def FnExactDropPairWrongFalsely : Prop := fnExactDropPairRow.holds Try.pinned (OpenSpec.ofChange fnExactDropPairWrong)

/-- 'laws.FnExactAreCallsInNet': WHATEVER THE INPUT: true; the input reads as it did. -/
def fnExactAreCallsInNetSpec : ChangeSpec := { name := "fnExactAreCallsInNet", fn := fun _ => fun
  | [d1, d2, d3] => { results := [.lit (.bool true)], args := [d1, d2, d3] }
  | _ => none }
def fnExactAreCallsInNetRow : OpenClaim := { program := "ytdlmopgblcakaaa", sum := "567c1ea8c31402cb2d9938aa598e518c837cb85e893a5aae9616c9d86a9b7afd", func := "loop.example/g01316/laws.FnExactAreCallsInNet", spec := "fnExactAreCallsInNet", unfollowed := true, recurses := true, apart := false }
def FnExactAreCallsInNetSaid : Prop := fnExactAreCallsInNetRow.holds Try.pinned (OpenSpec.ofChange fnExactAreCallsInNetSpec)

/-- ITS FALSE NEIGHBOUR: 'it returns false'. Refute it at one input. -/
def fnExactAreCallsInNetWrong : ChangeSpec := { name := "fnExactAreCallsInNet", fn := fun _ => fun
  | [d1, d2, d3] => { results := [.lit (.bool false)], args := [d1, d2, d3] }
  | _ => none }
def FnExactAreCallsInNetWrongFalsely : Prop := fnExactAreCallsInNetRow.holds Try.pinned (OpenSpec.ofChange fnExactAreCallsInNetWrong)

/-- 'laws.FnExactCountSquares': WHATEVER THE INPUT: true; the input reads as it did. -/
def fnExactCountSquaresSpec : ChangeSpec := { name := "fnExactCountSquares", fn := fun _ => fun
  | [d1, d2] => { results := [.lit (.bool true)], args := [d1, d2] }
  | _ => none }
def fnExactCountSquaresRow : OpenClaim := { program := "ytdlmopgblcakaaa", sum := "567c1ea8c31402cb2d9938aa598e518c837cb85e893a5aae9616c9d86a9b7afd", func := "loop.example/g01316/laws.FnExactCountSquares", spec := "fnExactCountSquares", apart := false }
def FnExactCountSquaresSaid : Prop := fnExactCountSquaresRow.holds Try.pinned (OpenSpec.ofChange fnExactCountSquaresSpec)

/-- ITS FALSE NEIGHBOUR: 'it returns false'. Refute it at one input. -/
def fnExactCountSquaresWrong : ChangeSpec := { name := "fnExactCountSquares", fn := fun _ => fun
  | [d1, d2] => { results := [.lit (.bool false)], args := [d1, d2] }
  | _ => none }
def FnExactCountSquaresWrongFalsely : Prop := fnExactCountSquaresRow.holds Try.pinned (OpenSpec.ofChange fnExactCountSquaresWrong)

/-- 'laws.FnExactCircleNet': WHATEVER THE INPUT: true; the input reads as it did. -/
def fnExactCircleNetSpec : ChangeSpec := { name := "fnExactCircleNet", fn := fun _ => fun
  | [d] => { results := [.lit (.bool true)], args := [d] }
  | _ => none }
def fnExactCircleNetRow : OpenClaim := { program := "ytdlmopgblcakaaa", sum := "567c1ea8c31402cb2d9938aa598e518c837cb85e893a5aae9616c9d86a9b7afd", func := "loop.example/g01316/laws.FnExactCircleNet", spec := "fnExactCircleNet", inPlace := ["slices.overlaps[loop.example/g01316/impl.Call]"], apart := false }
def FnExactCircleNetSaid : Prop := fnExactCircleNetRow.holds Try.pinned (OpenSpec.ofChange fnExactCircleNetSpec)

/-- ITS FALSE NEIGHBOUR: 'it returns false'. Refute it at one input. -/
def fnExactCircleNetWrong : ChangeSpec := { name := "fnExactCircleNet", fn := fun _ => fun
  | [d] => { results := [.lit (.bool false)], args := [d] }
  | _ => none }
def FnExactCircleNetWrongFalsely : Prop := fnExactCircleNetRow.holds Try.pinned (OpenSpec.ofChange fnExactCircleNetWrong)

/-- 'laws.FnExactFirstSquare': WHATEVER THE INPUT: true; the input reads as it did. -/
def fnExactFirstSquareSpec : ChangeSpec := { name := "fnExactFirstSquare", fn := fun _ => fun
  | [d1, d2] => { results := [.lit (.bool true)], args := [d1, d2] }
  | _ => none }
def fnExactFirstSquareRow : OpenClaim := { program := "ytdlmopgblcakaaa", sum := "567c1ea8c31402cb2d9938aa598e518c837cb85e893a5aae9616c9d86a9b7afd", func := "loop.example/g01316/laws.FnExactFirstSquare", spec := "fnExactFirstSquare", apart := false }
def FnExactFirstSquareSaid : Prop := fnExactFirstSquareRow.holds Try.pinned (OpenSpec.ofChange fnExactFirstSquareSpec)

/-- ITS FALSE NEIGHBOUR: 'it returns false'. Refute it at one input. -/
def fnExactFirstSquareWrong : ChangeSpec := { name := "fnExactFirstSquare", fn := fun _ => fun
  | [d1, d2] => { results := [.lit (.bool false)], args := [d1, d2] }
  | _ => none }
def FnExactFirstSquareWrongFalsely : Prop := fnExactFirstSquareRow.holds Try.pinned (OpenSpec.ofChange fnExactFirstSquareWrong)

/-- 'laws.FnExactDistanceInNet': WHATEVER THE INPUT: true; the input reads as it did. -/
def fnExactDistanceInNetSpec : ChangeSpec := { name := "fnExactDistanceInNet", fn := fun _ => fun
  | [d1, d2, d3, d4] => { results := [.lit (.bool true)], args := [d1, d2, d3, d4] }
  | _ => none }
def fnExactDistanceInNetRow : OpenClaim := { program := "ytdlmopgblcakaaa", sum := "567c1ea8c31402cb2d9938aa598e518c837cb85e893a5aae9616c9d86a9b7afd", func := "loop.example/g01316/laws.FnExactDistanceInNet", spec := "fnExactDistanceInNet", apart := false }
def FnExactDistanceInNetSaid : Prop := fnExactDistanceInNetRow.holds Try.pinned (OpenSpec.ofChange fnExactDistanceInNetSpec)

/-- ITS FALSE NEIGHBOUR: 'it returns false'. Refute it at one input. -/
def fnExactDistanceInNetWrong : ChangeSpec := { name := "fnExactDistanceInNet", fn := fun _ => fun
  | [d1, d2, d3, d4] => { results := [.lit (.bool false)], args := [d1, d2, d3, d4] }
  | _ => none }
def FnExactDistanceInNetWrongFalsely : Prop := fnExactDistanceInNetRow.holds Try.pinned (OpenSpec.ofChange fnExactDistanceInNetWrong)

/-- 'laws.FnExactIsJoined': WHATEVER THE INPUT: true; the input reads as it did. -/
def fnExactIsJoinedSpec : ChangeSpec := { name := "fnExactIsJoined", fn := fun _ => fun
  | [d1, d2] => { results := [.lit (.bool true)], args := [d1, d2] }
  | _ => none }
def fnExactIsJoinedRow : OpenClaim := { program := "ytdlmopgblcakaaa", sum := "567c1ea8c31402cb2d9938aa598e518c837cb85e893a5aae9616c9d86a9b7afd", func := "loop.example/g01316/laws.FnExactIsJoined", spec := "fnExactIsJoined", apart := false }
def FnExactIsJoinedSaid : Prop := fnExactIsJoinedRow.holds Try.pinned (OpenSpec.ofChange fnExactIsJoinedSpec)

/-- ITS FALSE NEIGHBOUR: 'it returns false'. Refute it at one input. -/
def fnExactIsJoinedWrong : ChangeSpec := { name := "fnExactIsJoined", fn := fun _ => fun
  | [d1, d2] => { results := [.lit (.bool false)], args := [d1, d2] }
  | _ => none }
def FnExactIsJoinedWrongFalsely : Prop := fnExactIsJoinedRow.holds Try.pinned (OpenSpec.ofChange fnExactIsJoinedWrong)

/- THE SECOND FORM. 'bulk': how many values and letters a reading holds, each counted each time it is reached (what is shared counts as often as it is met; a slice's spare places count too). A statement '..UptoSaid' is the law's where the arguments, and the package variables that the reading takes, are together of bulk at most 1048576: NARROWER than '..Said'. Prove '..Said' where nothing that the law and all that it calls make is longer than what came in: it says more and counts as full. Else prove '..UptoSaid'. A law counts once. -/
mutual
def uptoBulk {H : Type} : DataW H → Nat
  | .lit (.string bytes) => bytes.length + 1
  | .lit _ => 1
  | .nil => 1
  | .ptr d => uptoBulk d + 1
  | .slice elems spare => uptoBulkAll elems + uptoBulkAll spare + 1
  | .agg parts => uptoBulkAll parts + 1
  | .iface _ d => uptoBulk d + 1
  | .map entries => uptoBulkEntries entries + 1
  | .held _ => 1
def uptoBulkAll {H : Type} : List (DataW H) → Nat
  | [] => 0
  | d :: r => uptoBulk d + uptoBulkAll r
def uptoBulkEntries {H : Type} : List (Lit × DataW H) → Nat
  | [] => 0
  | x :: r => uptoBulkEntry x + uptoBulkEntries r
def uptoBulkEntry {H : Type} : Lit × DataW H → Nat
  | (.string bytes, d) => bytes.length + uptoBulk d + 1
  | (_, d) => uptoBulk d + 1
 end
def uptoSmall : (H : Type) → List (DataW H) → Bool := fun _ ds => decide (uptoBulkAll ds ≤ 1048576)
def OpenSpec.upto (s : _root_.Go.ChangeSpec) : _root_.Go.OpenSpec := { _root_.Go.OpenSpec.ofChange s with cond := some uptoSmall }

/-- 'laws.FnExactWholeNet', WHERE WHAT IT READS IS OF BULK AT MOST 1048576: true; the input reads as it did. -/
def fnExactWholeNetUptoRow : OpenClaim := { program := "ytdlmopgblcakaaa", sum := "567c1ea8c31402cb2d9938aa598e518c837cb85e893a5aae9616c9d86a9b7afd", func := "loop.example/g01316/laws.FnExactWholeNet", spec := "fnExactWholeNet", apart := false, narrowed := true }
def FnExactWholeNetUptoSaid : Prop := fnExactWholeNetUptoRow.holds Try.pinned (OpenSpec.upto fnExactWholeNetSpec)

/-- 'laws.FnExactArePairs', WHERE WHAT IT READS IS OF BULK AT MOST 1048576: true; the input reads as it did. -/
def fnExactArePairsUptoRow : OpenClaim := { program := "ytdlmopgblcakaaa", sum := "567c1ea8c31402cb2d9938aa598e518c837cb85e893a5aae9616c9d86a9b7afd", func := "loop.example/g01316/laws.FnExactArePairs", spec := "fnExactArePairs", apart := false, narrowed := true }
def FnExactArePairsUptoSaid : Prop := fnExactArePairsUptoRow.holds Try.pinned (OpenSpec.upto fnExactArePairsSpec)

/-- 'laws.FnExactStarNet', WHERE WHAT IT READS IS OF BULK AT MOST 1048576: true; the input reads as it did. -/
def fnExactStarNetUptoRow : OpenClaim := { program := "ytdlmopgblcakaaa", sum := "567c1ea8c31402cb2d9938aa598e518c837cb85e893a5aae9616c9d86a9b7afd", func := "loop.example/g01316/laws.FnExactStarNet", spec := "fnExactStarNet", unfollowed := true, recurses := true, apart := false, narrowed := true }
def FnExactStarNetUptoSaid : Prop := fnExactStarNetUptoRow.holds Try.pinned (OpenSpec.upto fnExactStarNetSpec)

/-- 'laws.FnExactDegreesOf', WHERE WHAT IT READS IS OF BULK AT MOST 1048576: true; the input reads as it did. -/
def fnExactDegreesOfUptoRow : OpenClaim := { program := "ytdlmopgblcakaaa", sum := "567c1ea8c31402cb2d9938aa598e518c837cb85e893a5aae9616c9d86a9b7afd", func := "loop.example/g01316/laws.FnExactDegreesOf", spec := "fnExactDegreesOf", apart := false, narrowed := true }
def FnExactDegreesOfUptoSaid : Prop := fnExactDegreesOfUptoRow.holds Try.pinned (OpenSpec.upto fnExactDegreesOfSpec)

/-- 'laws.FnExactDropPair', WHERE WHAT IT READS IS OF BULK AT MOST 1048576: true; the input reads as it did. -/
def fnExactDropPairUptoRow : OpenClaim := { program := "ytdlmopgblcakaaa", sum := "567c1ea8c31402cb2d9938aa598e518c837cb85e893a5aae9616c9d86a9b7afd", func := "loop.example/g01316/laws.FnExactDropPair", spec := "fnExactDropPair", apart := false, narrowed := true }
def FnExactDropPairUptoSaid : Prop := fnExactDropPairUptoRow.holds Try.pinned (OpenSpec.upto fnExactDropPairSpec)

/-- 'laws.FnExactAreCallsInNet', WHERE WHAT IT READS IS OF BULK AT MOST 1048576: true; the input reads as it did. -/
def fnExactAreCallsInNetUptoRow : OpenClaim := { program := "ytdlmopgblcakaaa", sum := "567c1ea8c31402cb2d9938aa598e518c837cb85e893a5aae9616c9d86a9b7afd", func := "loop.example/g01316/laws.FnExactAreCallsInNet", spec := "fnExactAreCallsInNet", unfollowed := true, recurses := true, apart := false, narrowed := true }
def FnExactAreCallsInNetUptoSaid : Prop := fnExactAreCallsInNetUptoRow.holds Try.pinned (OpenSpec.upto fnExactAreCallsInNetSpec)

/-- 'laws.FnExactCountSquares', WHERE WHAT IT READS IS OF BULK AT MOST 1048576: true; the input reads as it did. -/
def fnExactCountSquaresUptoRow : OpenClaim := { program := "ytdlmopgblcakaaa", sum := "567c1ea8c31402cb2d9938aa598e518c837cb85e893a5aae9616c9d86a9b7afd", func := "loop.example/g01316/laws.FnExactCountSquares", spec := "fnExactCountSquares", apart := false, narrowed := true }
def FnExactCountSquaresUptoSaid : Prop := fnExactCountSquaresUptoRow.holds Try.pinned (OpenSpec.upto fnExactCountSquaresSpec)

/-- 'laws.FnExactCircleNet', WHERE WHAT IT READS IS OF BULK AT MOST 1048576: true; the input reads as it did. -/
def fnExactCircleNetUptoRow : OpenClaim := { program := "ytdlmopgblcakaaa", sum := "567c1ea8c31402cb2d9938aa598e518c837cb85e893a5aae9616c9d86a9b7afd", func := "loop.example/g01316/laws.FnExactCircleNet", spec := "fnExactCircleNet", inPlace := ["slices.overlaps[loop.example/g01316/impl.Call]"], apart := false, narrowed := true }
def FnExactCircleNetUptoSaid : Prop := fnExactCircleNetUptoRow.holds Try.pinned (OpenSpec.upto fnExactCircleNetSpec)

/-- 'laws.FnExactFirstSquare', WHERE WHAT IT READS IS OF BULK AT MOST 1048576: true; the input reads as it did. -/
def fnExactFirstSquareUptoRow : OpenClaim := { program := "ytdlmopgblcakaaa", sum := "567c1ea8c31402cb2d9938aa598e518c837cb85e893a5aae9616c9d86a9b7afd", func := "loop.example/g01316/laws.FnExactFirstSquare", spec := "fnExactFirstSquare", apart := false, narrowed := true }
def FnExactFirstSquareUptoSaid : Prop := fnExactFirstSquareUptoRow.holds Try.pinned (OpenSpec.upto fnExactFirstSquareSpec)

/-- 'laws.FnExactDistanceInNet', WHERE WHAT IT READS IS OF BULK AT MOST 1048576: true; the input reads as it did. -/
def fnExactDistanceInNetUptoRow : OpenClaim := { program := "ytdlmopgblcakaaa", sum := "567c1ea8c31402cb2d9938aa598e518c837cb85e893a5aae9616c9d86a9b7afd", func := "loop.example/g01316/laws.FnExactDistanceInNet", spec := "fnExactDistanceInNet", apart := false, narrowed := true }
def FnExactDistanceInNetUptoSaid : Prop := fnExactDistanceInNetUptoRow.holds Try.pinned (OpenSpec.upto fnExactDistanceInNetSpec)

/-- 'laws.FnExactIsJoined', WHERE WHAT IT READS IS OF BULK AT MOST 1048576: true; the input reads as it did. -/
def fnExactIsJoinedUptoRow : OpenClaim := { program := "ytdlmopgblcakaaa", sum := "567c1ea8c31402cb2d9938aa598e518c837cb85e893a5aae9616c9d86a9b7afd", func := "loop.example/g01316/laws.FnExactIsJoined", spec := "fnExactIsJoined", apart := false, narrowed := true }
def FnExactIsJoinedUptoSaid : Prop := fnExactIsJoinedUptoRow.holds Try.pinned (OpenSpec.upto fnExactIsJoinedSpec)

end Rows
end Go.Proofs.Ytdlmopgblcakaaa
