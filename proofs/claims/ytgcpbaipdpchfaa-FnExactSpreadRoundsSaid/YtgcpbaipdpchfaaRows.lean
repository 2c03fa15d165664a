/-
  No cell of these rows narrows 'for every input' (looked for: loops, veiled, ifaces, maps, wideKeys, modest, calm, conditions, laid).
  DERIVED. THE GIVEN ROWS OF THIS SEAT. 7 by the template 'for every input the law returns true; each argument reads behind the call as it read before'; 0 by the template 'total and deterministic' (their statements: YtgcpbaipdpchfaaTotals.lean).
  GIVEN WITH THE SEED: the statements are not yours to turn. If you find one false, say at which input.
  Laid BY PROGRAM, IN A SANDBOX (cutbox-rows.mjs): the forced cells as the released guide's own fill.sh prints them over the translation 0670123bcc0e3f41… (all of the seat's roots in one cut). By AI agents, Wed Nov 11 2026. No macro, syntax, notation, axiom, sorry.
-/
import Derived.Test.YtgcpbaipdpchfaaChecked
import GoSem.Claim
import GoSem.ClaimJoined
import GoSem.ClaimMapViews
import Derived.JoinedTies
import Derived.KernelRfl
namespace Go.Proofs.Ytgcpbaipdpchfaa
/- THE CELL 'sum', in the pinned program and in every row, IS THE sha256 OF THE DUMP (.gsa) THAT YtgcpbaipdpchfaaProg.lean LOADS. Nothing in Lean hashes anything: it is a label: what it is worth is what the hold of that sum in a sandbox is worth. -/
noncomputable def Try.pinned : Pinned := { name := "ytgcpbaipdpchfaa", sum := "0670123bcc0e3f41471b621e0e9f3bdec55434e28b42ecb495cbffc57cc36733", checked := Try.checked }
namespace Rows
def none {H : Type} : Left H := { results := [], args := [] }

/-- 'laws.FnExactDoublingRounds': WHATEVER THE INPUT: true; the input reads as it did. -/
def fnExactDoublingRoundsSpec : ChangeSpec := { name := "fnExactDoublingRounds", fn := fun _ => fun
  | [d] => { results := [.lit (.bool true)], args := [d] }
  | _ => none }
def fnExactDoublingRoundsRow : OpenClaim := { program := "ytgcpbaipdpchfaa", sum := "0670123bcc0e3f41471b621e0e9f3bdec55434e28b42ecb495cbffc57cc36733", func := "loop.example/g01316/laws.FnExactDoublingRounds", spec := "fnExactDoublingRounds", unfollowed := true, recurses := true, apart := false }
def FnExactDoublingRoundsSaid : Prop := fnExactDoublingRoundsRow.holds Try.pinned (OpenSpec.ofChange fnExactDoublingRoundsSpec)

/-- ITS FALSE NEIGHBOUR: 'it returns false'. Refute it at one input. -/
def fnExactDoublingRoundsWrong : ChangeSpec := { name := "fnExactDoublingRounds", fn := fun _ => fun
  | [d] => { results := [.lit (.bool false)], args := [d] }
  | _ => none }
def FnExactDoublingRoundsWrongFalsely : Prop := fnExactDoublingRoundsRow.holds Try.pinned (OpenSpec.ofChange fnExactDoublingRoundsWrong)

/-- 'laws.FnExactIntoRounds': WHATEVER THE INPUT: true; the input reads as it did. -/
def fnExactIntoRoundsSpec : ChangeSpec := { name := "fnExactIntoRounds", fn := fun _ => fun
  | [d1, d2] => { results := [.lit (.bool true)], args := [d1, d2] }
  | _ => none }
def fnExactIntoRoundsRow : OpenClaim := { program := "ytgcpbaipdpchfaa", sum := "0670123bcc0e3f41471b621e0e9f3bdec55434e28b42ecb495cbffc57cc36733", func := "loop.example/g01316/laws.FnExactIntoRounds", spec := "fnExactIntoRounds", unfollowed := true, recurses := true, apart := false }
def FnExactIntoRoundsSaid : Prop := fnExactIntoRoundsRow.holds Try.pinned (OpenSpec.ofChange fnExactIntoRoundsSpec)

/-- ITS FALSE NEIGHBOUR: 'it returns false'. Refute it at one input. -/
def fnExactIntoRoundsWrong : ChangeSpec := { name := "fnExactIntoRounds", fn := fun _ => fun
  | [d1, d2] => { results := [.lit (.bool false)], args := [d1, d2] }
  | _ => none }
def FnExactIntoRoundsWrongFalsely : Prop := fnExactIntoRoundsRow.holds Try.pinned (OpenSpec.ofChange fnExactIntoRoundsWrong)

/-- 'laws.FnExactAreRounds': WHATEVER THE INPUT: true; the input reads as it did. -/
def fnExactAreRoundsSpec : ChangeSpec := { name := "fnExactAreRounds", fn := fun _ => fun
  | [d1, d2] => { results := [.lit (.bool true)], args := [d1, d2] }
  | _ => none }
def fnExactAreRoundsRow : OpenClaim := { program := "ytgcpbaipdpchfaa", sum := "0670123bcc0e3f41471b621e0e9f3bdec55434e28b42ecb495cbffc57cc36733", func := "loop.example/g01316/laws.FnExactAreRounds", spec := "fnExactAreRounds", unfollowed := true, recurses := true, apart := false }
def FnExactAreRoundsSaid : Prop := fnExactAreRoundsRow.holds Try.pinned (OpenSpec.ofChange fnExactAreRoundsSpec)

/-- ITS FALSE NEIGHBOUR: 'it returns false'. Refute it at one input. -/
def fnExactAreRoundsWrong : ChangeSpec := { name := "fnExactAreRounds", fn := fun _ => fun
  | [d1, d2] => { results := [.lit (.bool false)], args := [d1, d2] }
  | _ => none }
def FnExactAreRoundsWrongFalsely : Prop := fnExactAreRoundsRow.holds Try.pinned (OpenSpec.ofChange fnExactAreRoundsWrong)

/-- 'laws.FnExactRoundsNeeded': WHATEVER THE INPUT: true; the input reads as it did. -/
def fnExactRoundsNeededSpec : ChangeSpec := { name := "fnExactRoundsNeeded", fn := fun _ => fun
  | [d1, d2] => { results := [.lit (.bool true)], args := [d1, d2] }
  | _ => none }
def fnExactRoundsNeededRow : OpenClaim := { program := "ytgcpbaipdpchfaa", sum := "0670123bcc0e3f41471b621e0e9f3bdec55434e28b42ecb495cbffc57cc36733", func := "loop.example/g01316/laws.FnExactRoundsNeeded", spec := "fnExactRoundsNeeded", unfollowed := true, recurses := true, apart := false }
def FnExactRoundsNeededSaid : Prop := fnExactRoundsNeededRow.holds Try.pinned (OpenSpec.ofChange fnExactRoundsNeededSpec)

/-- ITS FALSE NEIGHBOUR: 'it returns false'. Refute it at one input. -/
def fnExactRoundsNeededWrong : ChangeSpec := { name := "fnExactRoundsNeeded", fn := fun _ => fun
  | [d1, d2] => { results := [.lit (.bool false)], args := [d1, d2] }
  | _ => none }
def FnExactRoundsNeededWrongFalsely : Prop := fnExactRoundsNeededRow.holds Try.pinned (OpenSpec.ofChange fnExactRoundsNeededWrong)

/-- 'laws.FnExactCallsOfRounds': WHATEVER THE INPUT: true; the input reads as it did. -/
def fnExactCallsOfRoundsSpec : ChangeSpec := { name := "fnExactCallsOfRounds", fn := fun _ => fun
  | [d1, d2] => { results := [.lit (.bool true)], args := [d1, d2] }
  | _ => none }
def fnExactCallsOfRoundsRow : OpenClaim := { program := "ytgcpbaipdpchfaa", sum := "0670123bcc0e3f41471b621e0e9f3bdec55434e28b42ecb495cbffc57cc36733", func := "loop.example/g01316/laws.FnExactCallsOfRounds", spec := "fnExactCallsOfRounds", unfollowed := true, recurses := true, apart := false }
def FnExactCallsOfRoundsSaid : Prop := fnExactCallsOfRoundsRow.holds Try.pinned (OpenSpec.ofChange fnExactCallsOfRoundsSpec)

/-- ITS FALSE NEIGHBOUR: 'it returns false'. Refute it at one input. -/
def fnExactCallsOfRoundsWrong : ChangeSpec := { name := "fnExactCallsOfRounds", fn := fun _ => fun
  | [d1, d2] => { results := [.lit (.bool false)], args := [d1, d2] }
  | _ => none }
def FnExactCallsOfRoundsWrongFalsely : Prop := fnExactCallsOfRoundsRow.holds Try.pinned (OpenSpec.ofChange fnExactCallsOfRoundsWrong)

/-- 'laws.FnExactKnownByRounds': WHATEVER THE INPUT: true; the input reads as it did. -/
def fnExactKnownByRoundsSpec : ChangeSpec := { name := "fnExactKnownByRounds", fn := fun _ => fun
  | [d1, d2] => { results := [.lit (.bool true)], args := [d1, d2] }
  | _ => none }
def fnExactKnownByRoundsRow : OpenClaim := { program := "ytgcpbaipdpchfaa", sum := "0670123bcc0e3f41471b621e0e9f3bdec55434e28b42ecb495cbffc57cc36733", func := "loop.example/g01316/laws.FnExactKnownByRounds", spec := "fnExactKnownByRounds", unfollowed := true, recurses := true, apart := false }
def FnExactKnownByRoundsSaid : Prop := fnExactKnownByRoundsRow.holds Try.pinned (OpenSpec.ofChange fnExactKnownByRoundsSpec)

/-- ITS FALSE NEIGHBOUR: 'it returns false'. Refute it at one input. -/
def fnExactKnownByRoundsWrong : ChangeSpec := { name := "fnExactKnownByRounds", fn := fun _ => fun
  | [d1, d2] => { results := [.lit (.bool false)], args := [d1, d2] }
  | _ => none }
def FnExactKnownByRoundsWrongFalsely : Prop := fnExactKnownByRoundsRow.holds Try.pinned (OpenSpec.ofChange fnExactKnownByRoundsWrong)

/-- 'laws.FnExactSpreadRounds': WHATEVER THE INPUT: true; the input reads as it did. -/
def fnExactSpreadRoundsSpec : ChangeSpec := { name := "fnExactSpreadRounds", fn := fun _ => fun
  | [d1, d2, d3] => { results := [.lit (.bool true)], args := [d1, d2, d3] }
  | _ => none }
def fnExactSpreadRoundsRow : OpenClaim := { program := "ytgcpbaipdpchfaa", sum := "0670123bcc0e3f41471b621e0e9f3bdec55434e28b42ecb495cbffc57cc36733", func := "loop.example/g01316/laws.FnExactSpreadRounds", spec := "fnExactSpreadRounds", unfollowed := true, recurses := true, apart := false }
def FnExactSpreadRoundsSaid : Prop := fnExactSpreadRoundsRow.holds Try.pinned (OpenSpec.ofChange fnExactSpreadRoundsSpec)

/-- ITS FALSE NEIGHBOUR: 'it returns false'. Refute it at one input. -/
def fnExactSpreadRoundsWrong : ChangeSpec := { name := "fnExactSpreadRounds", fn := fun _ => fun
  | [d1, d2, d3] => { results := [.lit (.bool false)], args := [d1, d2, d3] }
  | _ => none }
def FnExactSpreadRoundsWrongFalsely : Prop := fnExactSpreadRoundsRow.holds Try.pinned (OpenSpec.ofChange fnExactSpreadRoundsWrong)

/- THE SECOND FORM. 'bulk': how many values and letters a reading holds, each counted each time it is reached (what is shared counts as often as it is met; a slice's spare places count too). A statement '..UptoSaid' is the law's where the arguments, and the package variables that the reading takes, are together of bulk at most 1048576: NARROWER than '..Said'. Prove '..Said' where nothing that the law and all that it calls make is longer than what came in: it says more and counts as full. Else prove '..UptoSaid'. A law counts once. -/
mutual
def uptoBulk {H : Type} : DataW H → Nat
  | .lit (.string bytes) => bytes.length + 1
  | .lit _ => 1
  | .nil => 1
  | .ptr d => uptoBulk d + 1
  | .slice elems spare => uptoBulkAll elems + uptoBulkAll spare + 1
  | .agg parts => uptoBulkAll parts + 1
  | .iface _ d => uptoBulk d + 1
  | .map entries => uptoBulkEntries entries + 1
  | .held _ => 1
def uptoBulkAll {H : Type} : List (DataW H) → Nat
  | [] => 0
  | d :: r => uptoBulk d + uptoBulkAll r
def uptoBulkEntries {H : Type} : List (Lit × DataW H) → Nat
  | [] => 0
  | x :: r => uptoBulkEntry x + uptoBulkEntries r
def uptoBulkEntry {H : Type} : Lit × DataW H → Nat
  | (.string bytes, d) => bytes.length + uptoBulk d + 1
  | (_, d) => uptoBulk d + 1
 end
def uptoSmall : (H : Type) → List (DataW H) → Bool := fun _ ds => decide (uptoBulkAll ds ≤ 1048576)
def OpenSpec.upto (s : _root_.Go.ChangeSpec) : _root_.Go.OpenSpec := { _root_.Go.OpenSpec.ofChange s with cond := some uptoSmall }

/-- 'laws.FnExactDoublingRounds', WHERE WHAT IT READS IS OF BULK AT MOST 1048576: true; the input reads as it did. -/
def fnExactDoublingRoundsUptoRow : OpenClaim := { program := "ytgcpbaipdpchfaa", sum := "0670123bcc0e3f41471b621e0e9f3bdec55434e28b42ecb495cbffc57cc36733", func := "loop.example/g01316/laws.FnExactDoublingRounds", spec := "fnExactDoublingRounds", unfollowed := true, recurses := true, apart := false, narrowed := true }
def FnExactDoublingRoundsUptoSaid : Prop := fnExactDoublingRoundsUptoRow.holds Try.pinned (OpenSpec.upto fnExactDoublingRoundsSpec)

/-- 'laws.FnExactIntoRounds', WHERE WHAT IT READS IS OF BULK AT MOST 1048576: true; the input reads as it did. -/
def fnExactIntoRoundsUptoRow : OpenClaim := { program := "ytgcpbaipdpchfaa", sum := "0670123bcc0e3f41471b621e0e9f3bdec55434e28b42ecb495cbffc57cc36733", func := "loop.example/g01316/laws.FnExactIntoRounds", spec := "fnExactIntoRounds", unfollowed := true, recurses := true, apart := false, narrowed := true }
def FnExactIntoRoundsUptoSaid : Prop := fnExactIntoRoundsUptoRow.holds Try.pinned (OpenSpec.upto fnExactIntoRoundsSpec)

/-- 'laws.FnExactAreRounds', WHERE WHAT IT READS IS OF BULK AT MOST 1048576: true; the input reads as it did. -/
def fnExactAreRoundsUptoRow : OpenClaim := { program := "ytgcpbaipdpchfaa", sum := "0670123bcc0e3f41471b621e0e9f3bdec55434e28b42ecb495cbffc57cc36733", func := "loop.example/g01316/laws.FnExactAreRounds", spec := "fnExactAreRounds", unfollowed := true, recurses := true, apart := false, narrowed := true }
def FnExactAreRoundsUptoSaid : Prop := fnExactAreRoundsUptoRow.holds Try.pinned (OpenSpec.upto fnExactAreRoundsSpec)

/-- 'laws.FnExactRoundsNeeded', WHERE WHAT IT READS IS OF BULK AT MOST 1048576: true; the input reads as it did. -/
def fnExactRoundsNeededUptoRow : OpenClaim := { program := "ytgcpbaipdpchfaa", sum := "0670123bcc0e3f41471b621e0e9f3bdec55434e28b42ecb495cbffc57cc36733", func := "loop.example/g01316/laws.FnExactRoundsNeeded", spec := "fnExactRoundsNeeded", unfollowed := true, recurses := true, apart := false, narrowed := true }
def FnExactRoundsNeededUptoSaid : Prop := fnExactRoundsNeededUptoRow.holds Try.pinned (OpenSpec.upto fnExactRoundsNeededSpec)

/-- 'laws.FnExactCallsOfRounds', WHERE WHAT IT READS IS OF BULK AT MOST 1048576: true; the input reads as it did. -/
def fnExactCallsOfRoundsUptoRow : OpenClaim := { program := "ytgcpbaipdpchfaa", sum := "0670123bcc0e3f41471b621e0e9f3bdec55434e28b42ecb495cbffc57cc36733", func := "loop.example/g01316/laws.FnExactCallsOfRounds", spec := "fnExactCallsOfRounds", unfollowed := true, recurses := true, apart := false, narrowed := true }
def FnExactCallsOfRoundsUptoSaid : Prop := fnExactCallsOfRoundsUptoRow.holds Try.pinned (OpenSpec.upto fnExactCallsOfRoundsSpec)

/-- 'laws.FnExactKnownByRounds', WHERE WHAT IT READS IS OF BULK AT MOST 1048576: true; the input reads as it did. -/
def fnExactKnownByRoundsUptoRow : OpenClaim := { program := "ytgcpbaipdpchfaa", sum := "0670123bcc0e3f41471b621e0e9f3bdec55434e28b42ecb495cbffc57cc36733", func := "loop.example/g01316/laws.FnExactKnownByRounds", spec := "fnExactKnownByRounds", unfollowed := true, recurses := true, apart := false, narrowed := true }
def FnExactKnownByRoundsUptoSaid : Prop := fnExactKnownByRoundsUptoRow.holds Try.pinned (OpenSpec.upto fnExactKnownByRoundsSpec)

/-- 'laws.FnExactSpreadRounds', WHERE WHAT IT READS IS OF BULK AT MOST 1048576: true; the input reads as it did. -/
def fnExactSpreadRoundsUptoRow : OpenClaim := { program := "ytgcpbaipdpchfaa", sum := "0670123bcc0e3f41471b621e0e9f3bdec55434e28b42ecb495cbffc57cc36733", func := "loop.example/g01316/laws.FnExactSpreadRounds", spec := "fnExactSpreadRounds", unfollowed := true, recurses := true, apart := false, narrowed := true }
def FnExactSpreadRoundsUptoSaid : Prop := fnExactSpreadRoundsUptoRow.holds Try.pinned (OpenSpec.upto fnExactSpreadRoundsSpec)

end Rows
end Go.Proofs.Ytgcpbaipdpchfaa
