/-
  No cell of these rows narrows 'for every input' (looked for: loops, veiled, ifaces, maps, wideKeys, modest, calm, conditions, laid).
  DERIVED. THE GIVEN ROWS OF THIS SEAT. 6 by the template 'for every input the law returns true; each argument reads behind the call as it read before'; 0 by the template 'total and deterministic' (their statements: YtpniceeapbogpaaTotals.lean).
  GIVEN WITH THE SEED: the statements are not yours to turn. If you find one false, say at which input.
  Laid BY PROGRAM, IN A SANDBOX (cutbox-rows.mjs): the forced cells as the released guide's own fill.sh prints them over the translation 012b1fcd457cff51… (all of the seat's roots in one cut). By AI agents, Wed Nov 11 2026. No macro, syntax, notation, axiom, sorry.
-/
import Derived.Test.YtpniceeapbogpaaChecked
import GoSem.Claim
import GoSem.ClaimJoined
import GoSem.ClaimMapViews
import Derived.JoinedTies
import Derived.KernelRfl
namespace Go.Proofs.Ytpniceeapbogpaa
/- THE CELL 'sum', in the pinned program and in every row, IS THE sha256 OF THE DUMP (.gsa) THAT YtpniceeapbogpaaProg.lean LOADS. Nothing in Lean hashes anything: it is a label: what it is worth is what the hold of that sum in a sandbox is worth. -/
noncomputable def Try.pinned : Pinned := { name := "ytpniceeapbogpaa", sum := "012b1fcd457cff51e755093befe428517422af5364e1a114d38d53eebfc0917a", checked := Try.checked }
namespace Rows
def none {H : Type} : Left H := { results := [], args := [] }

/-- 'laws.FnExactConstants': WHATEVER THE INPUT: true; the input reads as it did. -/
def fnExactConstantsSpec : ChangeSpec := { name := "fnExactConstants", fn := fun _ => fun
  | [] => { results := [.lit (.bool true)], args := [] }
  | _ => none }
def fnExactConstantsRow : OpenClaim := { program := "ytpniceeapbogpaa", sum := "012b1fcd457cff51e755093befe428517422af5364e1a114d38d53eebfc0917a", func := "loop.example/g01316/laws.FnExactConstants", spec := "fnExactConstants", apart := false }
def FnExactConstantsSaid : Prop := fnExactConstantsRow.holds Try.pinned (OpenSpec.ofChange fnExactConstantsSpec)

/-- ITS FALSE NEIGHBOUR: 'it returns false'. Refute it at one input. -/
def fnExactConstantsWrong : ChangeSpec := { name := "fnExactConstants", fn := fun _ => fun
  | [] => { results := [.lit (.bool false)], args := [] }
  | _ => none }
def FnExactConstantsWrongFalsely : Prop := fnExactConstantsRow.holds Try.pinned (OpenSpec.ofChange fnExactConstantsWrong)

/-- 'laws.FnExactFewestLetters': WHATEVER THE INPUT: true; the input reads as it did. -/
def fnExactFewestLettersSpec : ChangeSpec := { name := "fnExactFewestLetters", fn := fun _ => fun
  | [d] => { results := [.lit (.bool true)], args := [d] }
  | _ => none }
def fnExactFewestLettersRow : OpenClaim := { program := "ytpniceeapbogpaa", sum := "012b1fcd457cff51e755093befe428517422af5364e1a114d38d53eebfc0917a", func := "loop.example/g01316/laws.FnExactFewestLetters", spec := "fnExactFewestLetters", apart := false }
def FnExactFewestLettersSaid : Prop := fnExactFewestLettersRow.holds Try.pinned (OpenSpec.ofChange fnExactFewestLettersSpec)

/-- ITS FALSE NEIGHBOUR: 'it returns false'. Refute it at one input. -/
def fnExactFewestLettersWrong : ChangeSpec := { name := "fnExactFewestLetters", fn := fun _ => fun
  | [d] => { results := [.lit (.bool false)], args := [d] }
  | _ => none }
def FnExactFewestLettersWrongFalsely : Prop := fnExactFewestLettersRow.holds Try.pinned (OpenSpec.ofChange fnExactFewestLettersWrong)

/-- 'laws.FnExactFewestCalls': WHATEVER THE INPUT: true; the input reads as it did. -/
def fnExactFewestCallsSpec : ChangeSpec := { name := "fnExactFewestCalls", fn := fun _ => fun
  | [d] => { results := [.lit (.bool true)], args := [d] }
  | _ => none }
def fnExactFewestCallsRow : OpenClaim := { program := "ytpniceeapbogpaa", sum := "012b1fcd457cff51e755093befe428517422af5364e1a114d38d53eebfc0917a", func := "loop.example/g01316/laws.FnExactFewestCalls", spec := "fnExactFewestCalls", apart := false }
def FnExactFewestCallsSaid : Prop := fnExactFewestCallsRow.holds Try.pinned (OpenSpec.ofChange fnExactFewestCallsSpec)

/-- ITS FALSE NEIGHBOUR: 'it returns false'. Refute it at one input. -/
def fnExactFewestCallsWrong : ChangeSpec := { name := "fnExactFewestCalls", fn := fun _ => fun
  | [d] => { results := [.lit (.bool false)], args := [d] }
  | _ => none }
def FnExactFewestCallsWrongFalsely : Prop := fnExactFewestCallsRow.holds Try.pinned (OpenSpec.ofChange fnExactFewestCallsWrong)

/-- 'laws.FnExactRingLetters': WHATEVER THE INPUT: true; the input reads as it did. -/
def fnExactRingLettersSpec : ChangeSpec := { name := "fnExactRingLetters", fn := fun _ => fun
  | [d] => { results := [.lit (.bool true)], args := [d] }
  | _ => none }
def fnExactRingLettersRow : OpenClaim := { program := "ytpniceeapbogpaa", sum := "012b1fcd457cff51e755093befe428517422af5364e1a114d38d53eebfc0917a", func := "loop.example/g01316/laws.FnExactRingLetters", spec := "fnExactRingLetters", apart := false }
def FnExactRingLettersSaid : Prop := fnExactRingLettersRow.holds Try.pinned (OpenSpec.ofChange fnExactRingLettersSpec)

/-- ITS FALSE NEIGHBOUR: 'it returns false'. Refute it at one input. -/
def fnExactRingLettersWrong : ChangeSpec := { name := "fnExactRingLetters", fn := fun _ => fun
  | [d] => { results := [.lit (.bool false)], args := [d] }
  | _ => none }
def FnExactRingLettersWrongFalsely : Prop := fnExactRingLettersRow.holds Try.pinned (OpenSpec.ofChange fnExactRingLettersWrong)

/-- 'laws.FnExactLineNet': WHATEVER THE INPUT: true; the input reads as it did. -/
def fnExactLineNetSpec : ChangeSpec := { name := "fnExactLineNet", fn := fun _ => fun
  | [d] => { results := [.lit (.bool true)], args := [d] }
  | _ => none }
def fnExactLineNetRow : OpenClaim := { program := "ytpniceeapbogpaa", sum := "012b1fcd457cff51e755093befe428517422af5364e1a114d38d53eebfc0917a", func := "loop.example/g01316/laws.FnExactLineNet", spec := "fnExactLineNet", apart := false }
def FnExactLineNetSaid : Prop := fnExactLineNetRow.holds Try.pinned (OpenSpec.ofChange fnExactLineNetSpec)

/-- ITS FALSE NEIGHBOUR: 'it returns false'. Refute it at one input. -/
def fnExactLineNetWrong : ChangeSpec := { name := "fnExactLineNet", fn := fun _ => fun
  | [d] => { results := [.lit (.bool false)], args := [d] }
  | _ => none }
def FnExactLineNetWrongFalsely : Prop := fnExactLineNetRow.holds Try.pinned (OpenSpec.ofChange fnExactLineNetWrong)

/-- 'laws.FnExactAreCalls': WHATEVER THE INPUT: true; the input reads as it did. -/
def fnExactAreCallsSpec : ChangeSpec := { name := "fnExactAreCalls", fn := fun _ => fun
  | [d1, d2] => { results := [.lit (.bool true)], args := [d1, d2] }
  | _ => none }
def fnExactAreCallsRow : OpenClaim := { program := "ytpniceeapbogpaa", sum := "012b1fcd457cff51e755093befe428517422af5364e1a114d38d53eebfc0917a", func := "loop.example/g01316/laws.FnExactAreCalls", spec := "fnExactAreCalls", unfollowed := true, recurses := true, apart := false }
def FnExactAreCallsSaid : Prop := fnExactAreCallsRow.holds Try.pinned (OpenSpec.ofChange fnExactAreCallsSpec)

/-- ITS FALSE NEIGHBOUR: 'it returns false'. Refute it at one input. -/
def fnExactAreCallsWrong : ChangeSpec := { name := "fnExactAreCalls", fn := fun _ => fun
  | [d1, d2] => { results := [.lit (.bool false)], args := [d1, d2] }
  | _ => none }
def FnExactAreCallsWrongFalsely : Prop := fnExactAreCallsRow.holds Try.pinned (OpenSpec.ofChange fnExactAreCallsWrong)

/- THE SECOND FORM. 'bulk': how many values and letters a reading holds, each counted each time it is reached (what is shared counts as often as it is met; a slice's spare places count too). A statement '..UptoSaid' is the law's where the arguments, and the package variables that the reading takes, are together of bulk at most 1048576: NARROWER than '..Said'. Prove '..Said' where nothing that the law and all that it calls make is longer than what came in: it says more and counts as full. Else prove '..UptoSaid'. A law counts once. -/
mutual
def uptoBulk {H : Type} : DataW H → Nat
  | .lit (.string bytes) => bytes.length + 1
  | .lit _ => 1
  | .nil => 1
  | .ptr d => uptoBulk d + 1
  | .slice elems spare => uptoBulkAll elems + uptoBulkAll spare + 1
  | .agg parts => uptoBulkAll parts + 1
  | .iface _ d => uptoBulk d + 1
  | .map entries => uptoBulkEntries entries + 1
  | .held _ => 1
def uptoBulkAll {H : Type} : List (DataW H) → Nat
  | [] => 0
  | d :: r => uptoBulk d + uptoBulkAll r
def uptoBulkEntries {H : Type} : List (Lit × DataW H) → Nat
  | [] => 0
  | x :: r => uptoBulkEntry x + uptoBulkEntries r
def uptoBulkEntry {H : Type} : Lit × DataW H → Nat
  | (.string bytes, d) => bytes.length + uptoBulk d + 1
  | (_, d) => uptoBulk d + 1
 end
def uptoSmall : (H : Type) → List (DataW H) → Bool := fun _ ds => decide (uptoBulkAll ds ≤ 1048576)
def OpenSpec.upto (s : _root_.Go.ChangeSpec) : _root_.Go.OpenSpec := { _root_.Go.OpenSpec.ofChange s with cond := some uptoSmall }

/-- 'laws.FnExactConstants', WHERE WHAT IT READS IS OF BULK AT MOST 1048576: true; the input reads as it did. -/
def fnExactConstantsUptoRow : OpenClaim := { program := "ytpniceeapbogpaa", sum := "012b1fcd457cff51e755093befe428517422af5364e1a114d38d53eebfc0917a", func := "loop.example/g01316/laws.FnExactConstants", spec := "fnExactConstants", apart := false, narrowed := true }
def FnExactConstantsUptoSaid : Prop := fnExactConstantsUptoRow.holds Try.pinned (OpenSpec.upto fnExactConstantsSpec)

/-- 'laws.FnExactFewestLetters', WHERE WHAT IT READS IS OF BULK AT MOST 1048576: true; the input reads as it did. -/
def fnExactFewestLettersUptoRow : OpenClaim := { program := "ytpniceeapbogpaa", sum := "012b1fcd457cff51e755093befe428517422af5364e1a114d38d53eebfc0917a", func := "loop.example/g01316/laws.FnExactFewestLetters", spec := "fnExactFewestLetters", apart := false, narrowed := true }
def FnExactFewestLettersUptoSaid : Prop := fnExactFewestLettersUptoRow.holds Try.pinned (OpenSpec.upto fnExactFewestLettersSpec)

/-- 'laws.FnExactFewestCalls', WHERE WHAT IT READS IS OF BULK AT MOST 1048576: true; the input reads as it did. -/
def fnExactFewestCallsUptoRow : OpenClaim := { program := "ytpniceeapbogpaa", sum := "012b1fcd457cff51e755093befe428517422af5364e1a114d38d53eebfc0917a", func := "loop.example/g01316/laws.FnExactFewestCalls", spec := "fnExactFewestCalls", apart := false, narrowed := true }
def FnExactFewestCallsUptoSaid : Prop := fnExactFewestCallsUptoRow.holds Try.pinned (OpenSpec.upto fnExactFewestCallsSpec)

/-- 'laws.FnExactRingLetters', WHERE WHAT IT READS IS OF BULK AT MOST 1048576: true; the input reads as it did. -/
def fnExactRingLettersUptoRow : OpenClaim := { program := "ytpniceeapbogpaa", sum := "012b1fcd457cff51e755093befe428517422af5364e1a114d38d53eebfc0917a", func := "loop.example/g01316/laws.FnExactRingLetters", spec := "fnExactRingLetters", apart := false, narrowed := true }
def FnExactRingLettersUptoSaid : Prop := fnExactRingLettersUptoRow.holds Try.pinned (OpenSpec.upto fnExactRingLettersSpec)

/-- 'laws.FnExactLineNet', WHERE WHAT IT READS IS OF BULK AT MOST 1048576: true; the input reads as it did. -/
def fnExactLineNetUptoRow : OpenClaim := { program := "ytpniceeapbogpaa", sum := "012b1fcd457cff51e755093befe428517422af5364e1a114d38d53eebfc0917a", func := "loop.example/g01316/laws.FnExactLineNet", spec := "fnExactLineNet", apart := false, narrowed := true }
def FnExactLineNetUptoSaid : Prop := fnExactLineNetUptoRow.holds Try.pinned (OpenSpec.upto fnExactLineNetSpec)

/-- 'laws.FnExactAreCalls', WHERE WHAT IT READS IS OF BULK AT MOST 1048576: true; the input reads as it did. -/
def fnExactAreCallsUptoRow : OpenClaim := { program := "ytpniceeapbogpaa", sum := "012b1fcd457cff51e755093befe428517422af5364e1a114d38d53eebfc0917a", func := "loop.example/g01316/laws.FnExactAreCalls", spec := "fnExactAreCalls", unfollowed := true, recurses := true, apart := false, narrowed := true }
def FnExactAreCallsUptoSaid : Prop := fnExactAreCallsUptoRow.holds Try.pinned (OpenSpec.upto fnExactAreCallsSpec)

end Rows
end Go.Proofs.Ytpniceeapbogpaa
