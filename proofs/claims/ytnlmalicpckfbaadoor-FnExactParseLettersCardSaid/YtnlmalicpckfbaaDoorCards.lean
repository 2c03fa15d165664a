/-
  DERIVED. GIVEN WITH THE SEED: THE CARDS: each row of YtnlmalicpckfbaaDoorRows.lean that lists a variable, with what it lists TIED to the program's text (the seventh form; the later family's looks); each row that meets fmt, with fmt's text TOLD by the authors' own Lean function (tested against real Go, not proved from fmt's source: count such statements apart). THE CARD IS WHAT COUNTS. Prove the row's statement (the work); the ties are given (YtnlmalicpckfbaaDoorTie.lean); close each card by the builder's one call (the guide's Derived/Test/ToyasCard.lean, 'card_holds'). Laid BY PROGRAM, IN A SANDBOX (cutbox-door.mjs). By AI agents, Wed Nov 11 2026. No macro, syntax, notation, axiom, sorry.
-/
import Derived.Test.YtnlmalicpckfbaaDoorRows
import GoSem.ClaimSeven
namespace Go.Proofs.YtnlmalicpckfbaaDoor
namespace Rows

/-- THE TIED CARD OF 'laws.FnExactParseCalls'. -/
def fnExactParseCallsCard : Claim7 := { stood := { row := fnExactParseCallsRow, standIns := [], harness := (true, "0d1d64d61753d6010512e66a91757c00bf7239cedc9e2adac708b9dcf74f4181"), looks := false }, kinds := [], alts := [], laidByText := true, laidKinds := [.data, .pinned], laidTests := true, laidLooks := .later }
def FnExactParseCallsCardSaid : Prop := Claim7.holds Tryd.pinned (.plain (OpenSpec.ofChange fnExactParseCallsSpec)) fnExactParseCallsCard

/-- THE TIED CARD OF 'laws.FnExactParseLetters'. -/
def fnExactParseLettersCard : Claim7 := { stood := { row := fnExactParseLettersRow, standIns := [], harness := (true, "0d1d64d61753d6010512e66a91757c00bf7239cedc9e2adac708b9dcf74f4181"), looks := false }, kinds := [], alts := [], laidByText := true, laidKinds := [.data, .pinned], laidTests := true, laidLooks := .later }
def FnExactParseLettersCardSaid : Prop := Claim7.holds Tryd.pinned (.plain (OpenSpec.ofChange fnExactParseLettersSpec)) fnExactParseLettersCard

/-- THE TIED CARD OF 'laws.FnExactParseRounds'. -/
def fnExactParseRoundsCard : Claim7 := { stood := { row := fnExactParseRoundsRow, standIns := [], harness := (true, "0d1d64d61753d6010512e66a91757c00bf7239cedc9e2adac708b9dcf74f4181"), looks := false }, kinds := [], alts := [], laidByText := true, laidKinds := [.data, .pinned], laidTests := true, laidLooks := .later }
def FnExactParseRoundsCardSaid : Prop := Claim7.holds Tryd.pinned (.plain (OpenSpec.ofChange fnExactParseRoundsSpec)) fnExactParseRoundsCard

/-- THE SECOND FORM's CARD OF 'laws.FnExactParseCalls'. -/
def fnExactParseCallsUptoCard : Claim7 := { stood := { row := fnExactParseCallsUptoRow, standIns := [], harness := (true, "0d1d64d61753d6010512e66a91757c00bf7239cedc9e2adac708b9dcf74f4181"), looks := false }, kinds := [], alts := [], laidByText := true, laidKinds := [.data, .pinned], laidTests := true, laidLooks := .later }
def FnExactParseCallsUptoCardSaid : Prop := Claim7.holds Tryd.pinned (.plain (OpenSpec.upto fnExactParseCallsSpec)) fnExactParseCallsUptoCard

/-- THE SECOND FORM's CARD OF 'laws.FnExactParseLetters'. -/
def fnExactParseLettersUptoCard : Claim7 := { stood := { row := fnExactParseLettersUptoRow, standIns := [], harness := (true, "0d1d64d61753d6010512e66a91757c00bf7239cedc9e2adac708b9dcf74f4181"), looks := false }, kinds := [], alts := [], laidByText := true, laidKinds := [.data, .pinned], laidTests := true, laidLooks := .later }
def FnExactParseLettersUptoCardSaid : Prop := Claim7.holds Tryd.pinned (.plain (OpenSpec.upto fnExactParseLettersSpec)) fnExactParseLettersUptoCard

/-- THE SECOND FORM's CARD OF 'laws.FnExactParseRounds'. -/
def fnExactParseRoundsUptoCard : Claim7 := { stood := { row := fnExactParseRoundsUptoRow, standIns := [], harness := (true, "0d1d64d61753d6010512e66a91757c00bf7239cedc9e2adac708b9dcf74f4181"), looks := false }, kinds := [], alts := [], laidByText := true, laidKinds := [.data, .pinned], laidTests := true, laidLooks := .later }
def FnExactParseRoundsUptoCardSaid : Prop := Claim7.holds Tryd.pinned (.plain (OpenSpec.upto fnExactParseRoundsSpec)) fnExactParseRoundsUptoCard
end Rows
end Go.Proofs.YtnlmalicpckfbaaDoor
