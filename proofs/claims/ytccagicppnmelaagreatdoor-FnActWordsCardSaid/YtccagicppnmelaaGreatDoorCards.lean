/-
  DERIVED. GIVEN WITH THE SEED: THE CARDS: each row of YtccagicppnmelaaGreatDoorRows.lean that lists a variable, with what it lists TIED to the program's text (the seventh form; the later family's looks); each row that meets fmt, with fmt's text TOLD by the authors' own Lean function (tested against real Go, not proved from fmt's source: count such statements apart). THE CARD IS WHAT COUNTS. Prove the row's statement (the work); the ties are given (YtccagicppnmelaaGreatDoorTie.lean); close each card by the builder's one call (the guide's Derived/Test/ToyasCard.lean, 'card_holds'). Laid BY PROGRAM, IN A SANDBOX (cutbox-door.mjs). By AI agents, Wed Nov 11 2026. No macro, syntax, notation, axiom, sorry.
-/
import Derived.Test.YtccagicppnmelaaGreatDoorRows
import GoSem.ClaimSeven
namespace Go.Proofs.YtccagicppnmelaaGreatDoor
namespace Rows

/-- THE TIED CARD OF 'laws.FnActWords'. -/
def fnActWordsCard : Claim7 := { stood := { row := fnActWordsRow, standIns := [], harness := (true, "d7a50cdae28b5817a146a493dc5dcab707935e0ad63868f70aaecc14a6e8627f"), looks := true }, kinds := [], alts := [], laidByText := true, laidKinds := [.pinned, .data, .data, .data, .data, .sentinel, .sentinel], laidTests := true, laidLooks := .later }
def FnActWordsCardSaid : Prop := Claim7.holds Tryz.pinned (.plain (OpenSpec.ofChange fnActWordsSpec)) fnActWordsCard

/-- THE SECOND FORM's CARD OF 'laws.FnActWords'. -/
def fnActWordsUptoCard : Claim7 := { stood := { row := fnActWordsUptoRow, standIns := [], harness := (true, "d7a50cdae28b5817a146a493dc5dcab707935e0ad63868f70aaecc14a6e8627f"), looks := true }, kinds := [], alts := [], laidByText := true, laidKinds := [.pinned, .data, .data, .data, .data, .sentinel, .sentinel], laidTests := true, laidLooks := .later }
def FnActWordsUptoCardSaid : Prop := Claim7.holds Tryz.pinned (.plain (OpenSpec.upto fnActWordsSpec)) fnActWordsUptoCard
end Rows
end Go.Proofs.YtccagicppnmelaaGreatDoor
