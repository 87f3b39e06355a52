/-
  DERIVED. GIVEN WITH THE SEED: THE CARDS: each row of YtghnkhippmmdmaaGreatDoorRows.lean that lists a variable, with what it lists TIED to the program's text (the seventh form; the later family's looks); each row that meets fmt, with fmt's text TOLD by the authors' own Lean function (tested against real Go, not proved from fmt's source: count such statements apart). THE CARD IS WHAT COUNTS. Prove the row's statement (the work); the ties are given (YtghnkhippmmdmaaGreatDoorTie.lean); close each card by the builder's one call (the guide's Derived/Test/ToyasCard.lean, 'card_holds'). Laid BY PROGRAM, IN A SANDBOX (cutbox-door.mjs). By AI agents, Wed Nov 11 2026. No macro, syntax, notation, axiom, sorry.
-/
import Derived.Test.YtghnkhippmmdmaaGreatDoorRows
import GoSem.ClaimSeven
namespace Go.Proofs.YtghnkhippmmdmaaGreatDoor
namespace Rows

/-- THE TIED CARD OF 'laws.FnNaked'. -/
def fnNakedCard : Claim7 := { stood := { row := fnNakedRow, standIns := [], harness := (true, "c680b6ad0bcff48f8530e447ecb310bf0cc02bd297b82e56d85fb780b4c7aec4"), looks := true }, kinds := [], alts := [], laidByText := true, laidKinds := [.data, .data, .data, .data, .sentinel, .sentinel, .pinned], laidTests := true, laidLooks := .later }
def FnNakedCardSaid : Prop := Claim7.holds Tryz.pinned (.plain (OpenSpec.ofChange fnNakedSpec)) fnNakedCard

/-- THE SECOND FORM's CARD OF 'laws.FnNaked'. -/
def fnNakedUptoCard : Claim7 := { stood := { row := fnNakedUptoRow, standIns := [], harness := (true, "c680b6ad0bcff48f8530e447ecb310bf0cc02bd297b82e56d85fb780b4c7aec4"), looks := true }, kinds := [], alts := [], laidByText := true, laidKinds := [.data, .data, .data, .data, .sentinel, .sentinel, .pinned], laidTests := true, laidLooks := .later }
def FnNakedUptoCardSaid : Prop := Claim7.holds Tryz.pinned (.plain (OpenSpec.upto fnNakedSpec)) fnNakedUptoCard
end Rows
end Go.Proofs.YtghnkhippmmdmaaGreatDoor
