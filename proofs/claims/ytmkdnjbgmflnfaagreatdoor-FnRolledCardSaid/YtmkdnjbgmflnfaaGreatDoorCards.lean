/-
  DERIVED. GIVEN WITH THE SEED: THE CARDS: each row of YtmkdnjbgmflnfaaGreatDoorRows.lean that lists a variable, with what it lists TIED to the program's text (the seventh form; the later family's looks); each row that meets fmt, with fmt's text TOLD by the authors' own Lean function (tested against real Go, not proved from fmt's source: count such statements apart). THE CARD IS WHAT COUNTS. Prove the row's statement (the work); the ties are given (YtmkdnjbgmflnfaaGreatDoorTie.lean); close each card by the builder's one call (the guide's Derived/Test/ToyasCard.lean, 'card_holds'). Laid BY PROGRAM, IN A SANDBOX (cutbox-door.mjs). By AI agents, Wed Nov 11 2026. No macro, syntax, notation, axiom, sorry.
-/
import Derived.Test.YtmkdnjbgmflnfaaGreatDoorRows
import GoSem.ClaimSeven
namespace Go.Proofs.YtmkdnjbgmflnfaaGreatDoor
namespace Rows

/-- THE TIED CARD OF 'laws.FnHeld'. -/
def fnHeldCard : Claim7 := { stood := { row := fnHeldRow, standIns := [], harness := (true, "bae429db82ef82fea9d125291ef8048ad46fae7064b823f5ebcb14db461221b2"), looks := true }, kinds := [], alts := [], laidByText := true, laidKinds := [.pinned, .data, .sentinel, .sentinel, .data, .data, .data], laidTests := true, laidLooks := .later }
def FnHeldCardSaid : Prop := Claim7.holds Tryz.pinned (.plain (OpenSpec.ofChange fnHeldSpec)) fnHeldCard

/-- THE TIED CARD OF 'laws.FnRolled'. -/
def fnRolledCard : Claim7 := { stood := { row := fnRolledRow, standIns := [], harness := (true, "bae429db82ef82fea9d125291ef8048ad46fae7064b823f5ebcb14db461221b2"), looks := true }, kinds := [], alts := [], laidByText := true, laidKinds := [.pinned, .data, .sentinel, .sentinel, .data, .data, .data], laidTests := true, laidLooks := .later }
def FnRolledCardSaid : Prop := Claim7.holds Tryz.pinned (.plain (OpenSpec.ofChange fnRolledSpec)) fnRolledCard

/-- THE TIED CARD OF 'laws.FnSlow'. -/
def fnSlowCard : Claim7 := { stood := { row := fnSlowRow, standIns := [], harness := (true, "bae429db82ef82fea9d125291ef8048ad46fae7064b823f5ebcb14db461221b2"), looks := true }, kinds := [], alts := [], laidByText := true, laidKinds := [.pinned, .data, .sentinel, .sentinel, .data, .data, .data], laidTests := true, laidLooks := .later }
def FnSlowCardSaid : Prop := Claim7.holds Tryz.pinned (.plain (OpenSpec.ofChange fnSlowSpec)) fnSlowCard

/-- THE TIED CARD OF 'laws.FnMoved'. -/
def fnMovedCard : Claim7 := { stood := { row := fnMovedRow, standIns := [], harness := (true, "bae429db82ef82fea9d125291ef8048ad46fae7064b823f5ebcb14db461221b2"), looks := true }, kinds := [], alts := [], laidByText := true, laidKinds := [.pinned, .data, .sentinel, .sentinel, .data, .data, .data], laidTests := true, laidLooks := .later }
def FnMovedCardSaid : Prop := Claim7.holds Tryz.pinned (.plain (OpenSpec.ofChange fnMovedSpec)) fnMovedCard

/-- THE TIED CARD OF 'laws.FnNoLost'. -/
def fnNoLostCard : Claim7 := { stood := { row := fnNoLostRow, standIns := [], harness := (true, "bae429db82ef82fea9d125291ef8048ad46fae7064b823f5ebcb14db461221b2"), looks := true }, kinds := [], alts := [], laidByText := true, laidKinds := [.pinned, .data, .sentinel, .sentinel, .data, .data, .data], laidTests := true, laidLooks := .later }
def FnNoLostCardSaid : Prop := Claim7.holds Tryz.pinned (.plain (OpenSpec.ofChange fnNoLostSpec)) fnNoLostCard

/-- THE SECOND FORM's CARD OF 'laws.FnHeld'. -/
def fnHeldUptoCard : Claim7 := { stood := { row := fnHeldUptoRow, standIns := [], harness := (true, "bae429db82ef82fea9d125291ef8048ad46fae7064b823f5ebcb14db461221b2"), looks := true }, kinds := [], alts := [], laidByText := true, laidKinds := [.pinned, .data, .sentinel, .sentinel, .data, .data, .data], laidTests := true, laidLooks := .later }
def FnHeldUptoCardSaid : Prop := Claim7.holds Tryz.pinned (.plain (OpenSpec.upto fnHeldSpec)) fnHeldUptoCard

/-- THE SECOND FORM's CARD OF 'laws.FnRolled'. -/
def fnRolledUptoCard : Claim7 := { stood := { row := fnRolledUptoRow, standIns := [], harness := (true, "bae429db82ef82fea9d125291ef8048ad46fae7064b823f5ebcb14db461221b2"), looks := true }, kinds := [], alts := [], laidByText := true, laidKinds := [.pinned, .data, .sentinel, .sentinel, .data, .data, .data], laidTests := true, laidLooks := .later }
def FnRolledUptoCardSaid : Prop := Claim7.holds Tryz.pinned (.plain (OpenSpec.upto fnRolledSpec)) fnRolledUptoCard

/-- THE SECOND FORM's CARD OF 'laws.FnSlow'. -/
def fnSlowUptoCard : Claim7 := { stood := { row := fnSlowUptoRow, standIns := [], harness := (true, "bae429db82ef82fea9d125291ef8048ad46fae7064b823f5ebcb14db461221b2"), looks := true }, kinds := [], alts := [], laidByText := true, laidKinds := [.pinned, .data, .sentinel, .sentinel, .data, .data, .data], laidTests := true, laidLooks := .later }
def FnSlowUptoCardSaid : Prop := Claim7.holds Tryz.pinned (.plain (OpenSpec.upto fnSlowSpec)) fnSlowUptoCard

/-- THE SECOND FORM's CARD OF 'laws.FnMoved'. -/
def fnMovedUptoCard : Claim7 := { stood := { row := fnMovedUptoRow, standIns := [], harness := (true, "bae429db82ef82fea9d125291ef8048ad46fae7064b823f5ebcb14db461221b2"), looks := true }, kinds := [], alts := [], laidByText := true, laidKinds := [.pinned, .data, .sentinel, .sentinel, .data, .data, .data], laidTests := true, laidLooks := .later }
def FnMovedUptoCardSaid : Prop := Claim7.holds Tryz.pinned (.plain (OpenSpec.upto fnMovedSpec)) fnMovedUptoCard

/-- THE SECOND FORM's CARD OF 'laws.FnNoLost'. -/
def fnNoLostUptoCard : Claim7 := { stood := { row := fnNoLostUptoRow, standIns := [], harness := (true, "bae429db82ef82fea9d125291ef8048ad46fae7064b823f5ebcb14db461221b2"), looks := true }, kinds := [], alts := [], laidByText := true, laidKinds := [.pinned, .data, .sentinel, .sentinel, .data, .data, .data], laidTests := true, laidLooks := .later }
def FnNoLostUptoCardSaid : Prop := Claim7.holds Tryz.pinned (.plain (OpenSpec.upto fnNoLostSpec)) fnNoLostUptoCard
end Rows
end Go.Proofs.YtmkdnjbgmflnfaaGreatDoor
