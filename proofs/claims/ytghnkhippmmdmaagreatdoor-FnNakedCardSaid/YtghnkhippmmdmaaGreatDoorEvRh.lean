/- The closed facts of the card. -/
import Derived.Test.YtghnkhippmmdmaaGreatDoorRows
import Derived.Test.YtghnkhippmmdmaaGreatDoorCards
import Derived.SevenTiedAt
set_option linter.unusedVariables false
set_option linter.unusedSimpArgs false

namespace Go.Proofs.YtghnkhippmmdmaaGreatDoor
set_option maxRecDepth 100000
theorem mainIs : Tryz.pinned.checked.prog.mainIs = some (true, "c680b6ad0bcff48f8530e447ecb310bf0cc02bd297b82e56d85fb780b4c7aec4".toList) := by kernel_rfl
theorem wfText : Rows.fnNakedRow.wfByText (OpenSpec.ofChange Rows.fnNakedSpec) = true := by kernel_rfl
theorem looks : true = Tryz.pinned.checked.prog.looks [] := by kernel_rfl
theorem wants : Tryz.prog.wantsStandIn 22 = false := by kernel_rfl
end Go.Proofs.YtghnkhippmmdmaaGreatDoor
