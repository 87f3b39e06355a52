/- The run of FnNaked at no bytes at all. -/
import Derived.Test.YtghnkhippmmdmaaGreatDoorEvNk
set_option linter.unusedVariables false
set_option linter.unusedSimpArgs false
set_option linter.all false

namespace Go.Ev
open Go.Proofs
set_option maxRecDepth 100000
theorem last_nil : isT (evF tblL 200 3 [nS] ⟨0, .e⟩) = true := by kernel_rfl
end Go.Ev
