/- The last part of the run of FnNaked, at 0 and 2. -/
import Derived.Test.YtghnkhippmmdmaaGreatDoorEvNk
set_option linter.unusedVariables false
set_option linter.unusedSimpArgs false
set_option linter.all false

namespace Go.Ev
open Go.Proofs
set_option maxRecDepth 100000
theorem last02 : (fun r : List (List AV) => isT (outR (nkLast (evF tblL 199) 0 2 (.isl 1 r)))) = fun _ => true := by kernel_rfl
end Go.Ev
