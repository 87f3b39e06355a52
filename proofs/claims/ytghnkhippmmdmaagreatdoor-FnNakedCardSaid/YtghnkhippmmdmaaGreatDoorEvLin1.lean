/- The lines as they are read, part 1 (printed by a program). -/
import Derived.Test.YtghnkhippmmdmaaGreatDoorEvTk
set_option linter.unusedVariables false
set_option linter.unusedSimpArgs false
set_option linter.all false

namespace Go.Ev
open Go.Proofs
set_option maxRecDepth 100000
def li2 : Ent := ⟨42, ln2, [(0,(.tu [(.ag [(.s 0 []),nS,(.isl 3 [[(I 1),nS,(.isl 5 [[(I 1),(.s 0 []),(.isl 3 [[(I 3),(.s 1 [71]),(.isl 3 [[(I 1),(.s 1 [107]),nS],[(I 1),(.s 1 [49]),nS]])]]),(.isl 3 [[(I 1),(.s 1 [52]),nS]]),nS],[(I 1),(.s 0 []),(.isl 3 [[(I 4),(.s 0 []),(.isl 3 [[(I 1),(.s 1 [51]),nS],[(I 1),(.s 1 [53]),nS]])]]),(.isl 3 [[(I 1),(.s 1 [54]),nS]]),nS]])],[(I 4),nS,(.isl 5 [[(I 1),(.s 0 []),nS,(.isl 3 [[(I 4),(.s 0 []),(.isl 3 [[(I 1),(.s 1 [53]),nS]])]]),nS],[(I 1),(.s 0 []),nS,(.isl 3 [[(I 3),(.s 1 [71]),(.isl 3 [[(I 1),(.s 1 [107]),nS],[(I 1),(.s 1 [51]),nS],[(I 1),(.s 1 [53]),nS]])]]),nS]])]])]),(I 0)]))]⟩
theorem li2_ok : S1 tblK 32 li2 := ⟨by kernel_rfl, all_cons (by kernel_rfl) all_nil⟩
def li3 : Ent := ⟨42, ln3, [(0,(.tu [(.ag [(.s 0 []),nS,(.isl 3 [[(I 1),nS,(.isl 5 [[(I 1),(.s 0 []),(.isl 3 [[(I 3),(.s 1 [71]),(.isl 3 [[(I 1),(.s 1 [107]),nS],[(I 1),(.s 1 [49]),nS]])]]),(.isl 3 [[(I 1),(.s 1 [52]),nS]]),nS],[(I 1),(.s 0 []),(.isl 3 [[(I 4),(.s 0 []),(.isl 3 [[(I 1),(.s 1 [57]),nS],[(I 1),(.s 1 [53]),nS]])]]),(.isl 3 [[(I 1),(.s 1 [54]),nS]]),nS]])],[(I 4),nS,(.isl 5 [[(I 1),(.s 0 []),nS,(.isl 3 [[(I 4),(.s 0 []),(.isl 3 [[(I 1),(.s 1 [53]),nS]])]]),nS],[(I 1),(.s 0 []),nS,(.isl 3 [[(I 3),(.s 1 [71]),(.isl 3 [[(I 1),(.s 1 [107]),nS],[(I 1),(.s 1 [57]),nS],[(I 1),(.s 1 [53]),nS]])]]),nS]])]])]),(I 0)]))]⟩
theorem li3_ok : S1 tblK 32 li3 := ⟨by kernel_rfl, all_cons (by kernel_rfl) all_nil⟩
def li4 : Ent := ⟨42, ln4, [(0,(.tu [(.ag [(.s 0 []),nS,(.isl 3 [[(I 1),nS,(.isl 5 [[(I 1),(.s 0 []),(.isl 3 [[(I 3),(.s 1 [71]),(.isl 3 [[(I 1),(.s 1 [49]),nS],[(I 1),(.s 1 [49]),nS]])]]),(.isl 3 [[(I 1),(.s 1 [52]),nS]]),nS],[(I 1),(.s 0 []),(.isl 3 [[(I 4),(.s 0 []),(.isl 3 [[(I 1),(.s 1 [122]),nS],[(I 1),(.s 1 [53]),nS]])]]),(.isl 3 [[(I 1),(.s 1 [54]),nS]]),nS]])],[(I 4),nS,(.isl 5 [[(I 1),(.s 0 []),nS,(.isl 3 [[(I 4),(.s 0 []),(.isl 3 [[(I 1),(.s 1 [53]),nS]])]]),nS],[(I 1),(.s 0 []),nS,(.isl 3 [[(I 3),(.s 1 [71]),(.isl 3 [[(I 1),(.s 1 [49]),nS],[(I 1),(.s 1 [122]),nS],[(I 1),(.s 1 [53]),nS]])]]),nS]])]])]),(I 0)]))]⟩
theorem li4_ok : S1 tblK 32 li4 := ⟨by kernel_rfl, all_cons (by kernel_rfl) all_nil⟩
end Go.Ev
