/- The lines as they are read, part 0 (printed by a program). -/
import Derived.Test.YtghnkhippmmdmaaGreatDoorEvTk
set_option linter.unusedVariables false
set_option linter.unusedSimpArgs false
set_option linter.all false

namespace Go.Ev
open Go.Proofs
set_option maxRecDepth 100000
def li10 : Ent := ⟨7, ln10, [(0,(.tu [(.ag [(.s 1 [84]),nS,(.isl 3 [[(I 4),nS,(.isl 5 [[(I 1),(.s 0 []),nS,(.isl 3 [[(I 10),(.s 2 [69,67]),nS]]),nS]])]])]),(I 0)]))]⟩
theorem li10_ok : S1 tblK 32 li10 := ⟨by kernel_rfl, all_cons (by kernel_rfl) all_nil⟩
def li0 : Ent := ⟨22, ln0, [(0,(.tu [(.ag [(.s 0 []),nS,(.isl 3 [[(I 2),nS,(.isl 5 [[(I 1),(.s 0 []),(.isl 3 [[(I 3),(.s 1 [71]),nS]]),nS,nS]])],[(I 1),nS,(.isl 5 [[(I 2),(.s 0 []),nS,(.isl 3 [[(I 1),(.s 1 [84]),nS]]),nS]])],[(I 4),nS,(.isl 5 [[(I 1),(.s 0 []),nS,(.isl 3 [[(I 4),(.s 0 []),(.isl 3 [[(I 1),(.s 1 [49]),nS]])]]),nS]])]])]),(I 0)]))]⟩
theorem li0_ok : S1 tblK 32 li0 := ⟨by kernel_rfl, all_cons (by kernel_rfl) all_nil⟩
def li1 : Ent := ⟨46, ln1, [(0,(.tu [(.ag [(.s 0 []),nS,(.isl 3 [[(I 1),nS,(.isl 5 [[(I 1),(.s 0 []),(.isl 3 [[(I 3),(.s 1 [71]),(.isl 3 [[(I 1),(.s 1 [107]),nS],[(I 1),(.s 1 [49]),nS]])]]),(.isl 3 [[(I 1),(.s 1 [52]),nS]]),nS],[(I 1),(.s 0 []),(.isl 3 [[(I 4),(.s 0 []),(.isl 3 [[(I 1),(.s 1 [122]),nS],[(I 1),(.s 1 [53]),nS]])]]),(.isl 3 [[(I 1),(.s 1 [54]),nS]]),nS]])],[(I 4),nS,(.isl 5 [[(I 1),(.s 0 []),nS,(.isl 3 [[(I 4),(.s 0 []),(.isl 3 [[(I 1),(.s 1 [53]),nS]])]]),nS],[(I 1),(.s 0 []),nS,(.isl 3 [[(I 3),(.s 1 [71]),(.isl 3 [[(I 1),(.s 1 [107]),nS],[(I 1),(.s 1 [122]),nS],[(I 1),(.s 1 [53]),nS]])]]),nS]])]])]),(I 0)]))]⟩
theorem li1_ok : S1 tblK 32 li1 := ⟨by kernel_rfl, all_cons (by kernel_rfl) all_nil⟩
end Go.Ev
