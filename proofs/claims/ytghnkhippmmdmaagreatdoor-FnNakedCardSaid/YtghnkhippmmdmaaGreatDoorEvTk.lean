/- The table with tokens. -/
import Derived.Test.YtghnkhippmmdmaaGreatDoorEvTok0
import Derived.Test.YtghnkhippmmdmaaGreatDoorEvTok1
import Derived.Test.YtghnkhippmmdmaaGreatDoorEvTok2
set_option linter.unusedVariables false
set_option linter.unusedSimpArgs false
set_option linter.all false

namespace Go.Ev
open Go.Proofs
noncomputable def toks : List Ent := [tk0,tk1,tk2,tk3,tk4,tk5,tk6,tk7,tk8,tk9,tk10,tk11]
theorem toks_ok : ∀ q ∈ toks, SN tblB 190 q := all_cons tk0_ok (all_cons tk1_ok (all_cons tk2_ok (all_cons tk3_ok (all_cons tk4_ok (all_cons tk5_ok (all_cons tk6_ok (all_cons tk7_ok (all_cons tk8_ok (all_cons tk9_ok (all_cons tk10_ok (all_cons tk11_ok (all_nil))))))))))))
noncomputable def tblK (f : Nat) : FT := cd (Nat.beq f 190) (.ext (xSN toks)) (tblB f)
theorem tblK_ok (m : Int) : Tbl Tryz.prog (Gm m) tblK := Tbl.memo (tbl := tblB) (tblB_ok m) (xSN_sound (tblB_ok m) toks_ok)
end Go.Ev
