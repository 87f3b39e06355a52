/- The table with lines. -/
import Derived.Test.YtghnkhippmmdmaaGreatDoorEvLin0
import Derived.Test.YtghnkhippmmdmaaGreatDoorEvLin1
import Derived.Test.YtghnkhippmmdmaaGreatDoorEvLin2
import Derived.Test.YtghnkhippmmdmaaGreatDoorEvLin3
set_option linter.unusedVariables false
set_option linter.unusedSimpArgs false
set_option linter.all false

namespace Go.Ev
open Go.Proofs
noncomputable def lins : List Ent := [li0,li1,li2,li3,li4,li5,li6,li7,li8,li9,li10]
theorem lins_ok : ∀ q ∈ lins, S1 tblK 32 q := all_cons li0_ok (all_cons li1_ok (all_cons li2_ok (all_cons li3_ok (all_cons li4_ok (all_cons li5_ok (all_cons li6_ok (all_cons li7_ok (all_cons li8_ok (all_cons li9_ok (all_cons li10_ok (all_nil)))))))))))
noncomputable def tblL (f : Nat) : FT := cd (Nat.beq f 32) (.ext (xS lins)) (tblK f)
theorem tblL_ok (m : Int) : Tbl Tryz.prog (Gm m) tblL := Tbl.memo (tbl := tblK) (tblK_ok m) (xS_sound (tblK_ok m) lins_ok)
end Go.Ev
