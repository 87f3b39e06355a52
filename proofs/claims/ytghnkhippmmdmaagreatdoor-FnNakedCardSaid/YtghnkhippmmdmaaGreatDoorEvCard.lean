/- For every input FnNaked returns true and its argument reads afterwards as before: the row, and the card over it. -/
import Derived.Test.YtghnkhippmmdmaaGreatDoorEvRow
import Derived.Test.YtghnkhippmmdmaaGreatDoorEvRe
import Derived.Test.YtghnkhippmmdmaaGreatDoorEvRh
import Derived.Test.YtghnkhippmmdmaaGreatDoorTie
import Derived.SevenTiedAt
set_option linter.unusedVariables false
set_option linter.unusedSimpArgs false
set_option linter.all false

namespace Go.Proofs.YtghnkhippmmdmaaGreatDoor
open Go
set_option maxRecDepth 100000

theorem row_holds : Rows.FnNakedSaid :=
  OpenClaim.holds_of_wide 3 Tryz.f3 rfl rfl rfl rfl rfl rfl rfl ⟨rfl, rfl, rfl, rfl, rfl⟩ rfl rfl rfl rfl rfl named3 Tryz.func3 facts
    (of_decide_eq_true (by kernel_rfl)) (by unfold Func.isWrapper; rw [if_neg (of_decide_eq_false (by kernel_rfl))]; exact ⟨rfl, rfl⟩)
    (fun os started H enc _ => law_lifted os started H enc)

theorem fnNaked_card : Rows.FnNakedCardSaid :=
  Claim7.holds_tied_plain_at .later [] [.data, .data, .data, .data, .sentinel, .sentinel, .pinned] true (true, "c680b6ad0bcff48f8530e447ecb310bf0cc02bd297b82e56d85fb780b4c7aec4") true
    row_holds (fun _ h => by cases h) wfText (fun _ h => by cases h) fnNaked_row_tie rfl ⟨rfl, rfl⟩ mainIs rfl
    (fun f fn hf hfn => by
      obtain rfl : f = 3 := (Option.some.inj (named3.symm.trans hf)).symm
      obtain rfl : fn = Tryz.f3 := (Option.some.inj (Tryz.func3.symm.trans hfn)).symm
      exact ⟨looks, fun j t ht => by
        rw [Tryz.params3] at ht
        have h3 : t = 22 := by
          rcases j with _ | j
          · simpa using ht.symm
          · simp at ht
        subst h3
        exact wants⟩)
    goes
end Go.Proofs.YtghnkhippmmdmaaGreatDoor
