/- The closed facts of the row and of the card. -/
import Derived.Test.YtghnkhippmmdmaaGreatDoorEvRd
import Derived.Test.YtghnkhippmmdmaaGreatDoorCards
import Derived.SevenTiedAt
set_option linter.unusedVariables false
set_option linter.unusedSimpArgs false
set_option linter.all false

namespace Go.Proofs.YtghnkhippmmdmaaGreatDoor
set_option maxRecDepth 100000

theorem both {a b : Bool} (h : a = true) (h' : b = true) : (a && b) = true := by rw [h, h']; rfl

theorem places : Tryz.prog.inPlace 3 = Rows.fnNakedRow.inPlace := by
  unfold Program.inPlace
  rw [clo_eq]
  kernel_rfl
theorem unfollowed3 : Tryz.prog.unfollowed 3 = true := by
  unfold Program.unfollowed
  rw [clo_eq]
  kernel_rfl
theorem recurses3 : Tryz.prog.recurses 3 = true := by
  unfold Program.recurses
  rw [unfollowed3]
  rfl
theorem vars3 : Tryz.prog.varsNamed 3 = Rows.fnNakedRow.named := by
  unfold Program.varsNamed
  rw [clo_eq]
  kernel_rfl
theorem noGoes : Tryz.prog.funcs.any Func.goes = false := by kernel_rfl
theorem named3 : Tryz.prog.funcNamed Rows.fnNakedRow.func = some 3 := by kernel_rfl

theorem a10 : (Rows.fnNakedRow.inPlace == Tryz.prog.inPlace 3) = true := by rw [places]; exact beq_self_eq_true _
theorem a11 : (Rows.fnNakedRow.unfollowed == Tryz.prog.unfollowed 3) = true := by rw [unfollowed3]; rfl
theorem a12 : (Rows.fnNakedRow.recurses == Tryz.prog.recurses 3) = true := by rw [recurses3]; rfl
theorem a13 : (Rows.fnNakedRow.named == Tryz.prog.varsNamed 3) = true := by rw [vars3]; exact beq_self_eq_true _

theorem facts : joinedFacts Tryz.prog 3 Tryz.f3 Rows.fnNakedSpec Rows.fnNakedRow = true := by
  unfold joinedFacts
  exact both (both (both (both (both (both (both (both (both (both (both (both (both (both (both (both (both (both (both (both (both (both (both (both (both (both (both (both (both (both (both (by kernel_rfl) (by kernel_rfl)) (by kernel_rfl)) (by kernel_rfl)) (by kernel_rfl)) (by kernel_rfl)) (by kernel_rfl)) (by kernel_rfl)) (by kernel_rfl)) a10) a11) a12) a13) (by kernel_rfl)) (by kernel_rfl)) (by kernel_rfl)) (by kernel_rfl)) (by kernel_rfl)) (by kernel_rfl)) (by kernel_rfl)) (by kernel_rfl)) (by kernel_rfl)) (by kernel_rfl)) (by kernel_rfl)) (by kernel_rfl)) (by kernel_rfl)) (by kernel_rfl)) (by kernel_rfl)) (by kernel_rfl)) (by kernel_rfl)) (by kernel_rfl)) (by kernel_rfl)

theorem goes_of {P : Program} {c : OpenClaim} {f : FuncId} (hs : c.start = .entering) (hf : P.funcNamed c.func = some f) (hn : P.funcs.any Func.goes = false) : c.goesBy P = false := by
  have hno : ∀ g : Nat, (P.funcs[g]?).any Func.goes = false := fun g => by
    cases hg : P.funcs[g]? with
    | none => rfl
    | some fn =>
      cases hf : Func.goes fn with
      | false => exact hf
      | true =>
        have h1 : P.funcs.any Func.goes = true := Array.any_eq_true.2 ⟨g, (Array.getElem?_eq_some_iff.1 hg).1, by rw [(Array.getElem?_eq_some_iff.1 hg).2]; exact hf⟩
        rw [hn] at h1
        cases h1
  unfold OpenClaim.goesBy Program.goesAt Program.goesFrom
  rw [hs, hf]
  simp only [Option.any_some, Program.goes, hn, hno, Bool.and_false, Bool.or_false, List.any_eq_false]
  intro _ _ h
  cases h

theorem goes : false = Rows.fnNakedRow.goesBy Tryz.pinned.checked.prog := (goes_of (P := Tryz.prog) (c := Rows.fnNakedRow) rfl named3 noGoes).symm
end Go.Proofs.YtghnkhippmmdmaaGreatDoor
