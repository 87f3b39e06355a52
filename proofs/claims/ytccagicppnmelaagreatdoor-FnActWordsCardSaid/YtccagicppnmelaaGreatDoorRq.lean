/- For every input FnActWords returns true and its argument reads afterwards as before: the row, and the card over it; no condition. -/
import Derived.Test.YtccagicppnmelaaGreatDoorRows
import Derived.Test.YtccagicppnmelaaGreatDoorCards
import Derived.SevenTiedAt
import Derived.Test.YtccagicppnmelaaGreatDoorRo
import Derived.Test.YtccagicppnmelaaGreatDoorRp
import Derived.Test.YtccagicppnmelaaGreatDoorRm
import Derived.Test.YtccagicppnmelaaGreatDoorQa
set_option linter.all false
open List renaming length→U
open Int renaming ofNat→J,toNat→Jn
open Go.Ev
attribute [local irreducible] GC RJ KC KM cAt cOn runC stp brC bodyC cvC rsC rdC regC loopC endC skpC extC retC evJ RS.at RS.put RS.okS RS.okR RS.all RS.fst endV endVM grpA grpB grpR grpD grpO RunOps RunD bodyF resF argsFrom cArg
namespace Go.Proofs.YtccagicppnmelaaGreatDoor
set_option maxRecDepth 100000
theorem mainIs:Tryz.pinned.checked.prog.mainIs=some (true,"d7a50cdae28b5817a146a493dc5dcab707935e0ad63868f70aaecc14a6e8627f".toList):=by kernel_rfl
theorem wfText:Rows.fnActWordsRow.wfByText (OpenSpec.ofChange Rows.fnActWordsSpec)=true:=by kernel_rfl
theorem looks:true=Tryz.pinned.checked.prog.looks []:=by kernel_rfl
theorem wants:Tryz.prog.wantsStandIn 22=false:=by kernel_rfl
end Go.Proofs.YtccagicppnmelaaGreatDoor
noncomputable section
namespace Go.Proofs.YtccagicppnmelaaGreatDoor
open Go
set_option maxRecDepth 100000
theorem row_holds:Rows.FnActWordsSaid:=
 OpenClaim.holds_of_wide 3 Tryz.f3 rfl rfl rfl rfl rfl rfl rfl ⟨rfl,rfl,rfl,rfl,rfl⟩ rfl rfl rfl rfl rfl named3 Tryz.func3 facts
  (of_decide_eq_true kr) (by unfold Func.isWrapper;rw[if_neg (of_decide_eq_false kr)];exact⟨rfl,rfl⟩)
  (fun os started H enc _=>law_lifted os started H enc)
theorem fnActWords_card:Rows.FnActWordsCardSaid:=
 Claim7.holds_tied_plain_at .later [] [.pinned,.data,.data,.data,.data,.sentinel,.sentinel] true (true,"d7a50cdae28b5817a146a493dc5dcab707935e0ad63868f70aaecc14a6e8627f") true
  row_holds (fun _ h=>by cases h) wfText (fun _ h=>by cases h) words_tie rfl ⟨rfl,rfl⟩ mainIs rfl
  (fun f fn hf hfn=>by
   obtain rfl:f=3:=(Oi (named3.symm.trans hf)).symm
   obtain rfl:fn=Tryz.f3:=(Oi (Tryz.func3.symm.trans hfn)).symm
   exact⟨looks,fun j t ht=>by
    rw[Tryz.params3] at ht
    have h3:t=22:=by
     rcases j with _|j
     ·simpa using ht.symm
     ·simp at ht
    subst h3
    exact wants⟩)
  goes
end Go.Proofs.YtccagicppnmelaaGreatDoor
end
