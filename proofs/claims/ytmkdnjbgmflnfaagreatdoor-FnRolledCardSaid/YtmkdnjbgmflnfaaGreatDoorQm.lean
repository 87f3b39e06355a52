/- For every input FnRolled returns true and its arguments read afterwards as before: the row, and the card over it; no condition. -/
import Derived.Test.YtmkdnjbgmflnfaaGreatDoorQg
import Derived.Test.YtmkdnjbgmflnfaaGreatDoorQl
import Derived.Test.YtmkdnjbgmflnfaaGreatDoorQi
import Derived.Test.YtmkdnjbgmflnfaaGreatDoorQj
import Derived.SevenTiedAt
set_option linter.all false
set_option maxRecDepth 100000
namespace Go.Proofs.YtmkdnjbgmflnfaaGreatDoor
open Go
theorem row_holds:Rows.FnRolledSaid:=
 OpenClaim.holds_of_wide 4 Tryz.f4 rfl rfl rfl rfl rfl rfl rfl ⟨rfl,rfl,rfl,rfl,rfl⟩ rfl rfl rfl rfl rfl named3 Tryz.func4 facts
  (of_decide_eq_true (by kernel_rfl)) (by unfold Func.isWrapper;rw[if_neg (of_decide_eq_false (by kernel_rfl))];exact⟨rfl,rfl⟩)
  (fun os started H enc _=>law_lifted os started H enc)
theorem fnRolled_card:Rows.FnRolledCardSaid:=
 Claim7.holds_tied_plain_at .later [] [.pinned,.data,.sentinel,.sentinel,.data,.data,.data] true (true,"bae429db82ef82fea9d125291ef8048ad46fae7064b823f5ebcb14db461221b2") true
  row_holds (fun _ h=>by cases h) wfText (fun _ h=>by cases h) words_tie rfl ⟨rfl,rfl⟩ mainIs rfl
  (fun f fn hf hfn=>by
   obtain rfl:f=4:=(Option.some.inj (named3.symm.trans hf)).symm
   obtain rfl:fn=Tryz.f4:=(Option.some.inj (Tryz.func4.symm.trans hfn)).symm
   exact⟨looks,fun j t ht=>by
    rw[Tryz.params4] at ht
    have h3:t=22:=by
     rcases j with _|_|j
     ·simpa using ht.symm
     ·simpa using ht.symm
     ·simp at ht
    subst h3
    exact wants⟩)
  goes
end Go.Proofs.YtmkdnjbgmflnfaaGreatDoor
