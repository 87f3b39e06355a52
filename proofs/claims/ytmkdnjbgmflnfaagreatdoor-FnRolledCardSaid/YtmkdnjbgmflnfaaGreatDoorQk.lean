/- A part of the proof that FnRolled returns true; no condition. -/
import Derived.Test.YtmkdnjbgmflnfaaGreatDoorQi
import Derived.Test.YtmkdnjbgmflnfaaGreatDoorCards
import Derived.SevenTiedAt
set_option linter.all false
set_option maxRecDepth 100000
namespace Go.Proofs.YtmkdnjbgmflnfaaGreatDoor
theorem places:Tryz.prog.inPlace 4=Rows.fnRolledRow.inPlace:=by
 unfold Program.inPlace
 rw[clo_eq]
 kernel_rfl
theorem unfollowed3:Tryz.prog.unfollowed 4=true:=by
 unfold Program.unfollowed
 rw[clo_eq]
 kernel_rfl
theorem recurses3:Tryz.prog.recurses 4=true:=by
 unfold Program.recurses
 rw[unfollowed3]
 rfl
end Go.Proofs.YtmkdnjbgmflnfaaGreatDoor
namespace Go.Proofs.YtmkdnjbgmflnfaaGreatDoor
noncomputable def gnOf (g:Nat):List Nat:=((Tryz.prog.funcs[g]?).bind (·.body)).elim [] Code.globalsNamed
noncomputable def erOf (g:Nat):Option String:=(Tryz.prog.funcs[g]?).bind fun fn=>if fn.body.isNone then entryReads.lookup fn.name else none
theorem vg0:((clo.drop 0).take 100).flatMap gnOf=[]:=by kernel_rfl
theorem ve0:((clo.drop 0).take 100).filterMap erOf=[]:=by kernel_rfl
theorem vg1:((clo.drop 100).take 100).flatMap gnOf=[0,0,0,2,3,8,9,1,6,7]:=by kernel_rfl
theorem ve1:((clo.drop 100).take 100).filterMap erOf=["internal/bytealg.MaxLen"]:=by kernel_rfl
theorem vg2:((clo.drop 200).take 100).flatMap gnOf=[]:=by kernel_rfl
theorem ve2:((clo.drop 200).take 100).filterMap erOf=[]:=by kernel_rfl
theorem vg3:((clo.drop 300).take 100).flatMap gnOf=[]:=by kernel_rfl
theorem ve3:((clo.drop 300).take 100).filterMap erOf=[]:=by kernel_rfl
theorem vg4:((clo.drop 400).take 100).flatMap gnOf=[]:=by kernel_rfl
theorem ve4:((clo.drop 400).take 100).filterMap erOf=[]:=by kernel_rfl
theorem vg5:((clo.drop 500).take 100).flatMap gnOf=[4,5]:=by kernel_rfl
theorem ve5:((clo.drop 500).take 100).filterMap erOf=[]:=by kernel_rfl
theorem vg6:((clo.drop 600).take 100).flatMap gnOf=[]:=by kernel_rfl
theorem ve6:((clo.drop 600).take 100).filterMap erOf=[]:=by kernel_rfl
theorem vg7:((clo.drop 700).take 100).flatMap gnOf=[]:=by kernel_rfl
theorem ve7:((clo.drop 700).take 100).filterMap erOf=[]:=by kernel_rfl
theorem vg8:((clo.drop 800).take 100).flatMap gnOf=[]:=by kernel_rfl
theorem ve8:((clo.drop 800).take 100).filterMap erOf=[]:=by kernel_rfl
theorem cutFlat {α β:Type} (f:α→List β) (l:List α) (a n:Nat):(l.drop a).flatMap f=((l.drop a).take n).flatMap f++(l.drop (a+n)).flatMap f:=by
 rw[←List.flatMap_append,←List.drop_drop,List.take_append_drop]
theorem cutSome {α β:Type} (f:α→Option β) (l:List α) (a n:Nat):(l.drop a).filterMap f=((l.drop a).take n).filterMap f++(l.drop (a+n)).filterMap f:=by
 rw[←List.filterMap_append,←List.drop_drop,List.take_append_drop]
theorem cloEnd:clo.drop 900=[]:=by kernel_rfl
theorem vgAll:clo.flatMap gnOf=[0,0,0,2,3,8,9,1,6,7,4,5]:=by
 have h:clo.flatMap gnOf=(clo.drop 0).flatMap gnOf:=by rw[List.drop_zero]
 rw[h,cutFlat gnOf clo 0 100,vg0,show 0+100=100 from rfl,cutFlat gnOf clo 100 100,vg1,show 100+100=200 from rfl,cutFlat gnOf clo 200 100,vg2,show 200+100=300 from rfl,cutFlat gnOf clo 300 100,vg3,show 300+100=400 from rfl,cutFlat gnOf clo 400 100,vg4,show 400+100=500 from rfl,cutFlat gnOf clo 500 100,vg5,show 500+100=600 from rfl,cutFlat gnOf clo 600 100,vg6,show 600+100=700 from rfl,cutFlat gnOf clo 700 100,vg7,show 700+100=800 from rfl,cutFlat gnOf clo 800 100,vg8,show 800+100=900 from rfl,cloEnd]
 rfl
theorem veAll:clo.filterMap erOf=["internal/bytealg.MaxLen"]:=by
 have h:clo.filterMap erOf=(clo.drop 0).filterMap erOf:=by rw[List.drop_zero]
 rw[h,cutSome erOf clo 0 100,ve0,show 0+100=100 from rfl,cutSome erOf clo 100 100,ve1,show 100+100=200 from rfl,cutSome erOf clo 200 100,ve2,show 200+100=300 from rfl,cutSome erOf clo 300 100,ve3,show 300+100=400 from rfl,cutSome erOf clo 400 100,ve4,show 400+100=500 from rfl,cutSome erOf clo 500 100,ve5,show 500+100=600 from rfl,cutSome erOf clo 600 100,ve6,show 600+100=700 from rfl,cutSome erOf clo 700 100,ve7,show 700+100=800 from rfl,cutSome erOf clo 800 100,ve8,show 800+100=900 from rfl,cloEnd]
 rfl
theorem vars3:Tryz.prog.varsNamed 4=Rows.fnRolledRow.named:=by
 unfold Program.varsNamed
 rw[clo_eq]
 show(((clo.flatMap gnOf).eraseDups.filterMap (fun g=>(Tryz.prog.globals[g]?).map (·.name)))++clo.filterMap erOf).eraseDups=_
 rw[vgAll,veAll]
 kernel_rfl
end Go.Proofs.YtmkdnjbgmflnfaaGreatDoor
