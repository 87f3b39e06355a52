/- A part of the proof that FnRolled returns true; no condition. -/
import Derived.Test.YtmkdnjbgmflnfaaGreatDoorRows
import Derived.LaidByTextLater
import Derived.SevenTiedAt
set_option linter.all false
set_option maxRecDepth 100000
namespace Go.Proofs.YtmkdnjbgmflnfaaGreatDoor
open Go
noncomputable def xk (i:Nat):String×DataW Unit:=(Rows.fnRolledRow.laid[i]?).getD (default,.nil)
noncomputable abbrev tl:List (String×DataW Unit):=[xk 1,xk 2,xk 3,xk 4,xk 5,xk 6]
theorem pinFirst:Tryz.pinned.checked.prog.pinnedFits (xk 0).1=true:=by kernel_rfl
theorem noOwnU:Tryz.pinned.checked.prog.headLifts.contains "ownunsafe" =false:=by kernel_rfl
theorem listFits:Tryz.pinned.checked.prog.listedFits Rows.fnRolledRow.laid=true:=by
 unfold Program.listedFits
 rw[noOwnU]
 kernel_rfl
theorem tw:Tryz.prog.worded (varsWordLater true)=true:=by kernel_rfl
theorem tw':Tryz.prog.worded (varsWordLater !true)=false:=by kernel_rfl
theorem troot:Tryz.prog.worded rootWordLater=true:=by kernel_rfl
theorem tk:tl.map (fun x=>Tryz.prog.kindOfLater x.1)=[LaidKind.data,.sentinel,.sentinel,.data,.data,.data].map some:=by kernel_rfl
theorem tg:(Tryz.prog.funcNamed "gosem.cut.vars").isSome=true:=by kernel_rfl
theorem vid:varsId Tryz.prog=885:=by kernel_rfl
noncomputable def vc:Code:=((Tryz.prog.funcs[885]?).bind (·.body)).getD .skip
theorem hcode:(Tryz.prog.funcs[885]?).bind (·.body)=some vc:=by kernel_rfl
noncomputable def stL:List Nat:=(vc.laysInOrder []).getD []
theorem hst:vc.laysInOrder []=some stL:=by kernel_rfl
theorem hsh:vc.storedByHandle Tryz.prog=[]:=by kernel_rfl
theorem hal1:vc.unfollowedBeside Tryz.prog=false:=by kernel_rfl
theorem hal2:(vc.tempsApart 0).isSome=true:=by kernel_rfl
theorem hal3:vc.regionsFit Tryz.prog []=true:=by kernel_rfl
theorem hal:Tryz.prog.callsLaidAlone 885 vc=true:=by
 unfold Program.callsLaidAlone
 rw[hal1,hal2,hal3,hsh]
 rfl
theorem hdup:(stL.eraseDups.length==stL.length)=true:=by kernel_rfl
noncomputable def Fx (x:String×DataW Unit):Bool:=(Tryz.prog.globalNamed x.1).any fun v=>(stL.contains v==(Tryz.prog.kindBase x.1 !=some .zero))&&callsFit vc v (Tryz.prog.kindBase x.1)&&
 ((vc.storedByHandle Tryz.prog).contains v==(Tryz.prog.kindBase x.1==some .handle))&&(x.2.handleName?.isSome==(Tryz.prog.kindBase x.1==some .handle||Tryz.prog.kindBase x.1==some .funcs))&&
 (Tryz.prog.kindBase x.1 !=some .handle||handlePair x)&&(x.2.funcsIn?.isSome==(Tryz.prog.kindBase x.1==some .funcs))&&mapsFit vc v x.2 (Tryz.prog.kindBase x.1)
theorem el {x:String×DataW Unit}{v:Nat}{k:LaidKind} (hg:Tryz.prog.globalNamed x.1=some v) (hk:Tryz.prog.kindBase x.1=some k)
 (h:((stL.contains v==(some k !=some .zero))&&callsFit vc v (some k)&&
     (([]:List Nat).contains v==(some k==some LaidKind.handle))&&(x.2.handleName?.isSome==(some k==some LaidKind.handle||some k==some LaidKind.funcs))&&
     (some k !=some .handle||handlePair x)&&(x.2.funcsIn?.isSome==(some k==some LaidKind.funcs))&&mapsFit vc v x.2 (some k))=true):Fx x=true:=by
 unfold Fx
 rw[hg,hk,hsh]
 exact h
theorem g1:Tryz.prog.globalNamed (xk 1).1=some 3:=by kernel_rfl
theorem g2:Tryz.prog.globalNamed (xk 2).1=some 8:=by kernel_rfl
theorem g3:Tryz.prog.globalNamed (xk 3).1=some 9:=by kernel_rfl
theorem g4:Tryz.prog.globalNamed (xk 4).1=some 1:=by kernel_rfl
theorem g5:Tryz.prog.globalNamed (xk 5).1=some 6:=by kernel_rfl
theorem g6:Tryz.prog.globalNamed (xk 6).1=some 7:=by kernel_rfl
theorem b1:Tryz.prog.kindBase (xk 1).1=some .data:=by kernel_rfl
theorem b2:Tryz.prog.kindBase (xk 2).1=some .sentinel:=by kernel_rfl
theorem b3:Tryz.prog.kindBase (xk 3).1=some .sentinel:=by kernel_rfl
theorem b4:Tryz.prog.kindBase (xk 4).1=some .data:=by kernel_rfl
theorem b5:Tryz.prog.kindBase (xk 5).1=some .data:=by kernel_rfl
theorem b6:Tryz.prog.kindBase (xk 6).1=some .data:=by kernel_rfl
theorem l1:Fx (xk 1)=true:=el g1 b1 (by kernel_rfl)
theorem l2:Fx (xk 2)=true:=el g2 b2 (by kernel_rfl)
theorem l3:Fx (xk 3)=true:=el g3 b3 (by kernel_rfl)
theorem l4:Fx (xk 4)=true:=el g4 b4 (by kernel_rfl)
theorem l5:Fx (xk 5)=true:=el g5 b5 (by kernel_rfl)
theorem l6:Fx (xk 6)=true:=el g6 b6 (by kernel_rfl)
theorem all6 {α:Type}{p:α→Bool}{a b c d e f:α} (h1:p a=true) (h2:p b=true) (h3:p c=true) (h4:p d=true) (h5:p e=true) (h6:p f=true):[a,b,c,d,e,f].all p=true:=by
 simp only[List.all_cons,List.all_nil,h1,h2,h3,h4,h5,h6,Bool.and_self]
theorem and3 {a b c:Bool} (h1:a=true) (h2:b=true) (h3:c=true):(a&&b&&c)=true:=by rw[h1,h2,h3];rfl
theorem tn:varsNamedLaterB Tryz.prog (varsId Tryz.prog) tl=true:=by
 rw[vid]
 unfold varsNamedLaterB
 rw[hcode]
 dsimp only
 rw[hst]
 dsimp only
 exact and3 hdup hal (all6 (p:=Fx) l1 l2 l3 l4 l5 l6)
theorem td (os:Os) (tape:Tape):varsDone Tryz.prog 400 (varsId Tryz.prog) os tape=true:=by rw[vid];kernel_rfl
theorem th1 (os:Os) (tape:Tape):(DataW.laidRun Tryz.prog (varsWorld Tryz.prog 400 (varsId Tryz.prog) os tape).memory 8 (tl.map (·.1))).map (·.1)=some tl:=by rw[vid];kernel_rfl
theorem th2 (os:Os) (tape:Tape):(DataW.laidRun Tryz.prog (varsWorld Tryz.prog 400 (varsId Tryz.prog) os tape).memory 8 (tl.map (·.1))).map (fun x=>decide x.2.Nodup&&laidRowsB Tryz.prog (varsWorld Tryz.prog 400 (varsId Tryz.prog) os tape).memory x.2)=some true:=by rw[vid];kernel_rfl
theorem tp:(tl.all fun x=>x.2.handleName?.isNone)=true:=by kernel_rfl
theorem tie0:Tryz.prog.laidByTextLater tl [.data,.sentinel,.sentinel,.data,.data,.data] true:=
 Program.laidByTextLater_by_run 400 8 tw tw' troot tk tg tn td th1 th2 tp
theorem words_tie:Rows.fnRolledRow.laidByTextAt .later Tryz.pinned [.pinned,.data,.sentinel,.sentinel,.data,.data,.data] true:=
 OpenClaim.laidByTextAt_pinned rfl rfl tie0 rfl rfl rfl rfl (fun y hy _e=>by
  simp only[Rows.fnRolledRow,List.zip_cons_cons,List.zip_nil_right,List.mem_cons,List.mem_nil_iff,or_false] at hy
  rcases hy with rfl|rfl|rfl|rfl|rfl|rfl|rfl
  ·exact⟨pinFirst,by kernel_rfl⟩
  ·cases _e
  ·cases _e
  ·cases _e
  ·cases _e
  ·cases _e
  ·cases _e) listFits
end Go.Proofs.YtmkdnjbgmflnfaaGreatDoor
