/- A part of the proof that FnRolled returns true; no condition. -/
import Derived.Test.YtmkdnjbgmflnfaaGreatDoorQk
import Derived.Test.YtmkdnjbgmflnfaaGreatDoorQh
import Derived.Test.YtmkdnjbgmflnfaaGreatDoorCards
import Derived.SevenTiedAt
set_option linter.all false
set_option maxRecDepth 100000
namespace Go.Proofs.YtmkdnjbgmflnfaaGreatDoor
theorem both {a b:Bool} (h:a=true) (h':b=true):(a&&b)=true:=by rw[h,h'];rfl
theorem noGoes:Tryz.prog.funcs.any Func.goes=false:=by kernel_rfl
theorem named3:Tryz.prog.funcNamed Rows.fnRolledRow.func=some 4:=by kernel_rfl
theorem a10:(Rows.fnRolledRow.inPlace==Tryz.prog.inPlace 4)=true:=by rw[places];exact beq_self_eq_true _
theorem a11:(Rows.fnRolledRow.unfollowed==Tryz.prog.unfollowed 4)=true:=by rw[unfollowed3];rfl
theorem a12:(Rows.fnRolledRow.recurses==Tryz.prog.recurses 4)=true:=by rw[recurses3];rfl
theorem a13:(Rows.fnRolledRow.named==Tryz.prog.varsNamed 4)=true:=by rw[vars3];exact beq_self_eq_true _
theorem mapsR:mapsRowed Tryz.prog=true:=by kernel_rfl
theorem jf1:(Rows.fnRolledRow.wf (OpenSpec.ofChange Rows.fnRolledSpec))=true:=by kernel_rfl
theorem jf4:(Tryz.f4.params.all (Tryz.prog.readableRec ·))=true:=by kernel_rfl
theorem jf5:(namedTie Tryz.prog Rows.fnRolledRow.named Rows.fnRolledSpec.vars)=true:=by kernel_rfl
theorem jf6:((Rows.fnRolledRow.stops==[]))=true:=by kernel_rfl
theorem jf7:((Tryz.prog.stops==[]))=true:=by kernel_rfl
theorem jf8:((Rows.fnRolledRow.knobs==[]))=true:=by kernel_rfl
theorem jf9:((Tryz.prog.stopKnobs==[]))=true:=by kernel_rfl
theorem jf14:((Rows.fnRolledRow.maps==(Tryz.f4.params.toList++Rows.fnRolledSpec.plain.varTypes Tryz.prog).any (Tryz.prog.mapsRec ·)))=true:=by kernel_rfl
theorem jf15:((Rows.fnRolledRow.ifaces==(Tryz.f4.params.toList++Rows.fnRolledSpec.plain.varTypes Tryz.prog).any (Tryz.prog.ifacesRec ·)))=true:=by kernel_rfl
theorem jf16:((Rows.fnRolledRow.mapsOut==Tryz.prog.mapsAmong Tryz.f4.resultTypes.toList))=true:=by kernel_rfl
theorem jf17:((Rows.fnRolledRow.loops==(Tryz.f4.params.toList++Rows.fnRolledSpec.plain.varTypes Tryz.prog).any (Tryz.prog.loopsFrom ·)))=true:=by kernel_rfl
theorem jf18:((Rows.fnRolledRow.wideKeys==(Tryz.f4.params.toList++Rows.fnRolledSpec.plain.varTypes Tryz.prog++Tryz.f4.resultTypes.toList).any (Tryz.prog.wideKeysFrom ·)))=true:=by kernel_rfl
theorem jf19:(Rows.fnRolledSpec.vars.all (Tryz.prog.varReadable ·))=true:=by kernel_rfl
theorem jf20:(Tryz.f4.resultTypes.all (fun t=>Tryz.prog.readableRec t&&decide (t<Tryz.prog.types.size)))=true:=by kernel_rfl
theorem jf21:((Rows.fnRolledRow.ifacesOut==Tryz.f4.resultTypes.toList.any (Tryz.prog.ifacesRec ·)))=true:=by kernel_rfl
theorem jf22:((Rows.fnRolledRow.loopsOut==Tryz.f4.resultTypes.toList.any (Tryz.prog.loopsFrom ·)))=true:=by kernel_rfl
theorem jf23:((Rows.fnRolledRow.plainKeys==Tryz.prog.plainKeys))=true:=by kernel_rfl
theorem jf24:(Rows.fnRolledRow.shortTexts.isNone)=true:=by kernel_rfl
theorem jf25:(Tryz.prog.stopsHeard)=true:=by kernel_rfl
theorem jf26:(Tryz.prog.mayEnter)=true:=by kernel_rfl
theorem jf27:((Rows.fnRolledRow.lifted==Tryz.prog.liftsFinal))=true:=by kernel_rfl
theorem jf28:((Tryz.prog.make==some Rows.fnRolledRow.make))=true:=by kernel_rfl
theorem jf29:((Rows.fnRolledRow.kinds==(if Rows.fnRolledRow.domain.isEmpty then[] else Tryz.f4.params.toList.map fun t=>match Tryz.prog.underlying t with|some (.int k)=>some k|_=>none)))=true:=by kernel_rfl
theorem jf30:((Rows.fnRolledRow.pinned==Rows.fnRolledRow.pinnedBy))=true:=by kernel_rfl
theorem jf31:((Rows.fnRolledRow.veiled==(Tryz.f4.params.toList++Rows.fnRolledSpec.plain.varTypes Tryz.prog++Tryz.f4.resultTypes.toList).any (Tryz.prog.veiledRec ·)))=true:=by kernel_rfl
theorem jf32:(Rows.fnRolledRow.veiledFits Tryz.prog Tryz.f4.params.toList (Tryz.f4.params.toList++Rows.fnRolledSpec.plain.varTypes Tryz.prog++Tryz.f4.resultTypes.toList))=true:=by kernel_rfl
theorem facts:joinedFacts Tryz.prog 4 Tryz.f4 Rows.fnRolledSpec Rows.fnRolledRow=true:=by
 unfold joinedFacts
 exact(both (both (both (both (both (both (both (both (both (both (both (both (both (both (both (both (both (both (both (both (both (both (both (both (both (both (both (both (both (both (both jf1 laidOut) mapsR) jf4) jf5) jf6) jf7) jf8) jf9) a10) a11) a12) a13) jf14) jf15) jf16) jf17) jf18) jf19) jf20) jf21) jf22) jf23) jf24) jf25) jf26) jf27) jf28) jf29) jf30) jf31) jf32)
theorem goes_of {P:Program}{c:OpenClaim}{f:FuncId} (hs:c.start=.entering) (hf:P.funcNamed c.func=some f) (hn:P.funcs.any Func.goes=false):c.goesBy P=false:=by
 have hno:∀g:Nat,(P.funcs[g]?).any Func.goes=false:=fun g=>by
  cases hg:P.funcs[g]? with
  |none=>rfl
  |some fn=>
   cases hf:Func.goes fn with
   |false=>exact hf
   |true=>
    have h1:P.funcs.any Func.goes=true:=Array.any_eq_true.2 ⟨g,(Array.getElem?_eq_some_iff.1 hg).1,by rw[(Array.getElem?_eq_some_iff.1 hg).2];exact hf⟩
    rw[hn] at h1
    cases h1
 unfold OpenClaim.goesBy Program.goesAt Program.goesFrom
 rw[hs,hf]
 simp only[Option.any_some,Program.goes,hn,hno,Bool.and_false,Bool.or_false,List.any_eq_false]
 intro _ _ h
 cases h
theorem goes:false=Rows.fnRolledRow.goesBy Tryz.pinned.checked.prog:=(goes_of (P:=Tryz.prog) (c:=Rows.fnRolledRow) rfl named3 noGoes).symm
end Go.Proofs.YtmkdnjbgmflnfaaGreatDoor
