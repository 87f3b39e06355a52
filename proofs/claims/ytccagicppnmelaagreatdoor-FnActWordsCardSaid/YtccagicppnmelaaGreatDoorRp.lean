/- A part of the proof that FnActWords returns true for every input and leaves its argument as it was; no condition. -/
import Derived.Test.YtccagicppnmelaaGreatDoorRk
import Derived.Test.YtccagicppnmelaaGreatDoorRn
import Derived.Test.YtccagicppnmelaaGreatDoorCards
import Derived.SevenTiedAt
set_option linter.all false
namespace Go.Proofs.YtccagicppnmelaaGreatDoor
set_option maxRecDepth 100000
theorem both {a b:Bool} (h:a=true) (h':b=true):(a&&b)=true:=by rw[h,h'];rfl
theorem places:Tryz.prog.inPlace 3=Rows.fnActWordsRow.inPlace:=by
 unfold Program.inPlace
 rw[clo_eq]
 kernel_rfl
theorem unfollowed3:Tryz.prog.unfollowed 3=true:=by
 unfold Program.unfollowed
 rw[clo_eq]
 kernel_rfl
theorem recurses3:Tryz.prog.recurses 3=true:=by
 unfold Program.recurses
 rw[unfollowed3]
 rfl
theorem vars3:Tryz.prog.varsNamed 3=Rows.fnActWordsRow.named:=by
 unfold Program.varsNamed
 rw[clo_eq]
 kernel_rfl
theorem noGoes:Tryz.prog.funcs.any Func.goes=false:=by kernel_rfl
theorem named3:Tryz.prog.funcNamed Rows.fnActWordsRow.func=some 3:=by kernel_rfl
theorem a10:(Rows.fnActWordsRow.inPlace==Tryz.prog.inPlace 3)=true:=by rw[places];exact beq_self_eq_true _
theorem a11:(Rows.fnActWordsRow.unfollowed==Tryz.prog.unfollowed 3)=true:=by rw[unfollowed3];rfl
theorem a12:(Rows.fnActWordsRow.recurses==Tryz.prog.recurses 3)=true:=by rw[recurses3];rfl
theorem a13:(Rows.fnActWordsRow.named==Tryz.prog.varsNamed 3)=true:=by rw[vars3];exact beq_self_eq_true _
theorem mapsR:mapsRowed Tryz.prog=true:=by kernel_rfl
theorem jf1:(Rows.fnActWordsRow.wf (OpenSpec.ofChange Rows.fnActWordsSpec))=true:=by kernel_rfl
theorem jf4:(Tryz.f3.params.all (Tryz.prog.readableRec ·))=true:=by kernel_rfl
theorem jf5:(namedTie Tryz.prog Rows.fnActWordsRow.named Rows.fnActWordsSpec.vars)=true:=by kernel_rfl
theorem jf6:((Rows.fnActWordsRow.stops==[]))=true:=by kernel_rfl
theorem jf7:((Tryz.prog.stops==[]))=true:=by kernel_rfl
theorem jf8:((Rows.fnActWordsRow.knobs==[]))=true:=by kernel_rfl
theorem jf9:((Tryz.prog.stopKnobs==[]))=true:=by kernel_rfl
theorem jf14:((Rows.fnActWordsRow.maps==(Tryz.f3.params.toList++Rows.fnActWordsSpec.plain.varTypes Tryz.prog).any (Tryz.prog.mapsRec ·)))=true:=by kernel_rfl
theorem jf15:((Rows.fnActWordsRow.ifaces==(Tryz.f3.params.toList++Rows.fnActWordsSpec.plain.varTypes Tryz.prog).any (Tryz.prog.ifacesRec ·)))=true:=by kernel_rfl
theorem jf16:((Rows.fnActWordsRow.mapsOut==Tryz.prog.mapsAmong Tryz.f3.resultTypes.toList))=true:=by kernel_rfl
theorem jf17:((Rows.fnActWordsRow.loops==(Tryz.f3.params.toList++Rows.fnActWordsSpec.plain.varTypes Tryz.prog).any (Tryz.prog.loopsFrom ·)))=true:=by kernel_rfl
theorem jf18:((Rows.fnActWordsRow.wideKeys==(Tryz.f3.params.toList++Rows.fnActWordsSpec.plain.varTypes Tryz.prog++Tryz.f3.resultTypes.toList).any (Tryz.prog.wideKeysFrom ·)))=true:=by kernel_rfl
theorem jf19:(Rows.fnActWordsSpec.vars.all (Tryz.prog.varReadable ·))=true:=by kernel_rfl
theorem jf20:(Tryz.f3.resultTypes.all (fun t=>Tryz.prog.readableRec t&&decide (t<Tryz.prog.types.size)))=true:=by kernel_rfl
theorem jf21:((Rows.fnActWordsRow.ifacesOut==Tryz.f3.resultTypes.toList.any (Tryz.prog.ifacesRec ·)))=true:=by kernel_rfl
theorem jf22:((Rows.fnActWordsRow.loopsOut==Tryz.f3.resultTypes.toList.any (Tryz.prog.loopsFrom ·)))=true:=by kernel_rfl
theorem jf23:((Rows.fnActWordsRow.plainKeys==Tryz.prog.plainKeys))=true:=by kernel_rfl
theorem jf24:(Rows.fnActWordsRow.shortTexts.isNone)=true:=by kernel_rfl
theorem jf25:(Tryz.prog.stopsHeard)=true:=by kernel_rfl
theorem jf26:(Tryz.prog.mayEnter)=true:=by kernel_rfl
theorem jf27:((Rows.fnActWordsRow.lifted==Tryz.prog.liftsFinal))=true:=by kernel_rfl
theorem jf28:((Tryz.prog.make==some Rows.fnActWordsRow.make))=true:=by kernel_rfl
theorem jf29:((Rows.fnActWordsRow.kinds==(if Rows.fnActWordsRow.domain.isEmpty then[] else Tryz.f3.params.toList.map fun t=>match Tryz.prog.underlying t with|some (.int k)=>some k|_=>none)))=true:=by kernel_rfl
theorem jf30:((Rows.fnActWordsRow.pinned==Rows.fnActWordsRow.pinnedBy))=true:=by kernel_rfl
theorem jf31:((Rows.fnActWordsRow.veiled==(Tryz.f3.params.toList++Rows.fnActWordsSpec.plain.varTypes Tryz.prog++Tryz.f3.resultTypes.toList).any (Tryz.prog.veiledRec ·)))=true:=by kernel_rfl
theorem jf32:(Rows.fnActWordsRow.veiledFits Tryz.prog Tryz.f3.params.toList (Tryz.f3.params.toList++Rows.fnActWordsSpec.plain.varTypes Tryz.prog++Tryz.f3.resultTypes.toList))=true:=by kernel_rfl
theorem facts:joinedFacts Tryz.prog 3 Tryz.f3 Rows.fnActWordsSpec Rows.fnActWordsRow=true:=by
 unfold joinedFacts
 exact(both (both (both (both (both (both (both (both (both (both (both (both (both (both (both (both (both (both (both (both (both (both (both (both (both (both (both (both (both (both (both jf1 laidOut) mapsR) jf4) jf5) jf6) jf7) jf8) jf9) a10) a11) a12) a13) jf14) jf15) jf16) jf17) jf18) jf19) jf20) jf21) jf22) jf23) jf24) jf25) jf26) jf27) jf28) jf29) jf30) jf31) jf32)
theorem goes_of {P:Program}{c:OpenClaim}{f:FuncId} (hs:c.start=.entering) (hf:P.funcNamed c.func=some f) (hn:P.funcs.any Func.goes=false):c.goesBy P=false:=by
 have hno:∀g:Nat,(P.funcs[g]?).any Func.goes=false:=fun g=>by
  cases hg:P.funcs[g]? with
  |none=>rfl
  |some fn=>
   cases hf:Func.goes fn with
   |false=>exact hf
   |true=>
    have h1:P.funcs.any Func.goes=true:=Array.any_eq_true.2 ⟨g,(Array.getElem?_eq_some_iff.1 hg).1,by rw[(Array.getElem?_eq_some_iff.1 hg).2];exact hf⟩
    rw[hn] at h1
    cases h1
 unfold OpenClaim.goesBy Program.goesAt Program.goesFrom
 rw[hs,hf]
 simp only[Option.any_some,Program.goes,hn,hno,Bool.and_false,Bool.or_false,List.any_eq_false]
 intro _ _ h
 cases h
theorem goes:false=Rows.fnActWordsRow.goesBy Tryz.pinned.checked.prog:=(goes_of (P:=Tryz.prog) (c:=Rows.fnActWordsRow) rfl named3 noGoes).symm
end Go.Proofs.YtccagicppnmelaaGreatDoor
