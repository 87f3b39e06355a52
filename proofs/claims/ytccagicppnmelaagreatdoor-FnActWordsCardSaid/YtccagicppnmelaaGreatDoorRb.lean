/- A part of the proof that FnActWords returns true for every input and leaves its argument as it was; no condition. -/
import Derived.Test.YtccagicppnmelaaGreatDoorRa
import Derived.Test.YtccagicppnmelaaGreatDoorQa
set_option linter.all false
open List renaming length→U
open Int renaming ofNat→J,toNat→Jn
open Go.Ev
attribute [local irreducible] GC RJ KC KM cAt cOn runC stp brC bodyC cvC rsC rdC regC loopC endC skpC extC retC evJ RS.at RS.put RS.okS RS.okR RS.all RS.fst endV endVM grpA grpB grpR grpD grpO RunOps RunD bodyF resF argsFrom cArg
noncomputable section
namespace Go.Ev
open Go.Proofs
set_option maxRecDepth 100000
variable {Bn:Nat} [BOk Bn]
abbrev pHe:List Par:=[⟨false,.sl y346⟩,⟨false,.bool⟩]
def hei_:den (.sl y346):=[(true,J0,J0,J0,J0),(true,J0,J0,J0,J0),(true,J0,J0,J0,J0),(true,J0,J0,J0,J0),(true,J0,J1,J0,J0),(true,J1,J0,J0,J0),(true,J0,J1,J0,J0),(true,J0,J2,J0,J0),(true,J1,J1,J0,J0),(true,J0,J2,J0,J0),(true,J1,J2,J0,J0),(true,J1,J1,J0,J0),(true,J1,J2,J0,J0),(true,J2,J1,J0,J0),(true,J1,J1,J0,J0),(true,J1,J1,J0,J0),(true,J1,J0,J0,J0),(true,J0,J0,J0,J0),(true,J0,J0,J0,J0),(true,J0,J0,J0,J0),(true,J0,J0,J0,J0),(true,J0,J0,J0,J0),(true,J0,J0,J0,J0),(true,J0,J0,J0,J0),(true,J0,J0,J0,J0),(true,J0,J1,J0,J0),(true,J1,J0,J0,J0),(true,J0,J1,J0,J0),(true,J0,J2,J0,J0),(true,J1,J1,J0,J0),(true,J0,J2,J0,J0),(true,J1,J2,J0,J0),(true,J1,J1,J0,J0),(true,J1,J2,J0,J0),(true,J2,J1,J0,J0),(true,J1,J1,J0,J0),(true,J1,J1,J0,J0),(true,J1,J0,J0,J0),(true,J0,J0,J0,J0),(true,J1,J0,J0,J0),(true,J0,J1,J0,J0),(true,J1,J1,J0,J0),(true,J0,J2,J0,J0),(true,J1,J2,J0,J0),(true,J1,J1,J0,J0),(true,J1,J2,J0,J0),(true,J2,J1,J0,J0),(true,J1,J1,J0,J0),(true,J1,J1,J0,J0),(true,J1,J0,J0,J0),(true,J0,J0,J0,J0),(true,J0,J0,J0,J0),(true,J0,J0,J0,J0),(true,J0,J0,J0,J0),(true,J0,J0,J0,J0),(true,J0,J0,J0,J0),(true,J0,J1,J0,J0),(true,J1,J0,J0,J0),(true,J0,J1,J0,J0),(true,J0,J2,J0,J0),(true,J1,J1,J0,J0),(true,J0,J2,J0,J0),(true,J1,J2,J0,J0),(true,J1,J1,J0,J0),(true,J1,J2,J0,J0),(true,J2,J1,J0,J0),(true,J1,J1,J0,J0),(true,J1,J1,J0,J0),(true,J1,J0,J0,J0),(true,J0,J0,J0,J0),(true,J0,J0,J0,J0),(true,J0,J0,J0,J0),(true,J0,J0,J0,J0),(true,J0,J1,J0,J0),(true,J1,J0,J0,J0),(true,J0,J1,J0,J0),(true,J0,J0,J0,J0),(true,J0,J0,J0,J0),(true,J0,J1,J0,J0),(true,J1,J0,J0,J0),(true,J0,J1,J0,J0),(true,J0,J2,J0,J0),(true,J1,J1,J0,J0),(true,J0,J2,J0,J0),(true,J1,J2,J0,J0),(true,J1,J1,J0,J0),(true,J1,J2,J0,J0),(true,J2,J1,J0,J0),(true,J1,J1,J0,J0),(true,J1,J1,J0,J0),(true,J1,J0,J0,J0),(true,J0,J0,J0,J0),(true,J0,J0,J0,J0),(true,J0,J1,J0,J0),(true,J1,J0,J0,J0),(true,J0,J1,J0,J0),(true,J0,J0,J0,J0),(true,J0,J0,J0,J0),(true,J0,J0,J0,J0),(true,J0,J0,J0,J0),(true,J0,J1,J0,J0),(true,J1,J0,J0,J0),(true,J0,J1,J0,J0),(true,J1,J1,J0,J0),(true,J0,J0,J0,J0),(true,J0,J0,J0,J0),(true,J0,J1,J0,J0),(true,J1,J0,J0,J0),(true,J0,J1,J0,J0),(true,J1,J1,J0,J0),(true,J1,J1,J0,J0),(true,J1,J0,J0,J0),(true,J0,J0,J0,J0),(true,J0,J0,J0,J0),(true,J0,J0,J0,J0),(true,J0,J0,J0,J0),(true,J0,J1,J0,J0),(true,J1,J0,J0,J0),(true,J0,J1,J0,J0),(true,J0,J0,J0,J0),(true,J0,J0,J0,J0),(true,J1,J0,J0,J0),(true,J0,J0,J0,J0),(true,J0,J0,J0,J0),(true,J0,J1,J0,J0),(true,J1,J0,J0,J0),(true,J0,J1,J0,J0),(true,J0,J0,J0,J0),(true,J0,J0,J0,J0),(true,J0,J1,J0,J0),(true,J1,J0,J0,J0),(true,J0,J1,J0,J0),(true,J0,J2,J0,J0),(true,J1,J1,J0,J0),(true,J1,J1,J0,J0),(true,J1,J0,J0,J0),(true,J0,J0,J0,J0),(true,J0,J0,J0,J0),(true,J0,J0,J0,J0),(true,J0,J0,J0,J0),(true,J0,J0,J0,J0),(true,J0,J0,J0,J0),(true,J0,J1,J0,J0),(true,J1,J1,J0,J0),(true,J1,J1,J0,J0),(true,J1,J0,J0,J0),(true,J0,J0,J0,J0),(true,J0,J1,J0,J0),(true,J1,J1,J0,J0),(true,J1,J1,J0,J0),(true,J1,J0,J0,J0),(true,J0,J0,J0,J0),(true,J0,J0,J0,J0),(true,J0,J0,J0,J1),(true,J0,J0,J0,J1),(true,J0,J0,J0,J1),(true,J0,J0,J0,J1),(true,J0,J0,J0,J1),(true,J0,J1,J0,J1),(true,J0,J2,J0,J1),(true,J1,J1,J0,J1),(true,J0,J2,J0,J1),(true,J1,J1,J0,J1),(true,J1,J1,J0,J1),(true,J1,J0,J0,J1),(true,J0,J0,J0,J1),(true,J0,J0,J0,J1),(true,J0,J1,J0,J1),(true,J1,J0,J0,J1),(true,J2,J0,J0,J1),(true,J1,J0,J0,J1),(true,J0,J0,J0,J1),(true,J0,J0,J0,J1),(true,J0,J0,J0,J1),(true,J0,J1,J0,J1),(true,J0,J2,J0,J1),(true,J1,J1,J0,J1),(true,J1,J2,J0,J1),(true,J2,J1,J0,J1),(true,J1,J2,J0,J1),(true,J2,J1,J0,J1),(true,J1,J1,J0,J1),(true,J1,J1,J0,J1),(true,J1,J0,J0,J1),(true,J0,J0,J0,J1),(true,J0,J0,J0,J0),(true,J0,J0,J0,J0),(true,J0,J1,J0,J0),(true,J1,J0,J0,J0),(true,J0,J0,J0,J0),(true,J1,J0,J0,J0),(true,J0,J0,J0,J0),(true,J0,J0,J0,J0),(true,J0,J0,J0,J0),(true,J0,J0,J0,J0),(true,J0,J1,J0,J0),(true,J0,J1,J0,J0),(true,J1,J1,J0,J0),(true,J1,J1,J0,J0),(true,J1,J0,J0,J0),(true,J0,J0,J0,J0),(true,J0,J0,J0,J0),(true,J0,J1,J0,J0),(true,J1,J0,J0,J0),(true,J0,J1,J0,J0),(true,J0,J2,J0,J0),(true,J1,J1,J0,J0),(true,J1,J1,J0,J0),(true,J1,J0,J0,J0),(true,J0,J0,J0,J0),(true,J0,J0,J0,J0),(true,J0,J1,J0,J0),(true,J1,J0,J0,J0),(true,J0,J0,J0,J0),(true,J0,J0,J0,J0),(true,J0,J0,J0,J0),(true,J0,J0,J0,J0),(true,J0,J0,J0,J1),(true,J1,J0,J0,J1),(true,J2,J0,J0,J1),(true,J3,J0,J0,J1),(true,J0,J0,J0,J1),(true,J0,J0,J0,J1),(true,J0,J0,J0,J1),(true,J0,J0,J0,J1),(true,J0,J0,J0,J1),(true,J0,J0,J0,J1),(true,J0,J0,J0,J0),(true,J0,J0,J0,J1),(true,J0,J0,J0,J1),(true,J0,J0,J0,J1),(true,J0,J0,J0,J1),(true,J0,J1,J0,J1),(true,J1,J0,J0,J1),(true,J0,J1,J0,J1),(true,J0,J2,J0,J1),(true,J1,J1,J0,J1),(true,J0,J2,J0,J1),(true,J1,J2,J0,J1),(true,J1,J1,J0,J1),(true,J1,J2,J0,J1),(true,J2,J1,J0,J1),(true,J1,J1,J0,J1),(true,J1,J1,J0,J1),(true,J1,J0,J0,J1),(true,J0,J0,J0,J1),(true,J0,J0,J0,J1),(true,J0,J0,J0,J1),(true,J0,J0,J0,J0),(true,J0,J0,J0,J0),(true,J0,J0,J0,J0),(true,J0,J0,J0,J0),(true,J0,J0,J0,J0),(true,J0,J0,J0,J0),(true,J0,J1,J0,J0),(true,J1,J0,J0,J0),(true,J0,J1,J0,J0),(true,J1,J1,J0,J0),(true,J1,J1,J0,J0),(true,J1,J0,J0,J0),(true,J0,J0,J0,J0),(true,J0,J0,J0,J0),(true,J0,J0,J0,J0),(true,J0,J0,J0,J0),(true,J0,J1,J0,J0),(true,J1,J0,J0,J0),(true,J0,J1,J0,J0),(true,J1,J0,J0,J0),(true,J0,J0,J0,J0),(true,J0,J0,J0,J0),(true,J0,J0,J0,J0),(true,J0,J0,J0,J0),(true,J0,J1,J0,J0),(true,J1,J0,J0,J0),(true,J0,J1,J0,J0),(true,J0,J2,J0,J0),(true,J1,J1,J0,J0),(true,J1,J1,J0,J0),(true,J1,J0,J0,J0),(true,J0,J0,J0,J0),(true,J0,J1,J0,J0),(true,J1,J1,J0,J0),(true,J2,J1,J0,J0),(true,J1,J1,J0,J0),(true,J1,J1,J0,J0),(true,J1,J0,J0,J0),(true,J0,J0,J0,J0),(true,J0,J0,J0,J0),(true,J0,J0,J0,J0),(true,J0,J0,J0,J0),(true,J0,J0,J0,J0),(true,J0,J0,J0,J0),(true,J0,J1,J0,J0),(true,J1,J0,J0,J0),(true,J0,J1,J0,J0),(true,J0,J2,J0,J0),(true,J1,J1,J0,J0),(true,J1,J1,J0,J0),(true,J1,J0,J0,J0),(true,J0,J0,J0,J0),(true,J0,J0,J0,J0),(true,J0,J0,J0,J0),(true,J0,J0,J0,J0),(true,J0,J1,J0,J0),(true,J1,J0,J0,J0),(true,J0,J1,J0,J0),(true,J0,J2,J0,J0),(true,J1,J1,J0,J0),(true,J1,J1,J0,J0),(true,J1,J0,J0,J0),(true,J0,J0,J0,J0),(true,J0,J0,J0,J0),(true,J0,J0,J0,J0),(true,J0,J0,J0,J0),(true,J0,J1,J0,J0),(true,J0,J0,J0,J0),(true,J0,J0,J0,J0),(true,J0,J0,J0,J0),(true,J0,J0,J0,J0),(true,J0,J0,J0,J0),(true,J0,J0,J0,J0),(true,J0,J0,J0,J0),(true,J0,J0,J0,J0),(true,J0,J1,J0,J0),(true,J0,J2,J0,J0),(true,J1,J1,J0,J0),(true,J0,J2,J0,J0),(true,J1,J2,J0,J0),(true,J1,J1,J0,J0),(true,J1,J1,J0,J0),(true,J1,J0,J0,J0),(true,J0,J0,J0,J0),(true,J0,J0,J0,J0),(true,J1,J0,J0,J0),(true,J0,J0,J0,J0),(true,J0,J0,J0,J0),(true,J0,J1,J0,J0),(true,J1,J0,J0,J0),(true,J0,J1,J0,J0),(true,J0,J2,J0,J0),(true,J1,J1,J0,J0),(true,J1,J2,J0,J0),(true,J2,J1,J0,J0),(true,J1,J1,J0,J0),(true,J1,J1,J0,J0),(true,J1,J0,J0,J0),(true,J0,J0,J0,J0),(true,J0,J0,J0,J0),(true,J0,J0,J0,J0),(true,J0,J0,J0,J0),(false,J0,J0,J0,J0)]
theorem v171:eqDL pHe (c171 prg_) (hei_,true,())=true:=kr
end Go.Ev
end
noncomputable section
namespace Go.Ev
open Go.Proofs
set_option maxRecDepth 100000
variable {Bn:Nat} [BOk Bn]
abbrev pIn:List Par:=[⟨true,y242⟩]
abbrev pBo:List Par:=[⟨false,.bool⟩]
def tI0_:List (denL pIn×denL pBo):=[(((J1,J0,J0,[]),()),(true,())),(((J33,J1,J0,[]),()),(true,())),(((J11,J0,J0,[65]),()),(true,())),(((J15,J0,J0,[]),()),(true,())),(((J12,J1,J0,[67]),()),(true,())),(((J2,J0,J0,[]),()),(true,())),(((J16,J0,J0,[]),()),(true,())),(((J11,J0,J0,[78]),()),(true,())),(((J5,J0,J0,[43]),()),(true,())),(((J20,J0,J0,[]),()),(true,())),(((J21,J1,J0,[]),()),(true,())),(((J3,J0,J0,[]),()),(true,())),(((J33,J2,J0,[]),()),(true,())),(((J40,J0,J0,[]),()),(true,())),(((J5,J0,J0,[45]),()),(true,())),(((J2,J0,J0,[57]),()),(true,())),(((J29,J1,J0,[]),()),(true,())),(((J29,J2,J0,[]),()),(true,())),(((J2,J0,J0,[49]),()),(true,())),(((J29,J1,J1,[]),()),(true,())),(((J12,J1,J0,[82]),()),(true,())),(((J8,J0,J0,[84]),()),(true,())),(((J31,J0,J0,[]),()),(true,())),(((J12,J1,J0,[66]),()),(true,())),(((J30,J0,J0,[]),()),(true,())),(((J11,J0,J0,[75]),()),(true,())),(((J11,J0,J0,[84]),()),(true,())),(((J2,J0,J0,[48]),()),(true,())),(((J45,J 185,J0,[]),()),(true,()))]
theorem r169_0:runAll Bn [] EX 60 169 pIn pBo tI0_=true:=kr
def tI1_:List (denL pIn×denL pBo):=[(((J48,J 156,J0,[]),()),(true,())),(((J9,J 153,J0,[]),()),(true,())),(((J18,J0,J0,[]),()),(true,())),(((J5,J0,J0,[61]),()),(true,())),(((J10,J 172,J0,[]),()),(true,())),(((J52,J0,J0,[]),()),(true,())),(((J51,J0,J0,[]),()),(true,())),(((J26,J0,J0,[]),()),(true,())),(((J2,J0,J0,[10]),()),(true,())),(((J11,J0,J0,[88]),()),(true,())),(((J27,J0,J0,[]),()),(true,())),(((J28,J0,J0,[]),()),(true,())),(((J12,J1,J0,[73]),()),(true,())),(((J45,J 248,J0,[73]),()),(true,())),(((J2,J0,J0,[51]),()),(true,())),(((J46,J3,J0,[]),()),(true,())),(((J47,J 226,J0,[]),()),(true,())),(((J48,J 228,J0,[]),()),(true,())),(((J49,J0,J0,[]),()),(true,())),(((J9,J 221,J0,[]),()),(true,())),(((J50,J0,J0,[]),()),(true,())),(((J9,J 248,J0,[]),()),(true,())),(((J2,J0,J0,[55]),()),(true,())),(((J33,J3,J0,[]),()),(true,())),(((J17,J0,J0,[]),()),(true,())),(((J5,J0,J0,[47]),()),(true,())),(((J12,J0,J0,[82]),()),(true,())),(((J22,J0,J0,[]),()),(true,()))]
theorem r169_1:runAll Bn [] EX 60 169 pIn pBo tI1_=true:=kr
def k169:Con:=tabC 169 pIn pBo (tI0_++tI1_)
theorem o169:OK Bn k169:=rows_con (rows_app (rows_run ok0 r169_0) (rows_run ok0 r169_1))
end Go.Ev
end
noncomputable section
namespace Go.Ev
open Go.Proofs
set_option maxRecDepth 100000
variable {Bn:Nat} [BOk Bn]
abbrev pBo168:List Par:=[⟨false,.bool⟩]
theorem r168:runAll Bn [] EX 60 168 pPr pBo168 [((prg_,()),(true,()))]=true:=kr
def k168:Con:=tabC 168 pPr pBo168 [((prg_,()),(true,()))]
theorem o168:OK Bn k168:=rows_con (rows_run ok0 r168)
end Go.Ev
end
noncomputable section
namespace Go.Ev
open Go.Proofs
set_option maxRecDepth 100000
variable {Bn:Nat} [BOk Bn]
abbrev pBo170:List Par:=[⟨false,.bool⟩]
theorem r170:runAll Bn [k250] EX 60 170 pPr pBo170 [((prg_,()),(true,()))]=true:=kr
def k170:Con:=tabC 170 pPr pBo170 [((prg_,()),(true,()))]
theorem o170:OK Bn k170:=rows_con (rows_run (okC o250 ok0) r170)
end Go.Ev
end
