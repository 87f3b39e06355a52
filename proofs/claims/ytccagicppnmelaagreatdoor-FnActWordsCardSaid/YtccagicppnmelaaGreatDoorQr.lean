/- A part of the proof that FnActWords returns true for every input and leaves its argument as it was; no condition. -/
import Derived.Test.YtccagicppnmelaaGreatDoorQm
import Derived.Test.YtccagicppnmelaaGreatDoorQa
set_option linter.all false
open List renaming length→U
open Int renaming ofNat→J,toNat→Jn
open Go.Ev
attribute [local irreducible] GC RJ KC KM cAt cOn runC stp brC bodyC cvC rsC rdC regC loopC endC skpC extC retC evJ RS.at RS.put RS.okS RS.okR RS.all RS.fst endV endVM grpA grpB grpR grpD grpO RunOps RunD bodyF resF argsFrom cArg
noncomputable section
namespace Go.Ev
open Go.Proofs
set_option maxRecDepth 100000
variable {Bn:Nat}
abbrev pSI:List Par:=[⟨false,.str⟩,⟨false,.int .i64⟩]
abbrev pTk:List Par:=[⟨true,y637⟩,⟨false,.int .i64⟩,⟨false,.bool⟩]
abbrev yE0:Ty:=.pair (.int .i64) (.pair .str (.sl .bool))
abbrev yE1:Ty:=.pair (.int .i64) (.pair .str (.sl yE0))
abbrev yE2:Ty:=.pair (.int .i64) (.pair .str (.sl yE1))
abbrev yE3:Ty:=.pair (.int .i64) (.pair .str (.sl yE2))
abbrev y578:Ty:=(.pair (.int .i64) (.pair .str (.pair (.sl yE3) (.pair (.sl yE3) (.sl yE3)))))
abbrev y570:Ty:=(.pair (.int .i64) (.pair (.sl yE3) (.sl y578)))
abbrev y358:Ty:=(.pair .str (.pair (.sl .str) (.sl y570)))
abbrev pLn:List Par:=[⟨true,y358⟩,⟨false,.int .i64⟩]
end Go.Ev
end
noncomputable section
namespace Go.Ev
open Go.Proofs
set_option maxRecDepth 100000
variable {Bn:Nat}
def w_0:List Nat:=[65,68,68,40,65,44,78,41,32,84,83,32,32,83,32,94,67,40,65,41,61,36,71,40,94,67,40,65,41,41,43,78,32,84,67,32,32,81]
def tL_0:List (denL pSI×denL pTk):=[((w_0,J0,()),((J1,[65,68,68],J0),J3,true,())),((w_0,J3,()),((J4,[40],J3),J4,true,())),((w_0,J4,()),((J1,[65],J4),J5,true,())),((w_0,J5,()),((J4,[44],J5),J6,true,())),((w_0,J6,()),((J1,[78],J6),J7,true,())),((w_0,J7,()),((J4,[41],J7),J8,true,())),((w_0,J8,()),((J5,[32],J8),J9,true,())),((w_0,J9,()),((J1,[84,83],J9),J11,true,())),((w_0,J11,()),((J5,[32],J11),J12,true,())),((w_0,J12,()),((J5,[32],J12),J13,true,())),((w_0,J13,()),((J1,[83],J13),J14,true,())),((w_0,J14,()),((J5,[32],J14),J15,true,())),((w_0,J15,()),((J4,[94],J15),J16,true,())),((w_0,J16,()),((J1,[67],J16),J17,true,())),((w_0,J17,()),((J4,[40],J17),J18,true,())),((w_0,J18,()),((J1,[65],J18),J19,true,())),((w_0,J19,()),((J4,[41],J19),J20,true,())),((w_0,J20,()),((J4,[61],J20),J21,true,())),((w_0,J21,()),((J4,[36],J21),J22,true,())),((w_0,J22,()),((J1,[71],J22),J23,true,())),((w_0,J23,()),((J4,[40],J23),J24,true,())),((w_0,J24,()),((J4,[94],J24),J25,true,())),((w_0,J25,()),((J1,[67],J25),J26,true,())),((w_0,J26,()),((J4,[40],J26),J27,true,())),((w_0,J27,()),((J1,[65],J27),J28,true,())),((w_0,J28,()),((J4,[41],J28),J29,true,())),((w_0,J29,()),((J4,[41],J29),J30,true,())),((w_0,J30,()),((J4,[43],J30),J31,true,())),((w_0,J31,()),((J1,[78],J31),J32,true,())),((w_0,J32,()),((J5,[32],J32),J33,true,())),((w_0,J33,()),((J1,[84,67],J33),J35,true,())),((w_0,J35,()),((J5,[32],J35),J36,true,())),((w_0,J36,()),((J5,[32],J36),J37,true,())),((w_0,J37,()),((J1,[81],J37),J38,true,())),((w_0,J38,()),((J6,[],J38),J38,true,()))]
theorem rL_0:runAll Bn [] EX 60 580 pSI pTk tL_0=true:=kr
def tP_0:List (denL pStr×denL pLn):=[((w_0,()),(([65,68,68],[[65],[78]],[(J15,[],[]),(J1,[],[(J1,[],[(J3,[67],[(J2,[65],[])])],[(J7,[43],[(J9,[71],[(J3,[67],[(J2,[65],[])])]),(J2,[78],[])])],[])]),(J16,[],[]),(J8,[],[])]),J0,()))]
theorem rP_0 [BOk Bn]:runAll Bn [tabC 580 pSI pTk tL_0] EX 60 265 pStr pLn tP_0=true:=kr
def w_10:List Nat:=[32,81]
def tL_10:List (denL pSI×denL pTk):=[((w_10,J0,()),((J5,[32],J0),J1,true,())),((w_10,J1,()),((J1,[81],J1),J2,true,())),((w_10,J2,()),((J6,[],J2),J2,true,()))]
theorem rL_10:runAll Bn [] EX 60 580 pSI pTk tL_10=true:=kr
def tP_10:List (denL pStr×denL pLn):=[((w_10,()),(([],[],[(J8,[],[])]),J0,()))]
theorem rP_10 [BOk Bn]:runAll Bn [tabC 580 pSI pTk tL_10] EX 60 265 pStr pLn tP_10=true:=kr
end Go.Ev
end
