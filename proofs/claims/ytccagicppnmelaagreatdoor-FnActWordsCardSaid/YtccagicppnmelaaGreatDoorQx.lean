/- A part of the proof that FnActWords returns true for every input and leaves its argument as it was; no condition. -/
import Derived.Test.YtccagicppnmelaaGreatDoorQr
import Derived.Test.YtccagicppnmelaaGreatDoorQa
set_option linter.all false
open List renaming length→U
open Int renaming ofNat→J,toNat→Jn
open Go.Ev
attribute [local irreducible] GC RJ KC KM cAt cOn runC stp brC bodyC cvC rsC rdC regC loopC endC skpC extC retC evJ RS.at RS.put RS.okS RS.okR RS.all RS.fst endV endVM grpA grpB grpR grpD grpO RunOps RunD bodyF resF argsFrom cArg
noncomputable section
namespace Go.Ev
open Go.Proofs
set_option maxRecDepth 100000
variable {Bn:Nat}
def w_11:List Nat:=[82,79,76,76,40,65,44,78,41,32,84,83,32,32,83,32,94,67,40,65,41,61,55,32,84,82,79,32,32,87,32,36,68,40,94,67,40,65,41,41,32,81]
def tL_11:List (denL pSI×denL pTk):=[((w_11,J0,()),((J1,[82,79,76,76],J0),J4,true,())),((w_11,J4,()),((J4,[40],J4),J5,true,())),((w_11,J5,()),((J1,[65],J5),J6,true,())),((w_11,J6,()),((J4,[44],J6),J7,true,())),((w_11,J7,()),((J1,[78],J7),J8,true,())),((w_11,J8,()),((J4,[41],J8),J9,true,())),((w_11,J9,()),((J5,[32],J9),J10,true,())),((w_11,J10,()),((J1,[84,83],J10),J12,true,())),((w_11,J12,()),((J5,[32],J12),J13,true,())),((w_11,J13,()),((J5,[32],J13),J14,true,())),((w_11,J14,()),((J1,[83],J14),J15,true,())),((w_11,J15,()),((J5,[32],J15),J16,true,())),((w_11,J16,()),((J4,[94],J16),J17,true,())),((w_11,J17,()),((J1,[67],J17),J18,true,())),((w_11,J18,()),((J4,[40],J18),J19,true,())),((w_11,J19,()),((J1,[65],J19),J20,true,())),((w_11,J20,()),((J4,[41],J20),J21,true,())),((w_11,J21,()),((J4,[61],J21),J22,true,())),((w_11,J22,()),((J2,[55],J22),J23,true,())),((w_11,J23,()),((J5,[32],J23),J24,true,())),((w_11,J24,()),((J1,[84,82,79],J24),J27,true,())),((w_11,J27,()),((J5,[32],J27),J28,true,())),((w_11,J28,()),((J5,[32],J28),J29,true,())),((w_11,J29,()),((J1,[87],J29),J30,true,())),((w_11,J30,()),((J5,[32],J30),J31,true,())),((w_11,J31,()),((J4,[36],J31),J32,true,())),((w_11,J32,()),((J1,[68],J32),J33,true,())),((w_11,J33,()),((J4,[40],J33),J34,true,())),((w_11,J34,()),((J4,[94],J34),J35,true,())),((w_11,J35,()),((J1,[67],J35),J36,true,())),((w_11,J36,()),((J4,[40],J36),J37,true,())),((w_11,J37,()),((J1,[65],J37),J38,true,())),((w_11,J38,()),((J4,[41],J38),J39,true,())),((w_11,J39,()),((J4,[41],J39),J40,true,())),((w_11,J40,()),((J5,[32],J40),J41,true,())),((w_11,J41,()),((J1,[81],J41),J42,true,())),((w_11,J42,()),((J6,[],J42),J42,true,()))]
theorem rL_11:runAll Bn [] EX 60 580 pSI pTk tL_11=true:=kr
def tP_11:List (denL pStr×denL pLn):=[((w_11,()),(([82,79,76,76],[[65],[78]],[(J15,[],[]),(J1,[],[(J1,[],[(J3,[67],[(J2,[65],[])])],[(J1,[55],[])],[])]),(J17,[],[]),(J4,[],[(J1,[],[],[(J9,[68],[(J3,[67],[(J2,[65],[])])])],[])]),(J8,[],[])]),J0,()))]
theorem rP_11 [BOk Bn]:runAll Bn [tabC 580 pSI pTk tL_11] EX 60 265 pStr pLn tP_11=true:=kr
def w_12:List Nat:=[66,65,68,40,65,44,78,41,32,83,32,94,67,40,65,41,61,78,44,88,61,49,47,48,32,81]
def tL_12:List (denL pSI×denL pTk):=[((w_12,J0,()),((J1,[66,65,68],J0),J3,true,())),((w_12,J3,()),((J4,[40],J3),J4,true,())),((w_12,J4,()),((J1,[65],J4),J5,true,())),((w_12,J5,()),((J4,[44],J5),J6,true,())),((w_12,J6,()),((J1,[78],J6),J7,true,())),((w_12,J7,()),((J4,[41],J7),J8,true,())),((w_12,J8,()),((J5,[32],J8),J9,true,())),((w_12,J9,()),((J1,[83],J9),J10,true,())),((w_12,J10,()),((J5,[32],J10),J11,true,())),((w_12,J11,()),((J4,[94],J11),J12,true,())),((w_12,J12,()),((J1,[67],J12),J13,true,())),((w_12,J13,()),((J4,[40],J13),J14,true,())),((w_12,J14,()),((J1,[65],J14),J15,true,())),((w_12,J15,()),((J4,[41],J15),J16,true,())),((w_12,J16,()),((J4,[61],J16),J17,true,())),((w_12,J17,()),((J1,[78],J17),J18,true,())),((w_12,J18,()),((J4,[44],J18),J19,true,())),((w_12,J19,()),((J1,[88],J19),J20,true,())),((w_12,J20,()),((J4,[61],J20),J21,true,())),((w_12,J21,()),((J2,[49],J21),J22,true,())),((w_12,J22,()),((J4,[47],J22),J23,true,())),((w_12,J23,()),((J2,[48],J23),J24,true,())),((w_12,J24,()),((J5,[32],J24),J25,true,())),((w_12,J25,()),((J1,[81],J25),J26,true,())),((w_12,J26,()),((J6,[],J26),J26,true,()))]
theorem rL_12:runAll Bn [] EX 60 580 pSI pTk tL_12=true:=kr
def tP_12:List (denL pStr×denL pLn):=[((w_12,()),(([66,65,68],[[65],[78]],[(J1,[],[(J1,[],[(J3,[67],[(J2,[65],[])])],[(J2,[78],[])],[]),(J1,[],[(J2,[88],[])],[(J7,[47],[(J1,[49],[]),(J1,[48],[])])],[])]),(J8,[],[])]),J0,()))]
theorem rP_12 [BOk Bn]:runAll Bn [tabC 580 pSI pTk tL_12] EX 60 265 pStr pLn tP_12=true:=kr
end Go.Ev
end
