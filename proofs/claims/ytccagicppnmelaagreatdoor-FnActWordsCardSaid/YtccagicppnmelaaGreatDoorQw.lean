/- A part of the proof that FnActWords returns true for every input and leaves its argument as it was; no condition. -/
import Derived.Test.YtccagicppnmelaaGreatDoorQr
import Derived.Test.YtccagicppnmelaaGreatDoorQa
set_option linter.all false
open List renaming length→U
open Int renaming ofNat→J,toNat→Jn
open Go.Ev
attribute [local irreducible] GC RJ KC KM cAt cOn runC stp brC bodyC cvC rsC rdC regC loopC endC skpC extC retC evJ RS.at RS.put RS.okS RS.okR RS.all RS.fst endV endVM grpA grpB grpR grpD grpO RunOps RunD bodyF resF argsFrom cArg
noncomputable section
namespace Go.Ev
open Go.Proofs
set_option maxRecDepth 100000
variable {Bn:Nat}
def w_8:List Nat:=[65,83,75,40,65,44,78,41,32,82,32,88,32,83,32,94,73,40,65,41,61,88,32,87,32,88,32,81]
def tL_8:List (denL pSI×denL pTk):=[((w_8,J0,()),((J1,[65,83,75],J0),J3,true,())),((w_8,J3,()),((J4,[40],J3),J4,true,())),((w_8,J4,()),((J1,[65],J4),J5,true,())),((w_8,J5,()),((J4,[44],J5),J6,true,())),((w_8,J6,()),((J1,[78],J6),J7,true,())),((w_8,J7,()),((J4,[41],J7),J8,true,())),((w_8,J8,()),((J5,[32],J8),J9,true,())),((w_8,J9,()),((J1,[82],J9),J10,true,())),((w_8,J10,()),((J5,[32],J10),J11,true,())),((w_8,J11,()),((J1,[88],J11),J12,true,())),((w_8,J12,()),((J5,[32],J12),J13,true,())),((w_8,J13,()),((J1,[83],J13),J14,true,())),((w_8,J14,()),((J5,[32],J14),J15,true,())),((w_8,J15,()),((J4,[94],J15),J16,true,())),((w_8,J16,()),((J1,[73],J16),J17,true,())),((w_8,J17,()),((J4,[40],J17),J18,true,())),((w_8,J18,()),((J1,[65],J18),J19,true,())),((w_8,J19,()),((J4,[41],J19),J20,true,())),((w_8,J20,()),((J4,[61],J20),J21,true,())),((w_8,J21,()),((J1,[88],J21),J22,true,())),((w_8,J22,()),((J5,[32],J22),J23,true,())),((w_8,J23,()),((J1,[87],J23),J24,true,())),((w_8,J24,()),((J5,[32],J24),J25,true,())),((w_8,J25,()),((J1,[88],J25),J26,true,())),((w_8,J26,()),((J5,[32],J26),J27,true,())),((w_8,J27,()),((J1,[81],J27),J28,true,())),((w_8,J28,()),((J6,[],J28),J28,true,()))]
theorem rL_8:runAll Bn [] EX 60 580 pSI pTk tL_8=true:=kr
def tP_8:List (denL pStr×denL pLn):=[((w_8,()),(([65,83,75],[[65],[78]],[(J5,[],[(J2,[],[(J2,[88],[])],[],[])]),(J1,[],[(J1,[],[(J3,[73],[(J2,[65],[])])],[(J2,[88],[])],[])]),(J4,[],[(J1,[],[],[(J2,[88],[])],[])]),(J8,[],[])]),J0,()))]
theorem rP_8 [BOk Bn]:runAll Bn [tabC 580 pSI pTk tL_8] EX 60 265 pStr pLn tP_8=true:=kr
def w_9:List Nat:=[83,80,73,78,40,65,44,78,41,32,70,32,73,61,49,58,49,58,51,32,84,83,32,32,83,32,94,67,40,65,41,61,36,71,40,94,67,40,65,41,41,43,78,32,84,67]
def tL_9:List (denL pSI×denL pTk):=[((w_9,J0,()),((J1,[83,80,73,78],J0),J4,true,())),((w_9,J4,()),((J4,[40],J4),J5,true,())),((w_9,J5,()),((J1,[65],J5),J6,true,())),((w_9,J6,()),((J4,[44],J6),J7,true,())),((w_9,J7,()),((J1,[78],J7),J8,true,())),((w_9,J8,()),((J4,[41],J8),J9,true,())),((w_9,J9,()),((J5,[32],J9),J10,true,())),((w_9,J10,()),((J1,[70],J10),J11,true,())),((w_9,J11,()),((J5,[32],J11),J12,true,())),((w_9,J12,()),((J1,[73],J12),J13,true,())),((w_9,J13,()),((J4,[61],J13),J14,true,())),((w_9,J14,()),((J2,[49],J14),J15,true,())),((w_9,J15,()),((J4,[58],J15),J16,true,())),((w_9,J16,()),((J2,[49],J16),J17,true,())),((w_9,J17,()),((J4,[58],J17),J18,true,())),((w_9,J18,()),((J2,[51],J18),J19,true,())),((w_9,J19,()),((J5,[32],J19),J20,true,())),((w_9,J20,()),((J1,[84,83],J20),J22,true,())),((w_9,J22,()),((J5,[32],J22),J23,true,())),((w_9,J23,()),((J5,[32],J23),J24,true,())),((w_9,J24,()),((J1,[83],J24),J25,true,())),((w_9,J25,()),((J5,[32],J25),J26,true,())),((w_9,J26,()),((J4,[94],J26),J27,true,())),((w_9,J27,()),((J1,[67],J27),J28,true,())),((w_9,J28,()),((J4,[40],J28),J29,true,())),((w_9,J29,()),((J1,[65],J29),J30,true,())),((w_9,J30,()),((J4,[41],J30),J31,true,())),((w_9,J31,()),((J4,[61],J31),J32,true,())),((w_9,J32,()),((J4,[36],J32),J33,true,())),((w_9,J33,()),((J1,[71],J33),J34,true,())),((w_9,J34,()),((J4,[40],J34),J35,true,())),((w_9,J35,()),((J4,[94],J35),J36,true,())),((w_9,J36,()),((J1,[67],J36),J37,true,())),((w_9,J37,()),((J4,[40],J37),J38,true,())),((w_9,J38,()),((J1,[65],J38),J39,true,())),((w_9,J39,()),((J4,[41],J39),J40,true,())),((w_9,J40,()),((J4,[41],J40),J41,true,())),((w_9,J41,()),((J4,[43],J41),J42,true,())),((w_9,J42,()),((J1,[78],J42),J43,true,())),((w_9,J43,()),((J5,[32],J43),J44,true,())),((w_9,J44,()),((J1,[84,67],J44),J46,true,())),((w_9,J46,()),((J6,[],J46),J46,true,()))]
theorem rL_9:runAll Bn [] EX 60 580 pSI pTk tL_9=true:=kr
def tP_9:List (denL pStr×denL pLn):=[((w_9,()),(([83,80,73,78],[[65],[78]],[(J11,[],[(J1,[73],[],[(J1,[49],[]),(J1,[49],[]),(J1,[51],[])],[])]),(J15,[],[]),(J1,[],[(J1,[],[(J3,[67],[(J2,[65],[])])],[(J7,[43],[(J9,[71],[(J3,[67],[(J2,[65],[])])]),(J2,[78],[])])],[])]),(J16,[],[])]),J0,()))]
theorem rP_9 [BOk Bn]:runAll Bn [tabC 580 pSI pTk tL_9] EX 60 265 pStr pLn tP_9=true:=kr
end Go.Ev
end
