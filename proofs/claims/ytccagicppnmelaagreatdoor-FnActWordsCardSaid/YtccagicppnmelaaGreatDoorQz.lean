/- A part of the proof that FnActWords returns true for every input and leaves its argument as it was; no condition. -/
import Derived.Test.YtccagicppnmelaaGreatDoorQr
import Derived.Test.YtccagicppnmelaaGreatDoorQa
set_option linter.all false
open List renaming length→U
open Int renaming ofNat→J,toNat→Jn
open Go.Ev
attribute [local irreducible] GC RJ KC KM cAt cOn runC stp brC bodyC cvC rsC rdC regC loopC endC skpC extC retC evJ RS.at RS.put RS.okS RS.okR RS.all RS.fst endV endVM grpA grpB grpR grpD grpO RunOps RunD bodyF resF argsFrom cArg
noncomputable section
namespace Go.Ev
open Go.Proofs
set_option maxRecDepth 100000
variable {Bn:Nat}
def w_14:List Nat:=[83,76,79,87,40,65,44,78,41,32,84,83,32,32,83,32,88,61,36,71,40,94,67,40,65,41,41,32,72,32,49,32,83,32,94,67,40,65,41,61,88,43,78,32,84,67,32,32,81]
def tL_14:List (denL pSI×denL pTk):=[((w_14,J0,()),((J1,[83,76,79,87],J0),J4,true,())),((w_14,J4,()),((J4,[40],J4),J5,true,())),((w_14,J5,()),((J1,[65],J5),J6,true,())),((w_14,J6,()),((J4,[44],J6),J7,true,())),((w_14,J7,()),((J1,[78],J7),J8,true,())),((w_14,J8,()),((J4,[41],J8),J9,true,())),((w_14,J9,()),((J5,[32],J9),J10,true,())),((w_14,J10,()),((J1,[84,83],J10),J12,true,())),((w_14,J12,()),((J5,[32],J12),J13,true,())),((w_14,J13,()),((J5,[32],J13),J14,true,())),((w_14,J14,()),((J1,[83],J14),J15,true,())),((w_14,J15,()),((J5,[32],J15),J16,true,())),((w_14,J16,()),((J1,[88],J16),J17,true,())),((w_14,J17,()),((J4,[61],J17),J18,true,())),((w_14,J18,()),((J4,[36],J18),J19,true,())),((w_14,J19,()),((J1,[71],J19),J20,true,())),((w_14,J20,()),((J4,[40],J20),J21,true,())),((w_14,J21,()),((J4,[94],J21),J22,true,())),((w_14,J22,()),((J1,[67],J22),J23,true,())),((w_14,J23,()),((J4,[40],J23),J24,true,())),((w_14,J24,()),((J1,[65],J24),J25,true,())),((w_14,J25,()),((J4,[41],J25),J26,true,())),((w_14,J26,()),((J4,[41],J26),J27,true,())),((w_14,J27,()),((J5,[32],J27),J28,true,())),((w_14,J28,()),((J1,[72],J28),J29,true,())),((w_14,J29,()),((J5,[32],J29),J30,true,())),((w_14,J30,()),((J2,[49],J30),J31,true,())),((w_14,J31,()),((J5,[32],J31),J32,true,())),((w_14,J32,()),((J1,[83],J32),J33,true,())),((w_14,J33,()),((J5,[32],J33),J34,true,())),((w_14,J34,()),((J4,[94],J34),J35,true,())),((w_14,J35,()),((J1,[67],J35),J36,true,())),((w_14,J36,()),((J4,[40],J36),J37,true,())),((w_14,J37,()),((J1,[65],J37),J38,true,())),((w_14,J38,()),((J4,[41],J38),J39,true,())),((w_14,J39,()),((J4,[61],J39),J40,true,())),((w_14,J40,()),((J1,[88],J40),J41,true,())),((w_14,J41,()),((J4,[43],J41),J42,true,())),((w_14,J42,()),((J1,[78],J42),J43,true,())),((w_14,J43,()),((J5,[32],J43),J44,true,())),((w_14,J44,()),((J1,[84,67],J44),J46,true,())),((w_14,J46,()),((J5,[32],J46),J47,true,())),((w_14,J47,()),((J5,[32],J47),J48,true,())),((w_14,J48,()),((J1,[81],J48),J49,true,())),((w_14,J49,()),((J6,[],J49),J49,true,()))]
theorem rL_14:runAll Bn [] EX 60 580 pSI pTk tL_14=true:=kr
def tP_14:List (denL pStr×denL pLn):=[((w_14,()),(([83,76,79,87],[[65],[78]],[(J15,[],[]),(J1,[],[(J1,[],[(J2,[88],[])],[(J9,[71],[(J3,[67],[(J2,[65],[])])])],[])]),(J12,[],[(J1,[],[],[(J1,[49],[])],[])]),(J1,[],[(J1,[],[(J3,[67],[(J2,[65],[])])],[(J7,[43],[(J2,[88],[]),(J2,[78],[])])],[])]),(J16,[],[]),(J8,[],[])]),J0,()))]
theorem rP_14 [BOk Bn]:runAll Bn [tabC 580 pSI pTk tL_14] EX 60 265 pStr pLn tP_14=true:=kr
end Go.Ev
end
