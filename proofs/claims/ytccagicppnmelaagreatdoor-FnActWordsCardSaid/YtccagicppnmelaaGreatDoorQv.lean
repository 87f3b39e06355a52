/- A part of the proof that FnActWords returns true for every input and leaves its argument as it was; no condition. -/
import Derived.Test.YtccagicppnmelaaGreatDoorQr
import Derived.Test.YtccagicppnmelaaGreatDoorQa
set_option linter.all false
open List renaming length→U
open Int renaming ofNat→J,toNat→Jn
open Go.Ev
attribute [local irreducible] GC RJ KC KM cAt cOn runC stp brC bodyC cvC rsC rdC regC loopC endC skpC extC retC evJ RS.at RS.put RS.okS RS.okR RS.all RS.fst endV endVM grpA grpB grpR grpD grpO RunOps RunD bodyF resF argsFrom cArg
noncomputable section
namespace Go.Ev
open Go.Proofs
set_option maxRecDepth 100000
variable {Bn:Nat}
def w_6:List Nat:=[83,85,77,40,65,44,78,41,32,83,32,75,61,34,34,44,84,61,48,32,70,32,32,83,32,75,61,36,79,40,94,67,40,75,41,41,32,81,58,75,61,34,34,32,32,83,32,84,61,84,43,94,67,40,75,41]
def tL_6:List (denL pSI×denL pTk):=[((w_6,J0,()),((J1,[83,85,77],J0),J3,true,())),((w_6,J3,()),((J4,[40],J3),J4,true,())),((w_6,J4,()),((J1,[65],J4),J5,true,())),((w_6,J5,()),((J4,[44],J5),J6,true,())),((w_6,J6,()),((J1,[78],J6),J7,true,())),((w_6,J7,()),((J4,[41],J7),J8,true,())),((w_6,J8,()),((J5,[32],J8),J9,true,())),((w_6,J9,()),((J1,[83],J9),J10,true,())),((w_6,J10,()),((J5,[32],J10),J11,true,())),((w_6,J11,()),((J1,[75],J11),J12,true,())),((w_6,J12,()),((J4,[61],J12),J13,true,())),((w_6,J13,()),((J3,[],J13),J15,true,())),((w_6,J15,()),((J4,[44],J15),J16,true,())),((w_6,J16,()),((J1,[84],J16),J17,true,())),((w_6,J17,()),((J4,[61],J17),J18,true,())),((w_6,J18,()),((J2,[48],J18),J19,true,())),((w_6,J19,()),((J5,[32],J19),J20,true,())),((w_6,J20,()),((J1,[70],J20),J21,true,())),((w_6,J21,()),((J5,[32],J21),J22,true,())),((w_6,J22,()),((J5,[32],J22),J23,true,())),((w_6,J23,()),((J1,[83],J23),J24,true,())),((w_6,J24,()),((J5,[32],J24),J25,true,())),((w_6,J25,()),((J1,[75],J25),J26,true,())),((w_6,J26,()),((J4,[61],J26),J27,true,())),((w_6,J27,()),((J4,[36],J27),J28,true,())),((w_6,J28,()),((J1,[79],J28),J29,true,())),((w_6,J29,()),((J4,[40],J29),J30,true,())),((w_6,J30,()),((J4,[94],J30),J31,true,())),((w_6,J31,()),((J1,[67],J31),J32,true,())),((w_6,J32,()),((J4,[40],J32),J33,true,())),((w_6,J33,()),((J1,[75],J33),J34,true,())),((w_6,J34,()),((J4,[41],J34),J35,true,())),((w_6,J35,()),((J4,[41],J35),J36,true,())),((w_6,J36,()),((J5,[32],J36),J37,true,())),((w_6,J37,()),((J1,[81],J37),J38,true,())),((w_6,J38,()),((J4,[58],J38),J39,true,())),((w_6,J39,()),((J1,[75],J39),J40,true,())),((w_6,J40,()),((J4,[61],J40),J41,true,())),((w_6,J41,()),((J3,[],J41),J43,true,())),((w_6,J43,()),((J5,[32],J43),J44,true,())),((w_6,J44,()),((J5,[32],J44),J45,true,())),((w_6,J45,()),((J1,[83],J45),J46,true,())),((w_6,J46,()),((J5,[32],J46),J47,true,())),((w_6,J47,()),((J1,[84],J47),J48,true,())),((w_6,J48,()),((J4,[61],J48),J49,true,())),((w_6,J49,()),((J1,[84],J49),J50,true,())),((w_6,J50,()),((J4,[43],J50),J51,true,())),((w_6,J51,()),((J4,[94],J51),J52,true,())),((w_6,J52,()),((J1,[67],J52),J53,true,())),((w_6,J53,()),((J4,[40],J53),J54,true,())),((w_6,J54,()),((J1,[75],J54),J55,true,())),((w_6,J55,()),((J4,[41],J55),J56,true,())),((w_6,J56,()),((J6,[],J56),J56,true,()))]
theorem rL_6:runAll Bn [] EX 60 580 pSI pTk tL_6=true:=kr
def tP_6:List (denL pStr×denL pLn):=[((w_6,()),(([83,85,77],[[65],[78]],[(J1,[],[(J1,[],[(J2,[75],[])],[(J1,[],[])],[]),(J1,[],[(J2,[84],[])],[(J1,[48],[])],[])]),(J11,[],[]),(J1,[],[(J1,[],[(J2,[75],[])],[(J9,[79],[(J3,[67],[(J2,[75],[])])])],[])]),(J8,[(J7,[61],[(J2,[75],[]),(J1,[],[])])],[]),(J1,[],[(J1,[],[(J2,[84],[])],[(J7,[43],[(J2,[84],[]),(J3,[67],[(J2,[75],[])])])],[])])]),J0,()))]
theorem rP_6 [BOk Bn]:runAll Bn [tabC 580 pSI pTk tL_6] EX 60 265 pStr pLn tP_6=true:=kr
end Go.Ev
end
