/- A part of the proof that FnActWords returns true for every input and leaves its argument as it was; no condition. -/
import Derived.Test.YtccagicppnmelaaGreatDoorQr
import Derived.Test.YtccagicppnmelaaGreatDoorQa
set_option linter.all false
open List renaming length→U
open Int renaming ofNat→J,toNat→Jn
open Go.Ev
attribute [local irreducible] GC RJ KC KM cAt cOn runC stp brC bodyC cvC rsC rdC regC loopC endC skpC extC retC evJ RS.at RS.put RS.okS RS.okR RS.all RS.fst endV endVM grpA grpB grpR grpD grpO RunOps RunD bodyF resF argsFrom cArg
noncomputable section
namespace Go.Ev
open Go.Proofs
set_option maxRecDepth 100000
variable {Bn:Nat}
def w_13:List Nat:=[78,69,83,84,40,65,44,78,41,32,84,83,32,32,83,32,94,67,40,65,41,61,78,32,84,83,32,32,83,32,94,67,40,78,41,61,65,32,84,67,32,32,75,32,94,82,32,84,67,32,32,81]
def tL_13:List (denL pSI×denL pTk):=[((w_13,J0,()),((J1,[78,69,83,84],J0),J4,true,())),((w_13,J4,()),((J4,[40],J4),J5,true,())),((w_13,J5,()),((J1,[65],J5),J6,true,())),((w_13,J6,()),((J4,[44],J6),J7,true,())),((w_13,J7,()),((J1,[78],J7),J8,true,())),((w_13,J8,()),((J4,[41],J8),J9,true,())),((w_13,J9,()),((J5,[32],J9),J10,true,())),((w_13,J10,()),((J1,[84,83],J10),J12,true,())),((w_13,J12,()),((J5,[32],J12),J13,true,())),((w_13,J13,()),((J5,[32],J13),J14,true,())),((w_13,J14,()),((J1,[83],J14),J15,true,())),((w_13,J15,()),((J5,[32],J15),J16,true,())),((w_13,J16,()),((J4,[94],J16),J17,true,())),((w_13,J17,()),((J1,[67],J17),J18,true,())),((w_13,J18,()),((J4,[40],J18),J19,true,())),((w_13,J19,()),((J1,[65],J19),J20,true,())),((w_13,J20,()),((J4,[41],J20),J21,true,())),((w_13,J21,()),((J4,[61],J21),J22,true,())),((w_13,J22,()),((J1,[78],J22),J23,true,())),((w_13,J23,()),((J5,[32],J23),J24,true,())),((w_13,J24,()),((J1,[84,83],J24),J26,true,())),((w_13,J26,()),((J5,[32],J26),J27,true,())),((w_13,J27,()),((J5,[32],J27),J28,true,())),((w_13,J28,()),((J1,[83],J28),J29,true,())),((w_13,J29,()),((J5,[32],J29),J30,true,())),((w_13,J30,()),((J4,[94],J30),J31,true,())),((w_13,J31,()),((J1,[67],J31),J32,true,())),((w_13,J32,()),((J4,[40],J32),J33,true,())),((w_13,J33,()),((J1,[78],J33),J34,true,())),((w_13,J34,()),((J4,[41],J34),J35,true,())),((w_13,J35,()),((J4,[61],J35),J36,true,())),((w_13,J36,()),((J1,[65],J36),J37,true,())),((w_13,J37,()),((J5,[32],J37),J38,true,())),((w_13,J38,()),((J1,[84,67],J38),J40,true,())),((w_13,J40,()),((J5,[32],J40),J41,true,())),((w_13,J41,()),((J5,[32],J41),J42,true,())),((w_13,J42,()),((J1,[75],J42),J43,true,())),((w_13,J43,()),((J5,[32],J43),J44,true,())),((w_13,J44,()),((J4,[94],J44),J45,true,())),((w_13,J45,()),((J1,[82],J45),J46,true,())),((w_13,J46,()),((J5,[32],J46),J47,true,())),((w_13,J47,()),((J1,[84,67],J47),J49,true,())),((w_13,J49,()),((J5,[32],J49),J50,true,())),((w_13,J50,()),((J5,[32],J50),J51,true,())),((w_13,J51,()),((J1,[81],J51),J52,true,())),((w_13,J52,()),((J6,[],J52),J52,true,()))]
theorem rL_13:runAll Bn [] EX 60 580 pSI pTk tL_13=true:=kr
def tP_13:List (denL pStr×denL pLn):=[((w_13,()),(([78,69,83,84],[[65],[78]],[(J15,[],[]),(J1,[],[(J1,[],[(J3,[67],[(J2,[65],[])])],[(J2,[78],[])],[])]),(J15,[],[]),(J1,[],[(J1,[],[(J3,[67],[(J2,[78],[])])],[(J2,[65],[])],[])]),(J16,[],[]),(J2,[],[(J1,[],[(J3,[82],[])],[],[])]),(J16,[],[]),(J8,[],[])]),J0,()))]
theorem rP_13 [BOk Bn]:runAll Bn [tabC 580 pSI pTk tL_13] EX 60 265 pStr pLn tP_13=true:=kr
end Go.Ev
end
