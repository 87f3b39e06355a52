/- A part of the proof that FnActWords returns true for every input and leaves its argument as it was; no condition. -/
import Derived.Test.YtccagicppnmelaaGreatDoorQr
import Derived.Test.YtccagicppnmelaaGreatDoorQa
set_option linter.all false
open List renaming length→U
open Int renaming ofNat→J,toNat→Jn
open Go.Ev
attribute [local irreducible] GC RJ KC KM cAt cOn runC stp brC bodyC cvC rsC rdC regC loopC endC skpC extC retC evJ RS.at RS.put RS.okS RS.okR RS.all RS.fst endV endVM grpA grpB grpR grpD grpO RunOps RunD bodyF resF argsFrom cArg
noncomputable section
namespace Go.Ev
open Go.Proofs
set_option maxRecDepth 100000
variable {Bn:Nat}
def w_1:List Nat:=[77,79,86,69,40,65,44,78,41,32,84,83,32,32,83,32,94,67,40,65,41,61,36,71,40,94,67,40,65,41,41,45,78,44,94,67,40,57,41,61,36,71,40,94,67,40,57,41,41,43,78,32,84,67,32,32,81]
def tL_1:List (denL pSI×denL pTk):=[((w_1,J0,()),((J1,[77,79,86,69],J0),J4,true,())),((w_1,J4,()),((J4,[40],J4),J5,true,())),((w_1,J5,()),((J1,[65],J5),J6,true,())),((w_1,J6,()),((J4,[44],J6),J7,true,())),((w_1,J7,()),((J1,[78],J7),J8,true,())),((w_1,J8,()),((J4,[41],J8),J9,true,())),((w_1,J9,()),((J5,[32],J9),J10,true,())),((w_1,J10,()),((J1,[84,83],J10),J12,true,())),((w_1,J12,()),((J5,[32],J12),J13,true,())),((w_1,J13,()),((J5,[32],J13),J14,true,())),((w_1,J14,()),((J1,[83],J14),J15,true,())),((w_1,J15,()),((J5,[32],J15),J16,true,())),((w_1,J16,()),((J4,[94],J16),J17,true,())),((w_1,J17,()),((J1,[67],J17),J18,true,())),((w_1,J18,()),((J4,[40],J18),J19,true,())),((w_1,J19,()),((J1,[65],J19),J20,true,())),((w_1,J20,()),((J4,[41],J20),J21,true,())),((w_1,J21,()),((J4,[61],J21),J22,true,())),((w_1,J22,()),((J4,[36],J22),J23,true,())),((w_1,J23,()),((J1,[71],J23),J24,true,())),((w_1,J24,()),((J4,[40],J24),J25,true,())),((w_1,J25,()),((J4,[94],J25),J26,true,())),((w_1,J26,()),((J1,[67],J26),J27,true,())),((w_1,J27,()),((J4,[40],J27),J28,true,())),((w_1,J28,()),((J1,[65],J28),J29,true,())),((w_1,J29,()),((J4,[41],J29),J30,true,())),((w_1,J30,()),((J4,[41],J30),J31,true,())),((w_1,J31,()),((J4,[45],J31),J32,true,())),((w_1,J32,()),((J1,[78],J32),J33,true,())),((w_1,J33,()),((J4,[44],J33),J34,true,())),((w_1,J34,()),((J4,[94],J34),J35,true,())),((w_1,J35,()),((J1,[67],J35),J36,true,())),((w_1,J36,()),((J4,[40],J36),J37,true,())),((w_1,J37,()),((J2,[57],J37),J38,true,())),((w_1,J38,()),((J4,[41],J38),J39,true,())),((w_1,J39,()),((J4,[61],J39),J40,true,())),((w_1,J40,()),((J4,[36],J40),J41,true,())),((w_1,J41,()),((J1,[71],J41),J42,true,())),((w_1,J42,()),((J4,[40],J42),J43,true,())),((w_1,J43,()),((J4,[94],J43),J44,true,())),((w_1,J44,()),((J1,[67],J44),J45,true,())),((w_1,J45,()),((J4,[40],J45),J46,true,())),((w_1,J46,()),((J2,[57],J46),J47,true,())),((w_1,J47,()),((J4,[41],J47),J48,true,())),((w_1,J48,()),((J4,[41],J48),J49,true,())),((w_1,J49,()),((J4,[43],J49),J50,true,())),((w_1,J50,()),((J1,[78],J50),J51,true,())),((w_1,J51,()),((J5,[32],J51),J52,true,())),((w_1,J52,()),((J1,[84,67],J52),J54,true,())),((w_1,J54,()),((J5,[32],J54),J55,true,())),((w_1,J55,()),((J5,[32],J55),J56,true,())),((w_1,J56,()),((J1,[81],J56),J57,true,())),((w_1,J57,()),((J6,[],J57),J57,true,()))]
theorem rL_1:runAll Bn [] EX 60 580 pSI pTk tL_1=true:=kr
def tP_1:List (denL pStr×denL pLn):=[((w_1,()),(([77,79,86,69],[[65],[78]],[(J15,[],[]),(J1,[],[(J1,[],[(J3,[67],[(J2,[65],[])])],[(J7,[45],[(J9,[71],[(J3,[67],[(J2,[65],[])])]),(J2,[78],[])])],[]),(J1,[],[(J3,[67],[(J1,[57],[])])],[(J7,[43],[(J9,[71],[(J3,[67],[(J1,[57],[])])]),(J2,[78],[])])],[])]),(J16,[],[]),(J8,[],[])]),J0,()))]
theorem rP_1 [BOk Bn]:runAll Bn [tabC 580 pSI pTk tL_1] EX 60 265 pStr pLn tP_1=true:=kr
def w_7:List Nat:=[32,87,32,84,44,33,32,81]
def tL_7:List (denL pSI×denL pTk):=[((w_7,J0,()),((J5,[32],J0),J1,true,())),((w_7,J1,()),((J1,[87],J1),J2,true,())),((w_7,J2,()),((J5,[32],J2),J3,true,())),((w_7,J3,()),((J1,[84],J3),J4,true,())),((w_7,J4,()),((J4,[44],J4),J5,true,())),((w_7,J5,()),((J4,[33],J5),J6,true,())),((w_7,J6,()),((J5,[32],J6),J7,true,())),((w_7,J7,()),((J1,[81],J7),J8,true,())),((w_7,J8,()),((J6,[],J8),J8,true,()))]
theorem rL_7:runAll Bn [] EX 60 580 pSI pTk tL_7=true:=kr
def tP_7:List (denL pStr×denL pLn):=[((w_7,()),(([],[],[(J4,[],[(J1,[],[],[(J2,[84],[])],[]),(J2,[],[],[],[])]),(J8,[],[])]),J0,()))]
theorem rP_7 [BOk Bn]:runAll Bn [tabC 580 pSI pTk tL_7] EX 60 265 pStr pLn tP_7=true:=kr
end Go.Ev
end
