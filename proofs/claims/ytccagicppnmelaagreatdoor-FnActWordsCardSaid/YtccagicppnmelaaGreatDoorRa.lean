/- A part of the proof that FnActWords returns true for every input and leaves its argument as it was; no condition. -/
import Derived.Test.YtccagicppnmelaaGreatDoorQr
import Derived.Test.YtccagicppnmelaaGreatDoorQs
import Derived.Test.YtccagicppnmelaaGreatDoorQt
import Derived.Test.YtccagicppnmelaaGreatDoorQu
import Derived.Test.YtccagicppnmelaaGreatDoorQv
import Derived.Test.YtccagicppnmelaaGreatDoorQw
import Derived.Test.YtccagicppnmelaaGreatDoorQx
import Derived.Test.YtccagicppnmelaaGreatDoorQy
import Derived.Test.YtccagicppnmelaaGreatDoorQz
import Derived.Test.YtccagicppnmelaaGreatDoorQa
set_option linter.all false
open List renaming length→U
open Int renaming ofNat→J,toNat→Jn
open Go.Ev
attribute [local irreducible] GC RJ KC KM cAt cOn runC stp brC bodyC cvC rsC rdC regC loopC endC skpC extC retC evJ RS.at RS.put RS.okS RS.okR RS.all RS.fst endV endVM grpA grpB grpR grpD grpO RunOps RunD bodyF resF argsFrom cArg
noncomputable section
namespace Go.Ev
open Go.Proofs
set_option maxRecDepth 100000
variable {Bn:Nat} [BOk Bn]
def RowsOk (Bn f:Nat) (ps rs:List Par) (T:List (denL ps×denL rs)):Prop:=∀q∈T,KOk PP (GG Bn) f ps rs q.1 q.2
theorem rows_run {L:List Con} (hL:Okl Bn L){n f:Nat}{ps rs:List Par}{T:List (denL ps×denL rs)} (h:runAll Bn L EX n f ps rs T=true):RowsOk Bn f ps rs T:=fun q hq=>run_kok hL EX_ok (runAll_mem h hq)
theorem rows_con {f:Nat}{ps rs:List Par}{T:List (denL ps×denL rs)} (h:RowsOk Bn f ps rs T) (hw:wfR rs=true:=by kernel_rfl):OK Bn (tabC f ps rs T):=⟨hw,fun _ _ hl=>h _ (lookT_mem hl)⟩
theorem rows_app {f:Nat}{ps rs:List Par}{T1 T2:List (denL ps×denL rs)} (h1:RowsOk Bn f ps rs T1) (h2:RowsOk Bn f ps rs T2):RowsOk Bn f ps rs (T1++T2):=fun q hq=>Or.elim (List.mem_append.1 hq) (h1 q) (h2 q)
theorem q_0:RowsOk Bn 265 pStr pLn tP_0:=rows_run (okC (rows_con (rows_run ok0 rL_0)) ok0) rP_0
theorem q_1:RowsOk Bn 265 pStr pLn tP_1:=rows_run (okC (rows_con (rows_run ok0 rL_1)) ok0) rP_1
theorem q_2:RowsOk Bn 265 pStr pLn tP_2:=rows_run (okC (rows_con (rows_run ok0 rL_2)) ok0) rP_2
theorem q_3:RowsOk Bn 265 pStr pLn tP_3:=rows_run (okC (rows_con (rows_run ok0 rL_3)) ok0) rP_3
theorem q_4:RowsOk Bn 265 pStr pLn tP_4:=rows_run (okC (rows_con (rows_run ok0 rL_4)) ok0) rP_4
theorem q_5:RowsOk Bn 265 pStr pLn tP_5:=rows_run (okC (rows_con (rows_run ok0 rL_5)) ok0) rP_5
theorem q_6:RowsOk Bn 265 pStr pLn tP_6:=rows_run (okC (rows_con (rows_run ok0 rL_6)) ok0) rP_6
theorem q_7:RowsOk Bn 265 pStr pLn tP_7:=rows_run (okC (rows_con (rows_run ok0 rL_7)) ok0) rP_7
theorem q_8:RowsOk Bn 265 pStr pLn tP_8:=rows_run (okC (rows_con (rows_run ok0 rL_8)) ok0) rP_8
theorem q_9:RowsOk Bn 265 pStr pLn tP_9:=rows_run (okC (rows_con (rows_run ok0 rL_9)) ok0) rP_9
theorem q_10:RowsOk Bn 265 pStr pLn tP_10:=rows_run (okC (rows_con (rows_run ok0 rL_10)) ok0) rP_10
theorem q_11:RowsOk Bn 265 pStr pLn tP_11:=rows_run (okC (rows_con (rows_run ok0 rL_11)) ok0) rP_11
theorem q_12:RowsOk Bn 265 pStr pLn tP_12:=rows_run (okC (rows_con (rows_run ok0 rL_12)) ok0) rP_12
theorem q_13:RowsOk Bn 265 pStr pLn tP_13:=rows_run (okC (rows_con (rows_run ok0 rL_13)) ok0) rP_13
theorem q_14:RowsOk Bn 265 pStr pLn tP_14:=rows_run (okC (rows_con (rows_run ok0 rL_14)) ok0) rP_14
def tPl_:List (denL pStr×denL pLn):=tP_0++tP_1++tP_2++tP_3++tP_4++tP_5++tP_6++tP_7++tP_8++tP_9++tP_10++tP_11++tP_12++tP_13++tP_14
theorem q_all:RowsOk Bn 265 pStr pLn tPl_:=(rows_app (rows_app (rows_app (rows_app (rows_app (rows_app (rows_app (rows_app (rows_app (rows_app (rows_app (rows_app (rows_app (rows_app q_0 q_1) q_2) q_3) q_4) q_5) q_6) q_7) q_8) q_9) q_10) q_11) q_12) q_13) q_14)
def kLine:Con:=tabC 265 pStr pLn tPl_
theorem oLine:OK Bn kLine:=rows_con q_all
abbrev pRt:List Par:=[⟨false,.sl y195⟩]
abbrev pPr:List Par:=[⟨true,y42⟩]
def src_:den (.sl y195):=[([74,79,66],[[65,68,68,40,65,44,78,41,32,84,83,32,32,83,32,94,67,40,65,41,61,36,71,40,94,67,40,65,41,41,43,78,32,84,67,32,32,81],[77,79,86,69,40,65,44,78,41,32,84,83,32,32,83,32,94,67,40,65,41,61,36,71,40,94,67,40,65,41,41,45,78,44,94,67,40,57,41,61,36,71,40,94,67,40,57,41,41,43,78,32,84,67,32,32,81],[82,65,87,40,65,44,78,41,32,83,32,94,67,40,65,41,61,36,71,40,94,67,40,65,41,41,43,78,32,81],[72,69,76,68,40,65,44,78,41,32,76,32,43,94,67,40,65,41,32,83,32,94,67,40,65,41,61,36,71,40,94,67,40,65,41,41,43,78,32,76,32,45,94,67,40,65,41,32,81],[84,82,89,40,65,44,78,41,32,76,32,43,94,67,40,65,41,58,49,32,83,32,94,82,40,65,41,61,36,84,32,81],[66,79,84,72,40,65,44,78,41,32,76,32,43,94,67,40,65,41,32,72,32,49,32,76,32,43,94,67,40,78,41,32,83,32,94,66,40,65,41,61,78,32,76,32,32,81],[83,85,77,40,65,44,78,41,32,83,32,75,61,34,34,44,84,61,48,32,70,32,32,83,32,75,61,36,79,40,94,67,40,75,41,41,32,81,58,75,61,34,34,32,32,83,32,84,61,84,43,94,67,40,75,41],[32,87,32,84,44,33,32,81],[65,83,75,40,65,44,78,41,32,82,32,88,32,83,32,94,73,40,65,41,61,88,32,87,32,88,32,81],[83,80,73,78,40,65,44,78,41,32,70,32,73,61,49,58,49,58,51,32,84,83,32,32,83,32,94,67,40,65,41,61,36,71,40,94,67,40,65,41,41,43,78,32,84,67],[32,81],[82,79,76,76,40,65,44,78,41,32,84,83,32,32,83,32,94,67,40,65,41,61,55,32,84,82,79,32,32,87,32,36,68,40,94,67,40,65,41,41,32,81],[66,65,68,40,65,44,78,41,32,83,32,94,67,40,65,41,61,78,44,88,61,49,47,48,32,81],[78,69,83,84,40,65,44,78,41,32,84,83,32,32,83,32,94,67,40,65,41,61,78,32,84,83,32,32,83,32,94,67,40,78,41,61,65,32,84,67,32,32,75,32,94,82,32,84,67,32,32,81],[83,76,79,87,40,65,44,78,41,32,84,83,32,32,83,32,88,61,36,71,40,94,67,40,65,41,41,32,72,32,49,32,83,32,94,67,40,65,41,61,88,43,78,32,84,67,32,32,81]])]
def prg_:den y42:=([(J1,J0,J0,[]),(J33,J1,J0,[]),(J1,J0,J0,[]),(J11,J0,J0,[65]),(J15,J0,J0,[]),(J12,J1,J0,[67]),(J11,J0,J0,[65]),(J15,J0,J0,[]),(J12,J1,J0,[67]),(J2,J0,J0,[]),(J16,J0,J0,[]),(J11,J0,J0,[78]),(J15,J0,J0,[]),(J5,J0,J0,[43]),(J20,J0,J0,[]),(J21,J1,J0,[]),(J3,J0,J0,[]),(J1,J0,J0,[]),(J33,J2,J0,[]),(J1,J0,J0,[]),(J40,J0,J0,[]),(J1,J0,J0,[]),(J33,J1,J0,[]),(J1,J0,J0,[]),(J11,J0,J0,[65]),(J15,J0,J0,[]),(J12,J1,J0,[67]),(J11,J0,J0,[65]),(J15,J0,J0,[]),(J12,J1,J0,[67]),(J2,J0,J0,[]),(J16,J0,J0,[]),(J11,J0,J0,[78]),(J15,J0,J0,[]),(J5,J0,J0,[45]),(J20,J0,J0,[]),(J21,J1,J0,[]),(J3,J0,J0,[]),(J2,J0,J0,[57]),(J12,J1,J0,[67]),(J2,J0,J0,[57]),(J12,J1,J0,[67]),(J2,J0,J0,[]),(J16,J0,J0,[]),(J11,J0,J0,[78]),(J15,J0,J0,[]),(J5,J0,J0,[43]),(J20,J0,J0,[]),(J21,J1,J0,[]),(J3,J0,J0,[]),(J1,J0,J0,[]),(J33,J2,J0,[]),(J1,J0,J0,[]),(J40,J0,J0,[]),(J1,J0,J0,[]),(J11,J0,J0,[65]),(J15,J0,J0,[]),(J12,J1,J0,[67]),(J11,J0,J0,[65]),(J15,J0,J0,[]),(J12,J1,J0,[67]),(J2,J0,J0,[]),(J16,J0,J0,[]),(J11,J0,J0,[78]),(J15,J0,J0,[]),(J5,J0,J0,[43]),(J20,J0,J0,[]),(J21,J1,J0,[]),(J3,J0,J0,[]),(J1,J0,J0,[]),(J40,J0,J0,[]),(J1,J0,J0,[]),(J11,J0,J0,[65]),(J15,J0,J0,[]),(J12,J1,J0,[67]),(J29,J1,J0,[]),(J1,J0,J0,[]),(J11,J0,J0,[65]),(J15,J0,J0,[]),(J12,J1,J0,[67]),(J11,J0,J0,[65]),(J15,J0,J0,[]),(J12,J1,J0,[67]),(J2,J0,J0,[]),(J16,J0,J0,[]),(J11,J0,J0,[78]),(J15,J0,J0,[]),(J5,J0,J0,[43]),(J20,J0,J0,[]),(J21,J1,J0,[]),(J3,J0,J0,[]),(J1,J0,J0,[]),(J11,J0,J0,[65]),(J15,J0,J0,[]),(J12,J1,J0,[67]),(J29,J2,J0,[]),(J1,J0,J0,[]),(J40,J0,J0,[]),(J1,J0,J0,[]),(J11,J0,J0,[65]),(J15,J0,J0,[]),(J12,J1,J0,[67]),(J2,J0,J0,[49]),(J29,J1,J1,[]),(J1,J0,J0,[]),(J11,J0,J0,[65]),(J15,J0,J0,[]),(J12,J1,J0,[82]),(J8,J0,J0,[84]),(J20,J0,J0,[]),(J21,J1,J0,[]),(J3,J0,J0,[]),(J1,J0,J0,[]),(J40,J0,J0,[]),(J1,J0,J0,[]),(J11,J0,J0,[65]),(J15,J0,J0,[]),(J12,J1,J0,[67]),(J29,J1,J0,[]),(J1,J0,J0,[]),(J2,J0,J0,[49]),(J31,J0,J0,[]),(J1,J0,J0,[]),(J11,J0,J0,[78]),(J15,J0,J0,[]),(J12,J1,J0,[67]),(J29,J1,J0,[]),(J1,J0,J0,[]),(J11,J0,J0,[65]),(J15,J0,J0,[]),(J12,J1,J0,[66]),(J11,J0,J0,[78]),(J15,J0,J0,[]),(J20,J0,J0,[]),(J21,J1,J0,[]),(J3,J0,J0,[]),(J1,J0,J0,[]),(J30,J0,J0,[]),(J1,J0,J0,[]),(J40,J0,J0,[]),(J1,J0,J0,[]),(J11,J0,J0,[75]),(J2,J0,J0,[]),(J20,J0,J0,[]),(J21,J1,J0,[]),(J3,J0,J0,[]),(J11,J0,J0,[84]),(J2,J0,J0,[48]),(J20,J0,J0,[]),(J21,J1,J0,[]),(J3,J0,J0,[]),(J1,J0,J0,[]),(J45,J 185,J0,[]),(J1,J0,J0,[]),(J48,J 156,J0,[]),(J9,J 153,J0,[]),(J1,J0,J0,[]),(J11,J0,J0,[75]),(J11,J0,J0,[75]),(J15,J0,J0,[]),(J12,J1,J0,[67]),(J18,J0,J0,[]),(J20,J0,J0,[]),(J21,J1,J0,[]),(J3,J0,J0,[]),(J1,J0,J0,[]),(J11,J0,J0,[75]),(J15,J0,J0,[]),(J2,J0,J0,[]),(J5,J0,J0,[61]),(J10,J 172,J0,[]),(J52,J0,J0,[]),(J1,J0,J0,[]),(J11,J0,J0,[84]),(J11,J0,J0,[84]),(J15,J0,J0,[]),(J11,J0,J0,[75]),(J15,J0,J0,[]),(J12,J1,J0,[67]),(J15,J0,J0,[]),(J5,J0,J0,[43]),(J20,J0,J0,[]),(J21,J1,J0,[]),(J3,J0,J0,[]),(J51,J0,J0,[]),(J1,J0,J0,[]),(J11,J0,J0,[84]),(J15,J0,J0,[]),(J26,J0,J0,[]),(J2,J0,J0,[10]),(J26,J0,J0,[]),(J1,J0,J0,[]),(J40,J0,J0,[]),(J1,J0,J0,[]),(J11,J0,J0,[88]),(J27,J0,J0,[]),(J28,J0,J0,[]),(J20,J0,J0,[]),(J21,J1,J0,[]),(J3,J0,J0,[]),(J1,J0,J0,[]),(J11,J0,J0,[65]),(J15,J0,J0,[]),(J12,J1,J0,[73]),(J11,J0,J0,[88]),(J15,J0,J0,[]),(J20,J0,J0,[]),(J21,J1,J0,[]),(J3,J0,J0,[]),(J1,J0,J0,[]),(J11,J0,J0,[88]),(J15,J0,J0,[]),(J26,J0,J0,[]),(J1,J0,J0,[]),(J40,J0,J0,[]),(J1,J0,J0,[]),(J45,J 248,J0,[73]),(J2,J0,J0,[49]),(J2,J0,J0,[49]),(J2,J0,J0,[51]),(J46,J3,J0,[]),(J47,J 226,J0,[]),(J1,J0,J0,[]),(J48,J 228,J0,[]),(J49,J0,J0,[]),(J9,J 221,J0,[]),(J50,J0,J0,[]),(J9,J 248,J0,[]),(J1,J0,J0,[]),(J33,J1,J0,[]),(J1,J0,J0,[]),(J11,J0,J0,[65]),(J15,J0,J0,[]),(J12,J1,J0,[67]),(J11,J0,J0,[65]),(J15,J0,J0,[]),(J12,J1,J0,[67]),(J2,J0,J0,[]),(J16,J0,J0,[]),(J11,J0,J0,[78]),(J15,J0,J0,[]),(J5,J0,J0,[43]),(J20,J0,J0,[]),(J21,J1,J0,[]),(J3,J0,J0,[]),(J1,J0,J0,[]),(J33,J2,J0,[]),(J51,J0,J0,[]),(J1,J0,J0,[]),(J40,J0,J0,[]),(J1,J0,J0,[]),(J33,J1,J0,[]),(J1,J0,J0,[]),(J11,J0,J0,[65]),(J15,J0,J0,[]),(J12,J1,J0,[67]),(J2,J0,J0,[55]),(J20,J0,J0,[]),(J21,J1,J0,[]),(J3,J0,J0,[]),(J1,J0,J0,[]),(J33,J3,J0,[]),(J1,J0,J0,[]),(J11,J0,J0,[65]),(J15,J0,J0,[]),(J12,J1,J0,[67]),(J17,J0,J0,[]),(J26,J0,J0,[]),(J1,J0,J0,[]),(J40,J0,J0,[]),(J1,J0,J0,[]),(J11,J0,J0,[65]),(J15,J0,J0,[]),(J12,J1,J0,[67]),(J11,J0,J0,[78]),(J15,J0,J0,[]),(J20,J0,J0,[]),(J21,J1,J0,[]),(J3,J0,J0,[]),(J11,J0,J0,[88]),(J2,J0,J0,[49]),(J2,J0,J0,[48]),(J5,J0,J0,[47]),(J20,J0,J0,[]),(J21,J1,J0,[]),(J3,J0,J0,[]),(J1,J0,J0,[]),(J40,J0,J0,[]),(J1,J0,J0,[]),(J33,J1,J0,[]),(J1,J0,J0,[]),(J11,J0,J0,[65]),(J15,J0,J0,[]),(J12,J1,J0,[67]),(J11,J0,J0,[78]),(J15,J0,J0,[]),(J20,J0,J0,[]),(J21,J1,J0,[]),(J3,J0,J0,[]),(J1,J0,J0,[]),(J33,J1,J0,[]),(J1,J0,J0,[]),(J11,J0,J0,[78]),(J15,J0,J0,[]),(J12,J1,J0,[67]),(J11,J0,J0,[65]),(J15,J0,J0,[]),(J20,J0,J0,[]),(J21,J1,J0,[]),(J3,J0,J0,[]),(J1,J0,J0,[]),(J33,J2,J0,[]),(J1,J0,J0,[]),(J12,J0,J0,[82]),(J22,J0,J0,[]),(J1,J0,J0,[]),(J33,J2,J0,[]),(J1,J0,J0,[]),(J40,J0,J0,[]),(J1,J0,J0,[]),(J33,J1,J0,[]),(J1,J0,J0,[]),(J11,J0,J0,[88]),(J11,J0,J0,[65]),(J15,J0,J0,[]),(J12,J1,J0,[67]),(J2,J0,J0,[]),(J16,J0,J0,[]),(J20,J0,J0,[]),(J21,J1,J0,[]),(J3,J0,J0,[]),(J1,J0,J0,[]),(J2,J0,J0,[49]),(J31,J0,J0,[]),(J1,J0,J0,[]),(J11,J0,J0,[65]),(J15,J0,J0,[]),(J12,J1,J0,[67]),(J11,J0,J0,[88]),(J15,J0,J0,[]),(J11,J0,J0,[78]),(J15,J0,J0,[]),(J5,J0,J0,[43]),(J20,J0,J0,[]),(J21,J1,J0,[]),(J3,J0,J0,[]),(J1,J0,J0,[]),(J33,J2,J0,[]),(J1,J0,J0,[]),(J40,J0,J0,[]),(J40,J0,J0,[])],[([74,79,66],[],J0,[[65],[78]]),([74,79,66],[65,68,68],J0,[[65],[78]]),([74,79,66],[77,79,86,69],J21,[[65],[78]]),([74,79,66],[82,65,87],J54,[[65],[78]]),([74,79,66],[72,69,76,68],J71,[[65],[78]]),([74,79,66],[84,82,89],J98,[[65],[78]]),([74,79,66],[66,79,84,72],J 114,[[65],[78]]),([74,79,66],[83,85,77],J 140,[[65],[78]]),([74,79,66],[65,83,75],J 193,[[65],[78]]),([74,79,66],[83,80,73,78],J 215,[[65],[78]]),([74,79,66],[82,79,76,76],J 250,[[65],[78]]),([74,79,66],[66,65,68],J 270,[[65],[78]]),([74,79,66],[78,69,83,84],J 288,[[65],[78]]),([74,79,66],[83,76,79,87],J 319,[[65],[78]])])
theorem r119:runAll Bn [kLine] EX 60 119 pRt pPr [((src_,()),(prg_,()))]=true:=kr
theorem r118:runAll Bn [kLine] EX 60 118 pRt pInt [((src_,()),(J0,()))]=true:=kr
end Go.Ev
end
noncomputable section
namespace Go.Ev
open Go.Proofs
set_option maxRecDepth 100000
set_option maxHeartbeats 2000000
variable {Bn:Nat} [BOk Bn]
def c252 (a0:Int) (a1:Int) (a2:Int) (a3:Int):denL [⟨true,y346⟩]:=((true,a0,a1,a2,a3),())
def k252:Con:=⟨252,[⟨false,(.int .i64)⟩,⟨false,(.int .i64)⟩,⟨false,(.int .i64)⟩,⟨false,(.int .i64)⟩],[⟨true,y346⟩],fun x=>some (c252 x.1 x.2.1 x.2.2.1 x.2.2.2.1)⟩
theorem t252 (a0:Int) (a1:Int) (a2:Int) (a3:Int):KC Bn k252 (a0,a1,a2,a3,()) (c252 a0 a1 a2 a3):=by
 refine xI (uL [] ok0) Tryz.func252 fun hbd hB=>?_
 exact xe 6
theorem o252:OK Bn k252:=xO fun x=>t252 _ _ _ _
def c362 (a0:den y242):denL [⟨true,y346⟩,⟨true,y346⟩]:=(cd (iEq a0.1 (J 2)) ((c252 (J 0) (J 0) (J 0) (J 0)).1,(c252 (J 1) (J 0) (J 0) (J 0)).1,()) (cd (iEq a0.1 (J 8)) ((c252 (J 0) (J 0) (J 0) (J 0)).1,(c252 (J 1) (J 0) (J 0) (J 0)).1,()) (cd (iEq a0.1 (J 28)) ((c252 (J 0) (J 0) (J 0) (J 0)).1,(c252 (J 1) (J 0) (J 0) (J 0)).1,()) (cd (iEq a0.1 (J 3)) ((c252 (J 1) (J 0) (J 0) (J 0)).1,(c252 (Int.negSucc 0) (J 0) (J 0) (J 0)).1,()) (cd (iEq a0.1 (J 10)) ((c252 (J 1) (J 0) (J 0) (J 0)).1,(c252 (Int.negSucc 0) (J 0) (J 0) (J 0)).1,()) (cd (iEq a0.1 (J 25)) ((c252 (J 1) (J 0) (J 0) (J 0)).1,(c252 (Int.negSucc 0) (J 0) (J 0) (J 0)).1,()) (cd (iEq a0.1 (J 26)) ((c252 (J 1) (J 0) (J 0) (J 0)).1,(c252 (Int.negSucc 0) (J 0) (J 0) (J 0)).1,()) (cd (iEq a0.1 (J 31)) ((c252 (J 1) (J 0) (J 0) (J 0)).1,(c252 (Int.negSucc 0) (J 0) (J 0) (J 0)).1,()) (cd (iEq a0.1 (J 37)) ((c252 (J 1) (J 0) (J 0) (J 0)).1,(c252 (Int.negSucc 0) (J 0) (J 0) (J 0)).1,()) (cd (iEq a0.1 (J 39)) ((c252 (J 1) (J 0) (J 0) (J 0)).1,(c252 (Int.negSucc 0) (J 0) (J 0) (J 0)).1,()) (cd (iEq a0.1 (J 41)) ((c252 (J 1) (J 0) (J 0) (J 0)).1,(c252 (Int.negSucc 0) (J 0) (J 0) (J 0)).1,()) (cd (iEq a0.1 (J 42)) ((c252 (J 1) (J 0) (J 0) (J 0)).1,(c252 (Int.negSucc 0) (J 0) (J 0) (J 0)).1,()) (cd (iEq a0.1 (J 4)) ((c252 (J 1) (J 0) (J 0) (J 0)).1,(c252 (J 0) (J 0) (J 0) (J 0)).1,()) (cd (iEq a0.1 (J 6)) ((c252 (J 1) (J 0) (J 0) (J 0)).1,(c252 (J 0) (J 0) (J 0) (J 0)).1,()) (cd (iEq a0.1 (J 5)) ((c252 (J 2) (J 0) (J 0) (J 0)).1,(c252 (Int.negSucc 0) (J 0) (J 0) (J 0)).1,()) (cd (iEq a0.1 (J 7)) ((c252 a0.2.1 (J 0) (J 0) (J 0)).1,(c252 (wr .i64 ((J 1) - a0.2.1)) (J 0) (J 0) (J 0)).1,()) (cd (iEq a0.1 (J 11)) ((c252 a0.2.1 (J 0) (J 0) (J 0)).1,(c252 (wr .i64 ((J 0) - a0.2.1)) (J 1) (J 0) (J 0)).1,()) (cd (iEq a0.1 (J 12)) ((c252 a0.2.1 (J 0) (J 0) (J 0)).1,(c252 (wr .i64 ((J 0) - a0.2.1)) (J 1) (J 0) (J 0)).1,()) (cd (iEq a0.1 (J 13)) ((c252 a0.2.1 (J 0) (J 0) (J 0)).1,(c252 (wr .i64 ((J 0) - a0.2.1)) (J 1) (J 0) (J 0)).1,()) (cd (iEq a0.1 (J 14)) ((c252 (wr .i64 (a0.2.1+(J 1))) (J 0) (J 0) (J 0)).1,(c252 (wr .i64 ((wr .i64 ((J 0) - a0.2.1)) - (J 1))) (J 1) (J 0) (J 0)).1,()) (cd (iEq a0.1 (J 15)) ((c252 (J 0) (J 1) (J 0) (J 0)).1,(c252 (J 1) (Int.negSucc 0) (J 0) (J 0)).1,()) (cd (iEq a0.1 (J 17)) ((c252 (J 0) (J 1) (J 0) (J 0)).1,(c252 (J 1) (Int.negSucc 0) (J 0) (J 0)).1,()) (cd (iEq a0.1 (J 19)) ((c252 (J 0) (J 1) (J 0) (J 0)).1,(c252 (J 1) (Int.negSucc 0) (J 0) (J 0)).1,()) (cd (iEq a0.1 (J 16)) ((c252 (J 1) (J 1) (J 0) (J 0)).1,(c252 (J 0) (Int.negSucc 0) (J 0) (J 0)).1,()) (cd (iEq a0.1 (J 18)) ((c252 a0.2.1 (J 1) (J 0) (J 0)).1,(c252 (wr .i64 ((J 1) - a0.2.1)) (Int.negSucc 0) (J 0) (J 0)).1,()) (cd (iEq a0.1 (J 20)) ((c252 (J 1) (wr .i64 (a0.2.1+(J 1))) (J 0) (J 0)).1,(c252 (J 0) (J 0) (J 0) (J 0)).1,()) (cd (iEq a0.1 (J 21)) ((c252 (J 0) a0.2.1 (J 0) (J 0)).1,(c252 (J 0) (wr .i64 ((J 0) - a0.2.1)) (J 0) (J 0)).1,()) (cd (iEq a0.1 (J 22)) ((c252 (J 0) (J 1) (J 0) (J 0)).1,(c252 (J 0) (Int.negSucc 0) (J 0) (J 0)).1,()) (cd (iEq a0.1 (J 29)) ((c252 a0.2.2.1 (J 1) (J 0) (J 0)).1,(c252 (wr .i64 ((J 0) - a0.2.2.1)) (Int.negSucc 0) (J 0) (J 0)).1,()) (cd (iEq a0.1 (J 34)) ((c252 (J 1) (J 0) (J 0) (J 0)).1,(c252 (Int.negSucc 0) (J 0) (J 1) (J 0)).1,()) (cd (iEq a0.1 (J 35)) ((c252 (J 0) (J 0) (J 0) (J 0)).1,(c252 (J 0) (J 0) (J 1) (J 0)).1,()) (cd (iEq a0.1 (J 36)) ((c252 (J 0) (J 0) a0.2.1 (J 0)).1,(c252 a0.2.2.1 (J 0) (wr .i64 ((J 0) - a0.2.1)) (J 0)).1,()) (cd (iEq a0.1 (J 45)) ((c252 (J 0) (J 0) (J 0) (J 0)).1,(c252 (J 0) (J 0) (J 0) (J 1)).1,()) (cd (iEq a0.1 (J 46)) ((c252 a0.2.1 (J 0) (J 0) (J 1)).1,(c252 (wr .i64 ((J 0) - a0.2.1)) (J 0) (J 0) (J 0)).1,()) (cd (iEq a0.1 (J 47)) ((c252 (J 0) (J 0) (J 0) (J 1)).1,(c252 (J 0) (J 0) (J 0) (J 0)).1,()) (cd (iEq a0.1 (J 48)) ((c252 (J 0) (J 0) (J 0) (J 1)).1,(c252 (J 0) (J 0) (J 0) (J 0)).1,()) (cd (iEq a0.1 (J 49)) ((c252 (J 0) (J 0) (J 0) (J 1)).1,(c252 (J 0) (J 0) (J 0) (J 0)).1,()) (cd (iEq a0.1 (J 51)) ((c252 (J 0) (J 0) (J 0) (J 1)).1,(c252 (J 0) (J 0) (J 0) (J 0)).1,()) (cd (iEq a0.1 (J 52)) ((c252 (J 0) (J 0) (J 0) (J 1)).1,(c252 (J 0) (J 0) (J 0) (J 0)).1,()) (cd (iEq a0.1 (J 50)) ((c252 (J 0) (J 0) (J 0) (J 1)).1,(c252 (J 0) (J 0) (J 0) (Int.negSucc 0)).1,()) ((c252 (J 0) (J 0) (J 0) (J 0)).1,(c252 (J 0) (J 0) (J 0) (J 0)).1,())))))))))))))))))))))))))))))))))))))))))
def k362:Con:=⟨362,[⟨true,y242⟩],[⟨true,y346⟩,⟨true,y346⟩],fun x=>some (c362 x.1)⟩
theorem t362 (a0:den y242):KC Bn k362 (a0,()) (c362 a0):=by
 refine xI (uL [k252] (okC o252 ok0)) Tryz.func362 fun hbd hB=>?_
 refine xc 12 (fun h1=>?_) fun h1=>?_
 exact xe 7
 refine xc 3 (fun h2=>?_) fun h2=>?_
 exact xe 7
 refine xc 2 (fun h3=>?_) fun h3=>?_
 exact xe 5
 refine xc 4 (fun h4=>?_) fun h4=>?_
 exact xe 7
 refine xc 3 (fun h5=>?_) fun h5=>?_
 exact xe 7
 refine xc 3 (fun h6=>?_) fun h6=>?_
 exact xe 7
 refine xc 3 (fun h7=>?_) fun h7=>?_
 exact xe 7
 refine xc 3 (fun h8=>?_) fun h8=>?_
 exact xe 7
 refine xc 3 (fun h9=>?_) fun h9=>?_
 exact xe 7
 refine xc 3 (fun h10=>?_) fun h10=>?_
 exact xe 7
 refine xc 3 (fun h11=>?_) fun h11=>?_
 exact xe 7
 refine xc 2 (fun h12=>?_) fun h12=>?_
 exact xe 5
 refine xc 4 (fun h13=>?_) fun h13=>?_
 exact xe 7
 refine xc 2 (fun h14=>?_) fun h14=>?_
 exact xe 5
 refine xc 3 (fun h15=>?_) fun h15=>?_
 exact xe 5
 refine xc 3 (fun h16=>?_) fun h16=>?_
 refine xv 1 ?_
 exact xe 3
 refine xc 4 (fun h17=>?_) fun h17=>?_
 refine xv 3 ?_
 exact xe 3
 refine xc 3 (fun h18=>?_) fun h18=>?_
 refine xv 3 ?_
 exact xe 3
 refine xc 2 (fun h19=>?_) fun h19=>?_
 refine xv 1 ?_
 exact xe 3
 refine xc 3 (fun h20=>?_) fun h20=>?_
 refine xv 1 ?_
 exact xe 3
 refine xc 4 (fun h21=>?_) fun h21=>?_
 exact xe 7
 refine xc 3 (fun h22=>?_) fun h22=>?_
 exact xe 7
 refine xc 2 (fun h23=>?_) fun h23=>?_
 exact xe 5
 refine xc 3 (fun h24=>?_) fun h24=>?_
 exact xe 5
 refine xc 3 (fun h25=>?_) fun h25=>?_
 refine xv 1 ?_
 exact xe 3
 refine xc 3 (fun h26=>?_) fun h26=>?_
 exact xe 5
 refine xc 3 (fun h27=>?_) fun h27=>?_
 refine xv 1 ?_
 exact xe 3
 refine xc 3 (fun h28=>?_) fun h28=>?_
 exact xe 5
 refine xc 3 (fun h29=>?_) fun h29=>?_
 refine xv 1 ?_
 exact xe 3
 refine xc 3 (fun h30=>?_) fun h30=>?_
 exact xe 5
 refine xc 3 (fun h31=>?_) fun h31=>?_
 exact xe 5
 refine xc 3 (fun h32=>?_) fun h32=>?_
 refine xv 1 ?_
 exact xe 3
 refine xc 3 (fun h33=>?_) fun h33=>?_
 exact xe 5
 refine xc 3 (fun h34=>?_) fun h34=>?_
 refine xv 1 ?_
 exact xe 3
 refine xc 4 (fun h35=>?_) fun h35=>?_
 exact xe 7
 refine xc 3 (fun h36=>?_) fun h36=>?_
 exact xe 7
 refine xc 3 (fun h37=>?_) fun h37=>?_
 exact xe 7
 refine xc 3 (fun h38=>?_) fun h38=>?_
 exact xe 7
 refine xc 2 (fun h39=>?_) fun h39=>?_
 exact xe 5
 refine xc 3 (fun h40=>?_) fun h40=>?_
 exact xe 5
 exact xe 5
theorem o362:OK Bn k362:=xO fun x=>t362 _
def c363 (a0:den y346) (a1:den y346):denL [⟨false,.bool⟩]:=((cd (cd (cd (iLe a1.2.1 a0.2.1) (iLe a1.2.2.1 a0.2.2.1) false) (iLe a1.2.2.2.1 a0.2.2.2.1) false) (iLe a1.2.2.2.2 a0.2.2.2.2) false),())
def k363:Con:=⟨363,[⟨true,y346⟩,⟨true,y346⟩],[⟨false,.bool⟩],fun x=>some (c363 x.1 x.2.1)⟩
theorem t363 (a0:den y346) (a1:den y346):KC Bn k363 (a0,a1,()) (c363 a0 a1):=by
 refine xI (uL [] ok0) Tryz.func363 fun hbd hB=>?_
 exact xe 6
theorem o363:OK Bn k363:=xO fun x=>t363 _ _
def c361_L1 (a0:den (.sl (.int .i64))) (a1:Int):(Bool×Nat)→Out (Bool×Nat) (denL [⟨false,.bool⟩]):=fun s1=>(cd (!iLe (J (U a0)) (J s1.2)) (cd (iEq (gt (.int .i64) a0 s1.2) a1) (.ret (true,())) (.go (s1.1,s1.2+1))) (.brk s1))
def c361 (a0:den (.sl (.int .i64))) (a1:Int):denL [⟨false,.bool⟩]:=(outE (dfR _) (fun s1=>(false,())) (fun r=>r) (scan (c361_L1 a0 a1) ((U a0) - 0+1) (false,0)))
def k361:Con:=⟨361,[⟨false,(.sl (.int .i64))⟩,⟨false,(.int .i64)⟩],[⟨false,.bool⟩],fun x=>some (c361 x.1 x.2.1)⟩
theorem t361 (a0:den (.sl (.int .i64))) (a1:Int):KC Bn k361 (a0,a1,()) (c361 a0 a1):=by
 refine xI (uL [] ok0) Tryz.func361 fun hbd hB=>?_
 have b1:U a0≤Bn:=hbd.1.1
 refine xlc 8 0 (fun(s1:Bool×Nat)=>[(path 0,(.isl (.int .i64) a0)),(path 1,(.i .i64 a1)),(path 4,(.b s1.1)),(path 5,(.i .i64 (J s1.2)))]) (fun _=>[]) (fun s1=>s1.2) (U a0) om fun s1 (i1:s1.2≤(U a0))=>?_
 refine xc 4 (fun h2=>?_) fun h2=>?_
 refine xr 4 ?_
 have g3:=lt_of_nle h2
 have x4:s1.2<U a0:=fo2
 refine yi 2 (.int .i64) a0 s1.2 x4 ?_
 refine yf ?_
 refine xc 1 (fun h5=>?_) fun h5=>?_
 refine xt 5 ?_
 exact xe 0
 exact xg 3 (gI om) (hN 3 s1.2 om)
 refine xb 1 ?_
 exact xe 5
theorem o361:OK Bn k361:=xO fun x=>t361 _ _
def c364 (a0:Int):denL [⟨false,.bool⟩]:=((c361 [(J 1),(J 45),(J 47),(J 48),(J 49),(J 50),(J 51),(J 52),(J 40),(J 43),(J 44),(J 27)] a0).1,())
def k364:Con:=⟨364,[⟨false,(.int .i64)⟩],[⟨false,.bool⟩],fun x=>some (c364 x.1)⟩
theorem t364 (a0:Int):KC Bn k364 (a0,()) (c364 a0):=by
 refine xI (uL [k361] (okC o361 ok0)) Tryz.func364 fun hbd hB=>?_
 exact xe 6
theorem o364:OK Bn k364:=xO fun x=>t364 _
def c253 (a0:den y242) (a1:den y346):denL [⟨false,.bool⟩]:=(cd (cd (!(c363 a1 ((c362 a0).1)).1) true (!iLe a1.2.1 (J 40))) (false,()) (cd (iEq a0.1 (J 27)) ((cd (cd (iEq a1.2.1 (J 0)) (iEq a1.2.2.1 (J 1)) false) (iEq a1.2.2.2.1 (J 0)) false),()) ((cd (!(c364 a0.1).1) true (cd (cd (iEq a1.2.1 (J 0)) (iEq a1.2.2.1 (J 0)) false) (iEq a1.2.2.2.1 (J 0)) false)),())))
def k253:Con:=⟨253,[⟨true,y242⟩,⟨true,y346⟩],[⟨false,.bool⟩],fun x=>some (c253 x.1 x.2.1)⟩
theorem t253 (a0:den y242) (a1:den y346):KC Bn k253 (a0,a1,()) (c253 a0 a1):=by
 refine xI (uL [k362,k363,k364] (okC o362 (okC o363 (okC o364 ok0)))) Tryz.func253 fun hbd hB=>?_
 refine xc 10 (fun h1=>?_) fun h1=>?_
 exact xe 4
 refine xc 5 (fun h2=>?_) fun h2=>?_
 exact xe 4
 exact xe 4
theorem o253:OK Bn k253:=xO fun x=>t253 _ _
def c250 (a0:Int):denL [⟨false,.bool⟩]:=((c361 [(J 9),(J 10),(J 43),(J 44),(J 45),(J 47),(J 48)] a0).1,())
def k250:Con:=⟨250,[⟨false,(.int .i64)⟩],[⟨false,.bool⟩],fun x=>some (c250 x.1)⟩
theorem t250 (a0:Int):KC Bn k250 (a0,()) (c250 a0):=by
 refine xI (uL [k361] (okC o361 ok0)) Tryz.func250 fun hbd hB=>?_
 exact xe 6
theorem o250:OK Bn k250:=xO fun x=>t250 _
def c365 (a0:Int):denL [⟨false,.bool⟩]:=((c361 [(J 9),(J 32),(J 38),(J 39),(J 40),(J 41),(J 51),(J 52),(J 53)] a0).1,())
def k365:Con:=⟨365,[⟨false,(.int .i64)⟩],[⟨false,.bool⟩],fun x=>some (c365 x.1)⟩
theorem t365 (a0:Int):KC Bn k365 (a0,()) (c365 a0):=by
 refine xI (uL [k361] (okC o361 ok0)) Tryz.func365 fun hbd hB=>?_
 exact xe 6
theorem o365:OK Bn k365:=xO fun x=>t365 _
def c254 (a0:den y242) (a1:Int):denL [⟨false,(.sl (.int .i64))⟩]:=(cd (!(c365 a0.1).1) (cd (c250 a0.1).1 ([(wr .i64 (a1+(J 1))),a0.2.1],()) ([(wr .i64 (a1+(J 1)))],())) (cd (c250 a0.1).1 ([a0.2.1],()) ([],())))
def k254:Con:=⟨254,[⟨true,y242⟩,⟨false,(.int .i64)⟩],[⟨false,(.sl (.int .i64))⟩],fun x=>some (c254 x.1 x.2.1)⟩
theorem t254 (a0:den y242) (a1:Int):KC Bn k254 (a0,a1,()) (c254 a0 a1):=by
 refine xI (uL [k250,k365] (okC o250 (okC o365 ok0))) Tryz.func254 fun hbd hB=>?_
 refine xc 10 (fun h1=>?_) fun h1=>?_
 refine xc 6 (fun h2=>?_) fun h2=>?_
 exact xe 5
 exact xe 4
 refine xc 5 (fun h2=>?_) fun h2=>?_
 exact xe 5
 exact xe 4
theorem o254:OK Bn k254:=xO fun x=>t254 _ _
theorem c254_l (a0:den y242) (a1:Int):U (c254 a0 a1).1≤2:=by
 unfold c254
 cases(!(c365 a0.1).1)<;>cases(c250 a0.1).1<;>first|exact Nr _|exact Nz _|exact Nat.le_succ 1
theorem c254_r (a0:den y242) (a1:Int) (h:(c250 a0.1).1=true→@LE.le Int _ 0 a0.2.1) (h0:@LE.le Int _ 0 a1) (h1:@LT.lt Int _ a1 4611686018427387904):∀k,k<U (c254 a0 a1).1→@LE.le Int _ 0 (gt (.int .i64) (c254 a0 a1).1 k):=by
 have hw:wr .i64 (a1+J 1)=a1+1:=wr_id (by show @LE.le Int _ _ (a1+1);omega) (by show @LE.le Int _ (a1+1) _;omega)
 unfold c254
 rw[hw]
 intro k
 cases(!(c365 a0.1).1)<;>cases hj:(c250 a0.1).1<;>intro hk
 ·exact absurd hk (Nn _)
 ·obtain rfl:k=0:=by have:k<1:=hk;omega
  exact h hj
 ·obtain rfl:k=0:=by have:k<1:=hk;omega
  show @LE.le Int _ 0 (a1+1);omega
 ·have:k<2:=hk
  rcases(show k=0∨k=1 by omega) with rfl|rfl
  ·show @LE.le Int _ 0 (a1+1);omega
  ·exact h hj
def c366 (a0:den y346) (a1:den y346):denL [⟨true,y346⟩]:=((c252 (wr .i64 (a0.2.1+a1.2.1)) (wr .i64 (a0.2.2.1+a1.2.2.1)) (wr .i64 (a0.2.2.2.1+a1.2.2.2.1)) (wr .i64 (a0.2.2.2.2+a1.2.2.2.2))).1,())
def k366:Con:=⟨366,[⟨true,y346⟩,⟨true,y346⟩],[⟨true,y346⟩],fun x=>some (c366 x.1 x.2.1)⟩
theorem t366 (a0:den y346) (a1:den y346):KC Bn k366 (a0,a1,()) (c366 a0 a1):=by
 refine xI (uL [k252] (okC o252 ok0)) Tryz.func366 fun hbd hB=>?_
 exact xe 6
theorem o366:OK Bn k366:=xO fun x=>t366 _ _
def c255 (a0:den y242) (a1:den y346) (a2:Int) (a3:Int):denL [⟨true,y346⟩]:=(cd (cd (cd (iEq a0.1 (J 45)) (iEq a3 a0.2.1) false) (!iEq a3 (wr .i64 (a2+(J 1)))) false) (a1,()) ((c366 a1 ((c362 a0).2.1)).1,()))
def k255:Con:=⟨255,[⟨true,y242⟩,⟨true,y346⟩,⟨false,(.int .i64)⟩,⟨false,(.int .i64)⟩],[⟨true,y346⟩],fun x=>some (c255 x.1 x.2.1 x.2.2.1 x.2.2.2.1)⟩
theorem t255 (a0:den y242) (a1:den y346) (a2:Int) (a3:Int):KC Bn k255 (a0,a1,a2,a3,()) (c255 a0 a1 a2 a3):=by
 refine xI (uL [k362,k366] (okC o362 (okC o366 ok0))) Tryz.func255 fun hbd hB=>?_
 refine xc 10 (fun h1=>?_) fun h1=>?_
 exact xe 4
 exact xe 4
theorem o255:OK Bn k255:=xO fun x=>t255 _ _ _ _
theorem c255_k (a0:den y242) (a1:den y346) (a2 a3:Int) (h:a1.1=true):(c255 a0 a1 a2 a3).1.1=true:=by
 unfold c255
 generalize (cd (cd (iEq a0.1 (J 45)) (iEq a3 a0.2.1) false) (!iEq a3 (wr .i64 (a2+(J 1)))) false)=b
 cases b
 ·rfl
 ·exact h
def c171_L3 (a0:den y42) (s1:Nat×List (den y346)×List (den (.int .i64))) (s2:List (den y346)×List (den (.int .i64))):(Nat×List (den y346)×List (den (.int .i64)))→Out (Nat×List (den y346)×List (den (.int .i64))) (denL [⟨false,(.sl y346)⟩,⟨false,.bool⟩]):=fun s3=>(cd (!iLe (J (U (c254 (gt y242 a0.1 (Jn (gt (.int .i64) s2.2 ((U s2.2) - 1)))) (gt (.int .i64) s2.2 ((U s2.2) - 1))).1)) (J s3.1)) (cd (cd (iLe (J (U a0.1)) (gt (.int .i64) ((c254 (gt y242 a0.1 (Jn (gt (.int .i64) s2.2 ((U s2.2) - 1)))) (gt (.int .i64) s2.2 ((U s2.2) - 1))).1) s3.1)) true (cd (gt y346 s3.2.1 (Jn (gt (.int .i64) ((c254 (gt y242 a0.1 (Jn (gt (.int .i64) s2.2 ((U s2.2) - 1)))) (gt (.int .i64) s2.2 ((U s2.2) - 1))).1) s3.1))).1 (!(cd (cd (gt y346 s3.2.1 (Jn (gt (.int .i64) ((c254 (gt y242 a0.1 (Jn (gt (.int .i64) s2.2 ((U s2.2) - 1)))) (gt (.int .i64) s2.2 ((U s2.2) - 1))).1) s3.1))).1 (c255 (gt y242 a0.1 (Jn (gt (.int .i64) s2.2 ((U s2.2) - 1)))) (gt y346 s3.2.1 (Jn (gt (.int .i64) s2.2 ((U s2.2) - 1)))) (gt (.int .i64) s2.2 ((U s2.2) - 1)) (gt (.int .i64) ((c254 (gt y242 a0.1 (Jn (gt (.int .i64) s2.2 ((U s2.2) - 1)))) (gt (.int .i64) s2.2 ((U s2.2) - 1))).1) s3.1)).1.1 (!(c255 (gt y242 a0.1 (Jn (gt (.int .i64) s2.2 ((U s2.2) - 1)))) (gt y346 s3.2.1 (Jn (gt (.int .i64) s2.2 ((U s2.2) - 1)))) (gt (.int .i64) s2.2 ((U s2.2) - 1)) (gt (.int .i64) ((c254 (gt y242 a0.1 (Jn (gt (.int .i64) s2.2 ((U s2.2) - 1)))) (gt (.int .i64) s2.2 ((U s2.2) - 1))).1) s3.1)).1.1)) (cd (iEq (gt y346 s3.2.1 (Jn (gt (.int .i64) ((c254 (gt y242 a0.1 (Jn (gt (.int .i64) s2.2 ((U s2.2) - 1)))) (gt (.int .i64) s2.2 ((U s2.2) - 1))).1) s3.1))).2.1 (c255 (gt y242 a0.1 (Jn (gt (.int .i64) s2.2 ((U s2.2) - 1)))) (gt y346 s3.2.1 (Jn (gt (.int .i64) s2.2 ((U s2.2) - 1)))) (gt (.int .i64) s2.2 ((U s2.2) - 1)) (gt (.int .i64) ((c254 (gt y242 a0.1 (Jn (gt (.int .i64) s2.2 ((U s2.2) - 1)))) (gt (.int .i64) s2.2 ((U s2.2) - 1))).1) s3.1)).1.2.1) (cd (iEq (gt y346 s3.2.1 (Jn (gt (.int .i64) ((c254 (gt y242 a0.1 (Jn (gt (.int .i64) s2.2 ((U s2.2) - 1)))) (gt (.int .i64) s2.2 ((U s2.2) - 1))).1) s3.1))).2.2.1 (c255 (gt y242 a0.1 (Jn (gt (.int .i64) s2.2 ((U s2.2) - 1)))) (gt y346 s3.2.1 (Jn (gt (.int .i64) s2.2 ((U s2.2) - 1)))) (gt (.int .i64) s2.2 ((U s2.2) - 1)) (gt (.int .i64) ((c254 (gt y242 a0.1 (Jn (gt (.int .i64) s2.2 ((U s2.2) - 1)))) (gt (.int .i64) s2.2 ((U s2.2) - 1))).1) s3.1)).1.2.2.1) (cd (iEq (gt y346 s3.2.1 (Jn (gt (.int .i64) ((c254 (gt y242 a0.1 (Jn (gt (.int .i64) s2.2 ((U s2.2) - 1)))) (gt (.int .i64) s2.2 ((U s2.2) - 1))).1) s3.1))).2.2.2.1 (c255 (gt y242 a0.1 (Jn (gt (.int .i64) s2.2 ((U s2.2) - 1)))) (gt y346 s3.2.1 (Jn (gt (.int .i64) s2.2 ((U s2.2) - 1)))) (gt (.int .i64) s2.2 ((U s2.2) - 1)) (gt (.int .i64) ((c254 (gt y242 a0.1 (Jn (gt (.int .i64) s2.2 ((U s2.2) - 1)))) (gt (.int .i64) s2.2 ((U s2.2) - 1))).1) s3.1)).1.2.2.2.1) (cd (iEq (gt y346 s3.2.1 (Jn (gt (.int .i64) ((c254 (gt y242 a0.1 (Jn (gt (.int .i64) s2.2 ((U s2.2) - 1)))) (gt (.int .i64) s2.2 ((U s2.2) - 1))).1) s3.1))).2.2.2.2 (c255 (gt y242 a0.1 (Jn (gt (.int .i64) s2.2 ((U s2.2) - 1)))) (gt y346 s3.2.1 (Jn (gt (.int .i64) s2.2 ((U s2.2) - 1)))) (gt (.int .i64) s2.2 ((U s2.2) - 1)) (gt (.int .i64) ((c254 (gt y242 a0.1 (Jn (gt (.int .i64) s2.2 ((U s2.2) - 1)))) (gt (.int .i64) s2.2 ((U s2.2) - 1))).1) s3.1)).1.2.2.2.2) true false) false) false) false) false)) false)) (.ret ([],false,())) (cd (!(gt y346 s3.2.1 (Jn (gt (.int .i64) ((c254 (gt y242 a0.1 (Jn (gt (.int .i64) s2.2 ((U s2.2) - 1)))) (gt (.int .i64) s2.2 ((U s2.2) - 1))).1) s3.1))).1) (.go (s3.1+1,(List.set s3.2.1 (Jn (gt (.int .i64) ((c254 (gt y242 a0.1 (Jn (gt (.int .i64) s2.2 ((U s2.2) - 1)))) (gt (.int .i64) s2.2 ((U s2.2) - 1))).1) s3.1)) ((c255 (gt y242 a0.1 (Jn (gt (.int .i64) s2.2 ((U s2.2) - 1)))) (gt y346 s3.2.1 (Jn (gt (.int .i64) s2.2 ((U s2.2) - 1)))) (gt (.int .i64) s2.2 ((U s2.2) - 1)) (gt (.int .i64) ((c254 (gt y242 a0.1 (Jn (gt (.int .i64) s2.2 ((U s2.2) - 1)))) (gt (.int .i64) s2.2 ((U s2.2) - 1))).1) s3.1)).1)),(s3.2.2++[(gt (.int .i64) ((c254 (gt y242 a0.1 (Jn (gt (.int .i64) s2.2 ((U s2.2) - 1)))) (gt (.int .i64) s2.2 ((U s2.2) - 1))).1) s3.1)]))) (.go (s3.1+1,s3.2.1,s3.2.2)))) (.brk s3))
def c171_L4 (a0:den y42) (s1:Nat×List (den y346)×List (den (.int .i64))) (s2:List (den y346)×List (den (.int .i64))):(Bool×Nat)→Out (Bool×Nat) (denL [⟨false,(.sl y346)⟩,⟨false,.bool⟩]):=fun s4=>(cd (!iLe (J (U a0.2)) (J s4.2)) (cd (!(cd (cd (gt y346 s2.1 (Jn ((gt y261 a0.2 s4.2).2.2.1))).1 (c252 (J 0) (J 0) (J 0) (J 0)).1.1 (!(c252 (J 0) (J 0) (J 0) (J 0)).1.1)) (cd (iEq (gt y346 s2.1 (Jn ((gt y261 a0.2 s4.2).2.2.1))).2.1 (c252 (J 0) (J 0) (J 0) (J 0)).1.2.1) (cd (iEq (gt y346 s2.1 (Jn ((gt y261 a0.2 s4.2).2.2.1))).2.2.1 (c252 (J 0) (J 0) (J 0) (J 0)).1.2.2.1) (cd (iEq (gt y346 s2.1 (Jn ((gt y261 a0.2 s4.2).2.2.1))).2.2.2.1 (c252 (J 0) (J 0) (J 0) (J 0)).1.2.2.2.1) (cd (iEq (gt y346 s2.1 (Jn ((gt y261 a0.2 s4.2).2.2.1))).2.2.2.2 (c252 (J 0) (J 0) (J 0) (J 0)).1.2.2.2.2) true false) false) false) false) false)) (.ret ([],false,())) (.go (s4.1,s4.2+1))) (.brk s4))
def c171_L2 (a0:den y42) (s1:Nat×List (den y346)×List (den (.int .i64))):(List (den y346)×List (den (.int .i64)))→Out (List (den y346)×List (den (.int .i64))) (denL [⟨false,(.sl y346)⟩,⟨false,.bool⟩]):=fun s2=>(cd (!iLe (J (U s2.2)) (J 0)) (cd (cd (!(c253 (gt y242 a0.1 (Jn (gt (.int .i64) s2.2 ((U s2.2) - 1)))) (gt y346 s2.1 (Jn (gt (.int .i64) s2.2 ((U s2.2) - 1))))).1) true (cd (iEq (gt y242 a0.1 (Jn (gt (.int .i64) s2.2 ((U s2.2) - 1)))).1 (J 45)) (iEq (gt y242 a0.1 (Jn (gt (.int .i64) s2.2 ((U s2.2) - 1)))).2.1 (wr .i64 ((gt (.int .i64) s2.2 ((U s2.2) - 1))+(J 1)))) false)) (.ret ([],false,())) (outE (.ret (dfR _)) (fun s3=>(.go (s3.2.1,s3.2.2))) (fun r=>.ret r) (scan (c171_L3 a0 s1 s2) ((fun(s3:Nat×List (den y346)×List (den (.int .i64)))=>U (c254 (gt y242 a0.1 (Jn (gt (.int .i64) s2.2 (U s2.2 - 1)))) (gt (.int .i64) s2.2 (U s2.2 - 1))).1 - s3.1) (0,s2.1,(List.take ((U s2.2) - 1) s2.2))+1) (0,s2.1,(List.take ((U s2.2) - 1) s2.2))))) (.brk s2))
def c171_L1 (a0:den y42):(Nat×List (den y346)×List (den (.int .i64)))→Out (Nat×List (den y346)×List (den (.int .i64))) (denL [⟨false,(.sl y346)⟩,⟨false,.bool⟩]):=fun s1=>(cd (!iLe (J (U a0.2)) (J s1.1)) (cd (!(gt y346 s1.2.1 (Jn ((gt y261 a0.2 s1.1).2.2.1))).1) (.go (s1.1+1,(List.set s1.2.1 (Jn ((gt y261 a0.2 s1.1).2.2.1)) ((c252 (J 0) (J 0) (J 0) (J 0)).1)),(s1.2.2++[(gt y261 a0.2 s1.1).2.2.1]))) (.go (s1.1+1,s1.2.1,s1.2.2))) (.brk s1))
def c171 (a0:den y42):denL [⟨false,(.sl y346)⟩,⟨false,.bool⟩]:=(outE (dfR _) (fun s1=>(outE (dfR _) (fun s2=>(outE (dfR _) (fun s4=>(s2.1,true,())) (fun r=>r) (scan (c171_L4 a0 s1 s2) ((U a0.2) - 0+1) (false,0)))) (fun r=>r) (scan (c171_L2 a0 s1) ((fun(s2:List (den y346)×List (den (.int .i64)))=>2*unk (fun(h:den y346)=>h.1) s2.1+U s2.2) (s1.2.1,s1.2.2)+1) (s1.2.1,s1.2.2)))) (fun r=>r) (scan (c171_L1 a0) ((fun(s1:Nat×List (den y346)×List (den (.int .i64)))=>U a0.2 - s1.1) (0,(List.replicate (U a0.1) (false,(J 0),(J 0),(J 0),(J 0))),[])+1) (0,(List.replicate (U a0.1) (false,(J 0),(J 0),(J 0),(J 0))),[])))
open Classical in
def k171:Con:=⟨171,[⟨true,y42⟩],[⟨false,(.sl y346)⟩,⟨false,.bool⟩],fun x=>if 0<U x.1.1∧U x.1.1≤100000∧(∀i,i<U x.1.2→@LE.le Int _ 0 (gt y261 x.1.2 i).2.2.1∧@LT.lt Int _ (gt y261 x.1.2 i).2.2.1 ((U x.1.1:Nat):Int))∧(∀i,i<U x.1.1→(c250 (gt y242 x.1.1 i).1).1=true→@LE.le Int _ 0 (gt y242 x.1.1 i).2.1) then some (c171 x.1) else none⟩
theorem t171 (a0:den y42) (r0:0<U a0.1) (r1:U a0.1≤100000) (r2:(∀i,i<U a0.2→@LE.le Int _ 0 (gt y261 a0.2 i).2.2.1∧@LT.lt Int _ (gt y261 a0.2 i).2.2.1 ((U a0.1:Nat):Int))) (r3:(∀i,i<U a0.1→(c250 (gt y242 a0.1 i).1).1=true→@LE.le Int _ 0 (gt y242 a0.1 i).2.1)):KC Bn k171 (a0,()) (c171 a0):=by
 refine xI (uL [k252,k253,k254,k255] (okC o252 (okC o253 (okC o254 (okC o255 ok0))))) Tryz.func171 fun hbd hB=>?_
 refine xr 4 ?_
 have b1:U a0.1≤Bn:=hbd.1.1.1
 refine ymk 3 1 347 40 y346 (false,(J 0),(J 0),(J 0),(J 0)) (U a0.1) om om ?_
 refine yf ?_
 have b2:U a0.2≤Bn:=hbd.1.2.1
 refine xlC 9 3 (fun v (s1:Nat×List (den y346)×List (den (.int .i64)))=>[(path 1,(.p (path 0) 0)),(path 2,(.v (.slice none 0 0))),(path 3,(.b false)),(path 4,(.sl (path 1) 0 (wd y346) (U a0.1) (U a0.1) true)),(path 5,v),(path 6,(.i .i64 (J s1.1)))]) (fun v (s1:Nat×List (den y346)×List (den (.int .i64)))=>[some (.cs 43 [(.isl y242 a0.1),(.isl y261 a0.2)] false),some (.cs 347 (flatT y346 s1.2.1) false),none]) (fun s1=>(apv .em (path 3) (.int .i64) s1.2.2)) (fun s1=>(apb 2 (.int .i64) s1.2.2)) (fun s1=>((s1.1≤U a0.2∧U s1.2.1=U a0.1)∧unk (fun(h:den y346)=>h.1) s1.2.1+U s1.2.2≤U a0.1)∧AllW (U a0.1) (fun(h:den y346)=>h.1) s1.2.1 s1.2.2) (fun(s1:Nat×List (den y346)×List (den (.int .i64)))=>U a0.2 - s1.1) ⟨⟨⟨Nz _,List.length_replicate⟩,Nt (unk_le _ _) (Nat.le_of_eq List.length_replicate)⟩,allw_nil⟩ (by dsimp only;omega) (rendD ⟨bk1,bF,trivial,trivial⟩ kr kr kr) fun s1 i1=>?_
 obtain⟨⟨⟨hi1,hl1⟩,hu1⟩,hw1⟩:=i1
 refine xc 4 (fun h3=>?_) fun h3=>?_
 refine xr 4 ?_
 have g4:=lt_of_nle h3
 have b5:U a0.2≤Bn:=hbd.1.2.1
 have x6:s1.1<U a0.2:=fo2
 refine yi 3 y261 a0.2 s1.1 x6 ?_
 have e7:=r2 s1.1 x6
 refine yf ?_
 refine xr 2 ?_
 refine yv 2 33 (.i .i64 (gt y261 a0.2 s1.1).2.2.1) (.i .i64 (J (Jn ((gt y261 a0.2 s1.1).2.2.1)))) (toNat_av (show @LE.le Int _ 0 ((gt y261 a0.2 s1.1).2.2.1) by omega)) ?_
 refine yie 0 1 (wd y346) (U a0.1) (U a0.1) true (Jn ((gt y261 a0.2 s1.1).2.2.1)) fo2 ?_
 refine yl1 1 1 y346 s1.2.1 (Jn ((gt y261 a0.2 s1.1).2.2.1)) 0 (.b (gt y346 s1.2.1 (Jn ((gt y261 a0.2 s1.1).2.2.1))).1) (by have hl:U s1.2.1=_:=hl1;omega) ?_
 refine yf ?_
 refine xc 1 (fun h8=>?_) fun h8=>?_
 refine xr 1 ?_
 refine yv 3 39 (.i .i64 (gt y261 a0.2 s1.1).2.2.1) (.i .i64 (J (Jn ((gt y261 a0.2 s1.1).2.2.1)))) (toNat_av (show @LE.le Int _ 0 ((gt y261 a0.2 s1.1).2.2.1) by omega)) ?_
 refine yie 0 1 (wd y346) (U a0.1) (U a0.1) true (Jn ((gt y261 a0.2 s1.1).2.2.1)) fo2 ?_
 refine yst 0 1 347 y346 s1.2.1 (Jn ((gt y261 a0.2 s1.1).2.2.1)) ((c252 (J 0) (J 0) (J 0) (J 0)).1) (by have hl:U s1.2.1=_:=hl1;omega) ?_
 refine yf ?_
 refine xr 1 ?_
 refine zo 3 (zapp 0 5 2 8 .em iv_em 3 (.int .i64) s1.2.2 ((gt y261 a0.2 s1.1).2.2.1) fo4 (zf ?_))
 refine yf ?_
 refine xsv 3 6 (.i .i64 (wr .i64 ((J s1.1)+(J 1)))) (.i .i64 (J s1.1+1)) (wr_inc om) ?_
 have hk:=unk_set (fun(h:den y346)=>h.1) (x:=(c252 (J 0) (J 0) (J 0) (J 0)).1) (show(Jn ((gt y261 a0.2 s1.1).2.2.1))<U s1.2.1 by have hl:U s1.2.1=_:=hl1;omega) (by simpa using h8) rfl
 have hz:U (s1.2.2++[(gt y261 a0.2 s1.1).2.2.1])=U s1.2.2+1:=La ..
 exact xgC 0 5 (.sl (path 5) 0 (wd (.int .i64)) (U (s1.2.2++[(gt y261 a0.2 s1.1).2.2.1])) (U (s1.2.2++[(gt y261 a0.2 s1.1).2.2.1])) false) [false,false,false,false,true] ⟨⟨⟨⟨by dsimp only;omega,List.length_set.trans hl1⟩,by dsimp only;omega⟩,allw_push hw1 hl1 om om rfl⟩,by dsimp only;omega⟩ (gAn kr) ⟨bS bk1,bS bF,bS trivial,trivial⟩
 refine xsv 3 6 (.i .i64 (wr .i64 ((J s1.1)+(J 1)))) (.i .i64 (J s1.1+1)) (wr_inc om) ?_
 exact xgC 0 3 (apv .em (path 3) (.int .i64) s1.2.2) [false,false,false,false,true] ⟨⟨⟨⟨by dsimp only;omega,hl1⟩,hu1⟩,hw1⟩,by dsimp only;omega⟩ (gA iv_em kr) ⟨bS bk1,bS bF,bS trivial,trivial⟩
 refine xbC 1 ?_
 have g4:=le_of_nle h3
 refine Classical.byCases (p:=s1.2.2=[]) (fun n5=>?_) fun n5=>?_
 refine xsv 4 5 (apv .em (path 3) (.int .i64) s1.2.2) .em (congrArg (fun z=>apv .em (path 3) (.int .i64) z) n5) ?_
 refine xhv 0 3 (apb 2 (.int .i64) s1.2.2) .dead (congrArg (fun z=>apb 2 (.int .i64) z) n5) ?_
 refine xnl (s':=(s1.2.1,s1.2.2)) (by rw[n5];kernel_rfl) ?_
 refine xun 0 1 ?_
 have b6:U a0.2≤Bn:=hbd.1.2.1
 refine xlc 14 4 (fun(s4:Bool×Nat)=>[(path 1,(.p (path 0) 0)),(path 2,(.v (.slice none 0 0))),(path 3,(.b s4.1)),(path 4,(.sl (path 1) 0 (wd y346) (U a0.1) (U a0.1) true)),(path 13,(.i .i64 (J s4.2)))]) (fun s4=>[some (.cs 43 [(.isl y242 a0.1),(.isl y261 a0.2)] false),some (.cs 347 (flatT y346 s1.2.1) false),none,some .dead]) (fun s4=>s4.2) (U a0.2) om fun s4 (i4:s4.2≤(U a0.2))=>?_
 refine xc 4 (fun h7=>?_) fun h7=>?_
 refine xd 4 ?_
 have g8:=lt_of_nle h7
 have x9:s4.2<U a0.2:=fo2
 refine yi 4 y261 a0.2 s4.2 x9 ?_
 have e10:=r2 s4.2 x9
 refine yv 2 169 (.i .i64 (gt y261 a0.2 s4.2).2.2.1) (.i .i64 (J (Jn ((gt y261 a0.2 s4.2).2.2.1)))) (toNat_av (show @LE.le Int _ 0 ((gt y261 a0.2 s4.2).2.2.1) by omega)) ?_
 refine yie 0 1 (wd y346) (U a0.1) (U a0.1) true (Jn ((gt y261 a0.2 s4.2).2.2.1)) fo2 ?_
 refine yln 0 1 y346 s1.2.1 (Jn ((gt y261 a0.2 s4.2).2.2.1)) 0 5 [(.b (gt y346 s1.2.1 (Jn ((gt y261 a0.2 s4.2).2.2.1))).1),(.i .i64 (gt y346 s1.2.1 (Jn ((gt y261 a0.2 s4.2).2.2.1))).2.1),(.i .i64 (gt y346 s1.2.1 (Jn ((gt y261 a0.2 s4.2).2.2.1))).2.2.1),(.i .i64 (gt y346 s1.2.1 (Jn ((gt y261 a0.2 s4.2).2.2.1))).2.2.2.1),(.i .i64 (gt y346 s1.2.1 (Jn ((gt y261 a0.2 s4.2).2.2.1))).2.2.2.2)] (by have hl:U s1.2.1=_:=hl1;omega) ?_
 refine yf ?_
 refine xc 1 (fun h11=>?_) fun h11=>?_
 refine xt 5 ?_
 exact xe 0
 exact xgb 3 (gI om) (hN 4 s4.2 om) ⟨bk1,⟨bF,⟨bk1,⟨bk1,trivial⟩⟩⟩⟩
 refine xb 1 ?_
 have g8:=le_of_nle h7
 refine xsv 3 4 (.sl (path 1) 0 (wd y346) (U a0.1) (U a0.1) true) (.sl (path 1) 0 (wd y346) (U s1.2.1) (U s1.2.1) true) (by rw[hl1]) ?_
 refine xgv 0 4 1 347 (U s1.2.1) true y346 s1.2.1 (by have hl:=hl1;omega) ?_
 exact xe 2
 refine xsv 4 5 (apv .em (path 3) (.int .i64) s1.2.2) (.sl (path 3) 0 (wd (.int .i64)) (U s1.2.2) (U s1.2.2) false) (apv_ne n5) ?_
 refine xhv 0 3 (apb 2 (.int .i64) s1.2.2) (.cs 2 (flatT (.int .i64) s1.2.2) false) (apb_ne n5) ?_
 refine xlCi 0 4 (fun v (s2:List (den y346)×List (den (.int .i64)))=>[(path 1,(.p (path 0) 0)),(path 2,(.v (.slice none 0 0))),(path 3,(.b false)),(path 4,(.sl (path 1) 0 (wd y346) (U a0.1) (U a0.1) true)),(path 5,v)]) (fun v (s2:List (den y346)×List (den (.int .i64)))=>[some (.cs 43 [(.isl y242 a0.1),(.isl y261 a0.2)] false),some (.cs 347 (flatT y346 s2.1) false),none,some .dead]) (fun s2=>(.sl (path 4) 0 (wd (.int .i64)) (U s2.2) (U s2.2) false)) (fun s2=>(.cs 2 (flatT (.int .i64) s2.2) false)) (fun s2=>(U s2.1=U a0.1∧unk (fun(h:den y346)=>h.1) s2.1+U s2.2≤U a0.1)∧AllW (U a0.1) (fun(h:den y346)=>h.1) s2.1 s2.2) (fun(s2:List (den y346)×List (den (.int .i64)))=>2*unk (fun(h:den y346)=>h.1) s2.1+U s2.2) ⟨⟨hl1,hu1⟩,hw1⟩ (by have hq:=unk_le (fun(h:den y346)=>h.1) s1.2.1;dsimp only;omega) 3 (.sl (path 3) 0 (wd (.int .i64)) (U s1.2.2) (U s1.2.2) false) [false,false,false,false,true] (gN kr) ⟨bS bk1,bS bF,bS trivial,bS trivial,trivial⟩ fun s2 i2=>?_
 obtain⟨⟨hl2,hu2⟩,hw2⟩:=i2
 refine xc 4 (fun h12=>?_) fun h12=>?_
 refine xr 3 ?_
 have g13:=lt_of_nle h12
 refine yv 4 52 (.i .i64 (wr .i64 ((J (U s2.2)) - (J 1)))) (.i .i64 (J ((U s2.2) - 1))) (wr_dec om om) ?_
 refine yie 0 4 (wd (.int .i64)) (U s2.2) (U s2.2) false ((U s2.2) - 1) fo2 ?_
 refine yl1 0 4 (.int .i64) s2.2 ((U s2.2) - 1) 0 (.i .i64 (gt (.int .i64) s2.2 ((U s2.2) - 1))) fo2 ?_
 have e14:=(hw2 ((U s2.2) - 1) fo2).1
 refine yf ?_
 refine xr 2 ?_
 refine yv 4 58 (.i .i64 (wr .i64 ((J (U s2.2)) - (J 1)))) (.i .i64 (J ((U s2.2) - 1))) (wr_dec om om) ?_
 refine ypo 0 4 (wd (.int .i64)) (U s2.2) (U s2.2) false ((U s2.2) - 1) om ?_
 refine yf ?_
 refine xpS 2 5 4 2 ((U s2.2) - 1) (U s2.2) false (.int .i64) s2.2 om ?_
 have b15:U (List.take ((U s2.2) - 1) s2.2)=((U s2.2) - 1):=by rw[Tk];omega
 refine xr 0 ?_
 refine yv 3 62 (.i .i64 (gt (.int .i64) s2.2 ((U s2.2) - 1))) (.i .i64 (J (Jn (gt (.int .i64) s2.2 ((U s2.2) - 1))))) (toNat_av (show @LE.le Int _ 0 (gt (.int .i64) s2.2 ((U s2.2) - 1)) by omega)) ?_
 have x16:(Jn (gt (.int .i64) s2.2 ((U s2.2) - 1)))<U a0.1:=fo2
 refine yi 0 y242 a0.1 (Jn (gt (.int .i64) s2.2 ((U s2.2) - 1))) x16 ?_
 refine yf ?_
 refine xd 3 ?_
 refine yv 3 67 (.i .i64 (gt (.int .i64) s2.2 ((U s2.2) - 1))) (.i .i64 (J (Jn (gt (.int .i64) s2.2 ((U s2.2) - 1))))) (toNat_av (show @LE.le Int _ 0 (gt (.int .i64) s2.2 ((U s2.2) - 1)) by omega)) ?_
 refine yie 0 1 (wd y346) (U a0.1) (U a0.1) true (Jn (gt (.int .i64) s2.2 ((U s2.2) - 1))) fo2 ?_
 refine yln 0 1 y346 s2.1 (Jn (gt (.int .i64) s2.2 ((U s2.2) - 1))) 0 5 [(.b (gt y346 s2.1 (Jn (gt (.int .i64) s2.2 ((U s2.2) - 1)))).1),(.i .i64 (gt y346 s2.1 (Jn (gt (.int .i64) s2.2 ((U s2.2) - 1)))).2.1),(.i .i64 (gt y346 s2.1 (Jn (gt (.int .i64) s2.2 ((U s2.2) - 1)))).2.2.1),(.i .i64 (gt y346 s2.1 (Jn (gt (.int .i64) s2.2 ((U s2.2) - 1)))).2.2.2.1),(.i .i64 (gt y346 s2.1 (Jn (gt (.int .i64) s2.2 ((U s2.2) - 1)))).2.2.2.2)] (by have hl:U s2.1=_:=hl2;omega) ?_
 refine yf ?_
 refine xc 1 (fun h17=>?_) fun h17=>?_
 refine xtC 5 ?_
 exact xe 0
 have hN3:=c254_l (gt y242 a0.1 (Jn (gt (.int .i64) s2.2 (U s2.2 - 1)))) (gt (.int .i64) s2.2 (U s2.2 - 1))
 refine xlCi 8 6 (fun v (s3:Nat×List (den y346)×List (den (.int .i64)))=>[(path 1,(.p (path 0) 0)),(path 2,(.v (.slice none 0 0))),(path 3,(.b false)),(path 4,(.sl (path 1) 0 (wd y346) (U a0.1) (U a0.1) true)),(path 5,v),(path 8,(.i .i64 (gt (.int .i64) s2.2 ((U s2.2) - 1)))),(path 9,(.p (path 5) 0)),(path 10,(.isl (.int .i64) (c254 (gt y242 a0.1 (Jn (gt (.int .i64) s2.2 ((U s2.2) - 1)))) (gt (.int .i64) s2.2 ((U s2.2) - 1))).1)),(path 11,(.i .i64 (J s3.1)))]) (fun v (s3:Nat×List (den y346)×List (den (.int .i64)))=>[some (.cs 43 [(.isl y242 a0.1),(.isl y261 a0.2)] false),some (.cs 347 (flatT y346 s3.2.1) false),none,some .dead,some .dead,some (.cs 243 [(.i .i64 (gt y242 a0.1 (Jn (gt (.int .i64) s2.2 ((U s2.2) - 1)))).1),(.i .i64 (gt y242 a0.1 (Jn (gt (.int .i64) s2.2 ((U s2.2) - 1)))).2.1),(.i .i64 (gt y242 a0.1 (Jn (gt (.int .i64) s2.2 ((U s2.2) - 1)))).2.2.1),(.s (U (α:=Nat) (gt y242 a0.1 (Jn (gt (.int .i64) s2.2 ((U s2.2) - 1)))).2.2.2) (gt y242 a0.1 (Jn (gt (.int .i64) s2.2 ((U s2.2) - 1)))).2.2.2)] false)]) (fun s3=>(.sl (path 6) 0 (wd (.int .i64)) (U s3.2.2) (U s3.2.2) false)) (fun s3=>(.cs 2 (flatT (.int .i64) s3.2.2) false)) (fun s3=>((s3.1≤U (c254 (gt y242 a0.1 (Jn (gt (.int .i64) s2.2 (U s2.2 - 1)))) (gt (.int .i64) s2.2 (U s2.2 - 1))).1∧U s3.2.1=U a0.1)∧2*unk (fun(h:den y346)=>h.1) s3.2.1+U s3.2.2<2*unk (fun(h:den y346)=>h.1) s2.1+U s2.2)∧AllW (U a0.1) (fun(h:den y346)=>h.1) s3.2.1 s3.2.2∧unk (fun(h:den y346)=>h.1) s3.2.1+U s3.2.2≤U a0.1∧(gt y346 s3.2.1 (Jn (gt (.int .i64) s2.2 (U s2.2 - 1)))).1=true) (fun(s3:Nat×List (den y346)×List (den (.int .i64)))=>U (c254 (gt y242 a0.1 (Jn (gt (.int .i64) s2.2 (U s2.2 - 1)))) (gt (.int .i64) s2.2 (U s2.2 - 1))).1 - s3.1) ⟨⟨⟨Nz _,hl2⟩,by dsimp only;omega⟩,allw_take hw2,by dsimp only;omega,(hw2 _ om).2⟩ (by dsimp only;omega) 4 (.sl (path 4) 0 (wd (.int .i64)) (U (List.take ((U s2.2) - 1) s2.2)) (U (List.take ((U s2.2) - 1) s2.2)) false) [false,false,false,false,true] (gN kr) ⟨bS bk1,bS bF,bS trivial,bS trivial,bS trivial,bS bk1,trivial⟩ fun s3 i3=>?_
 obtain⟨⟨⟨hi3,hl3⟩,hd3⟩,hw3,hu3,hk3⟩:=i3
 refine xc 4 (fun h18=>?_) fun h18=>?_
 refine xw 4 ?_
 have g19:=lt_of_nle h18
 refine zdw 3 95 (.i .i64 (gt (.int .i64) s2.2 ((U s2.2) - 1))) (.i .i64 (J (Jn (gt (.int .i64) s2.2 ((U s2.2) - 1))))) (toNat_av (show @LE.le Int _ 0 (gt (.int .i64) s2.2 ((U s2.2) - 1)) by omega)) ?_
 refine zde 0 1 (wd y346) (U a0.1) (U a0.1) true (Jn (gt (.int .i64) s2.2 ((U s2.2) - 1))) fo2 ?_
 refine zdl 0 1 y346 s3.2.1 (Jn (gt (.int .i64) s2.2 ((U s2.2) - 1))) 0 5 [(.b (gt y346 s3.2.1 (Jn (gt (.int .i64) s2.2 ((U s2.2) - 1)))).1),(.i .i64 (gt y346 s3.2.1 (Jn (gt (.int .i64) s2.2 ((U s2.2) - 1)))).2.1),(.i .i64 (gt y346 s3.2.1 (Jn (gt (.int .i64) s2.2 ((U s2.2) - 1)))).2.2.1),(.i .i64 (gt y346 s3.2.1 (Jn (gt (.int .i64) s2.2 ((U s2.2) - 1)))).2.2.2.1),(.i .i64 (gt y346 s3.2.1 (Jn (gt (.int .i64) s2.2 ((U s2.2) - 1)))).2.2.2.2)] (by have hl:U s3.2.1=_:=hl3;omega) ?_
 refine zdi 3 (.int .i64) ((c254 (gt y242 a0.1 (Jn (gt (.int .i64) s2.2 ((U s2.2) - 1)))) (gt (.int .i64) s2.2 ((U s2.2) - 1))).1) s3.1 fo2 ?_
 have e20:=c254_r (gt y242 a0.1 (Jn (gt (.int .i64) s2.2 ((U s2.2) - 1)))) (gt (.int .i64) s2.2 ((U s2.2) - 1)) (r3 (Jn (gt (.int .i64) s2.2 ((U s2.2) - 1))) om) om om s3.1 fo2
 refine zfd ?_
 refine xd 3 ?_
 refine yi 2 (.int .i64) ((c254 (gt y242 a0.1 (Jn (gt (.int .i64) s2.2 ((U s2.2) - 1)))) (gt (.int .i64) s2.2 ((U s2.2) - 1))).1) s3.1 fo2 ?_
 have e21:=c254_r (gt y242 a0.1 (Jn (gt (.int .i64) s2.2 ((U s2.2) - 1)))) (gt (.int .i64) s2.2 ((U s2.2) - 1)) (r3 (Jn (gt (.int .i64) s2.2 ((U s2.2) - 1))) om) om om s3.1 fo2
 refine yg 6 112 false (iLe (J (U a0.1)) (gt (.int .i64) ((c254 (gt y242 a0.1 (Jn (gt (.int .i64) s2.2 ((U s2.2) - 1)))) (gt (.int .i64) s2.2 ((U s2.2) - 1))).1) s3.1)) (cd (gt y346 s3.2.1 (Jn (gt (.int .i64) ((c254 (gt y242 a0.1 (Jn (gt (.int .i64) s2.2 ((U s2.2) - 1)))) (gt (.int .i64) s2.2 ((U s2.2) - 1))).1) s3.1))).1 (!(cd (cd (gt y346 s3.2.1 (Jn (gt (.int .i64) ((c254 (gt y242 a0.1 (Jn (gt (.int .i64) s2.2 ((U s2.2) - 1)))) (gt (.int .i64) s2.2 ((U s2.2) - 1))).1) s3.1))).1 (c255 (gt y242 a0.1 (Jn (gt (.int .i64) s2.2 ((U s2.2) - 1)))) (gt y346 s3.2.1 (Jn (gt (.int .i64) s2.2 ((U s2.2) - 1)))) (gt (.int .i64) s2.2 ((U s2.2) - 1)) (gt (.int .i64) ((c254 (gt y242 a0.1 (Jn (gt (.int .i64) s2.2 ((U s2.2) - 1)))) (gt (.int .i64) s2.2 ((U s2.2) - 1))).1) s3.1)).1.1 (!(c255 (gt y242 a0.1 (Jn (gt (.int .i64) s2.2 ((U s2.2) - 1)))) (gt y346 s3.2.1 (Jn (gt (.int .i64) s2.2 ((U s2.2) - 1)))) (gt (.int .i64) s2.2 ((U s2.2) - 1)) (gt (.int .i64) ((c254 (gt y242 a0.1 (Jn (gt (.int .i64) s2.2 ((U s2.2) - 1)))) (gt (.int .i64) s2.2 ((U s2.2) - 1))).1) s3.1)).1.1)) (cd (iEq (gt y346 s3.2.1 (Jn (gt (.int .i64) ((c254 (gt y242 a0.1 (Jn (gt (.int .i64) s2.2 ((U s2.2) - 1)))) (gt (.int .i64) s2.2 ((U s2.2) - 1))).1) s3.1))).2.1 (c255 (gt y242 a0.1 (Jn (gt (.int .i64) s2.2 ((U s2.2) - 1)))) (gt y346 s3.2.1 (Jn (gt (.int .i64) s2.2 ((U s2.2) - 1)))) (gt (.int .i64) s2.2 ((U s2.2) - 1)) (gt (.int .i64) ((c254 (gt y242 a0.1 (Jn (gt (.int .i64) s2.2 ((U s2.2) - 1)))) (gt (.int .i64) s2.2 ((U s2.2) - 1))).1) s3.1)).1.2.1) (cd (iEq (gt y346 s3.2.1 (Jn (gt (.int .i64) ((c254 (gt y242 a0.1 (Jn (gt (.int .i64) s2.2 ((U s2.2) - 1)))) (gt (.int .i64) s2.2 ((U s2.2) - 1))).1) s3.1))).2.2.1 (c255 (gt y242 a0.1 (Jn (gt (.int .i64) s2.2 ((U s2.2) - 1)))) (gt y346 s3.2.1 (Jn (gt (.int .i64) s2.2 ((U s2.2) - 1)))) (gt (.int .i64) s2.2 ((U s2.2) - 1)) (gt (.int .i64) ((c254 (gt y242 a0.1 (Jn (gt (.int .i64) s2.2 ((U s2.2) - 1)))) (gt (.int .i64) s2.2 ((U s2.2) - 1))).1) s3.1)).1.2.2.1) (cd (iEq (gt y346 s3.2.1 (Jn (gt (.int .i64) ((c254 (gt y242 a0.1 (Jn (gt (.int .i64) s2.2 ((U s2.2) - 1)))) (gt (.int .i64) s2.2 ((U s2.2) - 1))).1) s3.1))).2.2.2.1 (c255 (gt y242 a0.1 (Jn (gt (.int .i64) s2.2 ((U s2.2) - 1)))) (gt y346 s3.2.1 (Jn (gt (.int .i64) s2.2 ((U s2.2) - 1)))) (gt (.int .i64) s2.2 ((U s2.2) - 1)) (gt (.int .i64) ((c254 (gt y242 a0.1 (Jn (gt (.int .i64) s2.2 ((U s2.2) - 1)))) (gt (.int .i64) s2.2 ((U s2.2) - 1))).1) s3.1)).1.2.2.2.1) (cd (iEq (gt y346 s3.2.1 (Jn (gt (.int .i64) ((c254 (gt y242 a0.1 (Jn (gt (.int .i64) s2.2 ((U s2.2) - 1)))) (gt (.int .i64) s2.2 ((U s2.2) - 1))).1) s3.1))).2.2.2.2 (c255 (gt y242 a0.1 (Jn (gt (.int .i64) s2.2 ((U s2.2) - 1)))) (gt y346 s3.2.1 (Jn (gt (.int .i64) s2.2 ((U s2.2) - 1)))) (gt (.int .i64) s2.2 ((U s2.2) - 1)) (gt (.int .i64) ((c254 (gt y242 a0.1 (Jn (gt (.int .i64) s2.2 ((U s2.2) - 1)))) (gt (.int .i64) s2.2 ((U s2.2) - 1))).1) s3.1)).1.2.2.2.2) true false) false) false) false) false)) false) (fun h22=>?_) ?_
 have g23:@LT.lt Int _ (gt (.int .i64) ((c254 (gt y242 a0.1 (Jn (gt (.int .i64) s2.2 ((U s2.2) - 1)))) (gt (.int .i64) s2.2 ((U s2.2) - 1))).1) s3.1) (((U a0.1):Nat):Int):=ile_f h22
 refine yi 3 (.int .i64) ((c254 (gt y242 a0.1 (Jn (gt (.int .i64) s2.2 ((U s2.2) - 1)))) (gt (.int .i64) s2.2 ((U s2.2) - 1))).1) s3.1 fo2 ?_
 have e24:=c254_r (gt y242 a0.1 (Jn (gt (.int .i64) s2.2 ((U s2.2) - 1)))) (gt (.int .i64) s2.2 ((U s2.2) - 1)) (r3 (Jn (gt (.int .i64) s2.2 ((U s2.2) - 1))) om) om om s3.1 fo2
 refine yv 1 117 (.i .i64 (gt (.int .i64) ((c254 (gt y242 a0.1 (Jn (gt (.int .i64) s2.2 ((U s2.2) - 1)))) (gt (.int .i64) s2.2 ((U s2.2) - 1))).1) s3.1)) (.i .i64 (J (Jn (gt (.int .i64) ((c254 (gt y242 a0.1 (Jn (gt (.int .i64) s2.2 ((U s2.2) - 1)))) (gt (.int .i64) s2.2 ((U s2.2) - 1))).1) s3.1)))) (toNat_av (show @LE.le Int _ 0 (gt (.int .i64) ((c254 (gt y242 a0.1 (Jn (gt (.int .i64) s2.2 ((U s2.2) - 1)))) (gt (.int .i64) s2.2 ((U s2.2) - 1))).1) s3.1) by omega)) ?_
 refine yie 0 1 (wd y346) (U a0.1) (U a0.1) true (Jn (gt (.int .i64) ((c254 (gt y242 a0.1 (Jn (gt (.int .i64) s2.2 ((U s2.2) - 1)))) (gt (.int .i64) s2.2 ((U s2.2) - 1))).1) s3.1)) fo2 ?_
 refine yl1 1 1 y346 s3.2.1 (Jn (gt (.int .i64) ((c254 (gt y242 a0.1 (Jn (gt (.int .i64) s2.2 ((U s2.2) - 1)))) (gt (.int .i64) s2.2 ((U s2.2) - 1))).1) s3.1)) 0 (.b (gt y346 s3.2.1 (Jn (gt (.int .i64) ((c254 (gt y242 a0.1 (Jn (gt (.int .i64) s2.2 ((U s2.2) - 1)))) (gt (.int .i64) s2.2 ((U s2.2) - 1))).1) s3.1))).1) (by have hl:U s3.2.1=_:=hl3;omega) ?_
 refine yg 1 121 true (gt y346 s3.2.1 (Jn (gt (.int .i64) ((c254 (gt y242 a0.1 (Jn (gt (.int .i64) s2.2 ((U s2.2) - 1)))) (gt (.int .i64) s2.2 ((U s2.2) - 1))).1) s3.1))).1 (!(cd (cd (gt y346 s3.2.1 (Jn (gt (.int .i64) ((c254 (gt y242 a0.1 (Jn (gt (.int .i64) s2.2 ((U s2.2) - 1)))) (gt (.int .i64) s2.2 ((U s2.2) - 1))).1) s3.1))).1 (c255 (gt y242 a0.1 (Jn (gt (.int .i64) s2.2 ((U s2.2) - 1)))) (gt y346 s3.2.1 (Jn (gt (.int .i64) s2.2 ((U s2.2) - 1)))) (gt (.int .i64) s2.2 ((U s2.2) - 1)) (gt (.int .i64) ((c254 (gt y242 a0.1 (Jn (gt (.int .i64) s2.2 ((U s2.2) - 1)))) (gt (.int .i64) s2.2 ((U s2.2) - 1))).1) s3.1)).1.1 (!(c255 (gt y242 a0.1 (Jn (gt (.int .i64) s2.2 ((U s2.2) - 1)))) (gt y346 s3.2.1 (Jn (gt (.int .i64) s2.2 ((U s2.2) - 1)))) (gt (.int .i64) s2.2 ((U s2.2) - 1)) (gt (.int .i64) ((c254 (gt y242 a0.1 (Jn (gt (.int .i64) s2.2 ((U s2.2) - 1)))) (gt (.int .i64) s2.2 ((U s2.2) - 1))).1) s3.1)).1.1)) (cd (iEq (gt y346 s3.2.1 (Jn (gt (.int .i64) ((c254 (gt y242 a0.1 (Jn (gt (.int .i64) s2.2 ((U s2.2) - 1)))) (gt (.int .i64) s2.2 ((U s2.2) - 1))).1) s3.1))).2.1 (c255 (gt y242 a0.1 (Jn (gt (.int .i64) s2.2 ((U s2.2) - 1)))) (gt y346 s3.2.1 (Jn (gt (.int .i64) s2.2 ((U s2.2) - 1)))) (gt (.int .i64) s2.2 ((U s2.2) - 1)) (gt (.int .i64) ((c254 (gt y242 a0.1 (Jn (gt (.int .i64) s2.2 ((U s2.2) - 1)))) (gt (.int .i64) s2.2 ((U s2.2) - 1))).1) s3.1)).1.2.1) (cd (iEq (gt y346 s3.2.1 (Jn (gt (.int .i64) ((c254 (gt y242 a0.1 (Jn (gt (.int .i64) s2.2 ((U s2.2) - 1)))) (gt (.int .i64) s2.2 ((U s2.2) - 1))).1) s3.1))).2.2.1 (c255 (gt y242 a0.1 (Jn (gt (.int .i64) s2.2 ((U s2.2) - 1)))) (gt y346 s3.2.1 (Jn (gt (.int .i64) s2.2 ((U s2.2) - 1)))) (gt (.int .i64) s2.2 ((U s2.2) - 1)) (gt (.int .i64) ((c254 (gt y242 a0.1 (Jn (gt (.int .i64) s2.2 ((U s2.2) - 1)))) (gt (.int .i64) s2.2 ((U s2.2) - 1))).1) s3.1)).1.2.2.1) (cd (iEq (gt y346 s3.2.1 (Jn (gt (.int .i64) ((c254 (gt y242 a0.1 (Jn (gt (.int .i64) s2.2 ((U s2.2) - 1)))) (gt (.int .i64) s2.2 ((U s2.2) - 1))).1) s3.1))).2.2.2.1 (c255 (gt y242 a0.1 (Jn (gt (.int .i64) s2.2 ((U s2.2) - 1)))) (gt y346 s3.2.1 (Jn (gt (.int .i64) s2.2 ((U s2.2) - 1)))) (gt (.int .i64) s2.2 ((U s2.2) - 1)) (gt (.int .i64) ((c254 (gt y242 a0.1 (Jn (gt (.int .i64) s2.2 ((U s2.2) - 1)))) (gt (.int .i64) s2.2 ((U s2.2) - 1))).1) s3.1)).1.2.2.2.1) (cd (iEq (gt y346 s3.2.1 (Jn (gt (.int .i64) ((c254 (gt y242 a0.1 (Jn (gt (.int .i64) s2.2 ((U s2.2) - 1)))) (gt (.int .i64) s2.2 ((U s2.2) - 1))).1) s3.1))).2.2.2.2 (c255 (gt y242 a0.1 (Jn (gt (.int .i64) s2.2 ((U s2.2) - 1)))) (gt y346 s3.2.1 (Jn (gt (.int .i64) s2.2 ((U s2.2) - 1)))) (gt (.int .i64) s2.2 ((U s2.2) - 1)) (gt (.int .i64) ((c254 (gt y242 a0.1 (Jn (gt (.int .i64) s2.2 ((U s2.2) - 1)))) (gt (.int .i64) s2.2 ((U s2.2) - 1))).1) s3.1)).1.2.2.2.2) true false) false) false) false) false)) (fun h25=>?_) ?_
 refine yi 3 (.int .i64) ((c254 (gt y242 a0.1 (Jn (gt (.int .i64) s2.2 ((U s2.2) - 1)))) (gt (.int .i64) s2.2 ((U s2.2) - 1))).1) s3.1 fo2 ?_
 have e26:=c254_r (gt y242 a0.1 (Jn (gt (.int .i64) s2.2 ((U s2.2) - 1)))) (gt (.int .i64) s2.2 ((U s2.2) - 1)) (r3 (Jn (gt (.int .i64) s2.2 ((U s2.2) - 1))) om) om om s3.1 fo2
 refine yv 1 126 (.i .i64 (gt (.int .i64) ((c254 (gt y242 a0.1 (Jn (gt (.int .i64) s2.2 ((U s2.2) - 1)))) (gt (.int .i64) s2.2 ((U s2.2) - 1))).1) s3.1)) (.i .i64 (J (Jn (gt (.int .i64) ((c254 (gt y242 a0.1 (Jn (gt (.int .i64) s2.2 ((U s2.2) - 1)))) (gt (.int .i64) s2.2 ((U s2.2) - 1))).1) s3.1)))) (toNat_av (show @LE.le Int _ 0 (gt (.int .i64) ((c254 (gt y242 a0.1 (Jn (gt (.int .i64) s2.2 ((U s2.2) - 1)))) (gt (.int .i64) s2.2 ((U s2.2) - 1))).1) s3.1) by omega)) ?_
 refine yie 0 1 (wd y346) (U a0.1) (U a0.1) true (Jn (gt (.int .i64) ((c254 (gt y242 a0.1 (Jn (gt (.int .i64) s2.2 ((U s2.2) - 1)))) (gt (.int .i64) s2.2 ((U s2.2) - 1))).1) s3.1)) fo2 ?_
 refine yln 0 1 y346 s3.2.1 (Jn (gt (.int .i64) ((c254 (gt y242 a0.1 (Jn (gt (.int .i64) s2.2 ((U s2.2) - 1)))) (gt (.int .i64) s2.2 ((U s2.2) - 1))).1) s3.1)) 0 5 [(.b (gt y346 s3.2.1 (Jn (gt (.int .i64) ((c254 (gt y242 a0.1 (Jn (gt (.int .i64) s2.2 ((U s2.2) - 1)))) (gt (.int .i64) s2.2 ((U s2.2) - 1))).1) s3.1))).1),(.i .i64 (gt y346 s3.2.1 (Jn (gt (.int .i64) ((c254 (gt y242 a0.1 (Jn (gt (.int .i64) s2.2 ((U s2.2) - 1)))) (gt (.int .i64) s2.2 ((U s2.2) - 1))).1) s3.1))).2.1),(.i .i64 (gt y346 s3.2.1 (Jn (gt (.int .i64) ((c254 (gt y242 a0.1 (Jn (gt (.int .i64) s2.2 ((U s2.2) - 1)))) (gt (.int .i64) s2.2 ((U s2.2) - 1))).1) s3.1))).2.2.1),(.i .i64 (gt y346 s3.2.1 (Jn (gt (.int .i64) ((c254 (gt y242 a0.1 (Jn (gt (.int .i64) s2.2 ((U s2.2) - 1)))) (gt (.int .i64) s2.2 ((U s2.2) - 1))).1) s3.1))).2.2.2.1),(.i .i64 (gt y346 s3.2.1 (Jn (gt (.int .i64) ((c254 (gt y242 a0.1 (Jn (gt (.int .i64) s2.2 ((U s2.2) - 1)))) (gt (.int .i64) s2.2 ((U s2.2) - 1))).1) s3.1))).2.2.2.2)] (by have hl:U s3.2.1=_:=hl3;omega) ?_
 exact ya
 exact ya
 refine yf ?_
 refine xc 1 (fun h27=>?_) fun h27=>?_
 refine xtC 6 ?_
 refine xtC 0 ?_
 exact xe 0
 refine xr 2 ?_
 have g28:@LT.lt Int _ (gt (.int .i64) ((c254 (gt y242 a0.1 (Jn (gt (.int .i64) s2.2 ((U s2.2) - 1)))) (gt (.int .i64) s2.2 ((U s2.2) - 1))).1) s3.1) (((U a0.1):Nat):Int):=ile_f (oF h27).1
 refine yi 3 (.int .i64) ((c254 (gt y242 a0.1 (Jn (gt (.int .i64) s2.2 ((U s2.2) - 1)))) (gt (.int .i64) s2.2 ((U s2.2) - 1))).1) s3.1 fo2 ?_
 have e29:=c254_r (gt y242 a0.1 (Jn (gt (.int .i64) s2.2 ((U s2.2) - 1)))) (gt (.int .i64) s2.2 ((U s2.2) - 1)) (r3 (Jn (gt (.int .i64) s2.2 ((U s2.2) - 1))) om) om om s3.1 fo2
 refine yv 1 137 (.i .i64 (gt (.int .i64) ((c254 (gt y242 a0.1 (Jn (gt (.int .i64) s2.2 ((U s2.2) - 1)))) (gt (.int .i64) s2.2 ((U s2.2) - 1))).1) s3.1)) (.i .i64 (J (Jn (gt (.int .i64) ((c254 (gt y242 a0.1 (Jn (gt (.int .i64) s2.2 ((U s2.2) - 1)))) (gt (.int .i64) s2.2 ((U s2.2) - 1))).1) s3.1)))) (toNat_av (show @LE.le Int _ 0 (gt (.int .i64) ((c254 (gt y242 a0.1 (Jn (gt (.int .i64) s2.2 ((U s2.2) - 1)))) (gt (.int .i64) s2.2 ((U s2.2) - 1))).1) s3.1) by omega)) ?_
 refine yie 0 1 (wd y346) (U a0.1) (U a0.1) true (Jn (gt (.int .i64) ((c254 (gt y242 a0.1 (Jn (gt (.int .i64) s2.2 ((U s2.2) - 1)))) (gt (.int .i64) s2.2 ((U s2.2) - 1))).1) s3.1)) fo2 ?_
 refine yl1 1 1 y346 s3.2.1 (Jn (gt (.int .i64) ((c254 (gt y242 a0.1 (Jn (gt (.int .i64) s2.2 ((U s2.2) - 1)))) (gt (.int .i64) s2.2 ((U s2.2) - 1))).1) s3.1)) 0 (.b (gt y346 s3.2.1 (Jn (gt (.int .i64) ((c254 (gt y242 a0.1 (Jn (gt (.int .i64) s2.2 ((U s2.2) - 1)))) (gt (.int .i64) s2.2 ((U s2.2) - 1))).1) s3.1))).1) (by have hl:U s3.2.1=_:=hl3;omega) ?_
 refine yf ?_
 refine xc 1 (fun h30=>?_) fun h30=>?_
 refine xw 1 ?_
 refine zdi 3 (.int .i64) ((c254 (gt y242 a0.1 (Jn (gt (.int .i64) s2.2 ((U s2.2) - 1)))) (gt (.int .i64) s2.2 ((U s2.2) - 1))).1) s3.1 fo2 ?_
 have e31:=c254_r (gt y242 a0.1 (Jn (gt (.int .i64) s2.2 ((U s2.2) - 1)))) (gt (.int .i64) s2.2 ((U s2.2) - 1)) (r3 (Jn (gt (.int .i64) s2.2 ((U s2.2) - 1))) om) om om s3.1 fo2
 refine zdw 2 146 (.i .i64 (gt (.int .i64) ((c254 (gt y242 a0.1 (Jn (gt (.int .i64) s2.2 ((U s2.2) - 1)))) (gt (.int .i64) s2.2 ((U s2.2) - 1))).1) s3.1)) (.i .i64 (J (Jn (gt (.int .i64) ((c254 (gt y242 a0.1 (Jn (gt (.int .i64) s2.2 ((U s2.2) - 1)))) (gt (.int .i64) s2.2 ((U s2.2) - 1))).1) s3.1)))) (toNat_av (show @LE.le Int _ 0 (gt (.int .i64) ((c254 (gt y242 a0.1 (Jn (gt (.int .i64) s2.2 ((U s2.2) - 1)))) (gt (.int .i64) s2.2 ((U s2.2) - 1))).1) s3.1) by omega)) ?_
 refine zde 0 1 (wd y346) (U a0.1) (U a0.1) true (Jn (gt (.int .i64) ((c254 (gt y242 a0.1 (Jn (gt (.int .i64) s2.2 ((U s2.2) - 1)))) (gt (.int .i64) s2.2 ((U s2.2) - 1))).1) s3.1)) fo2 ?_
 refine zds 0 1 347 y346 s3.2.1 (Jn (gt (.int .i64) ((c254 (gt y242 a0.1 (Jn (gt (.int .i64) s2.2 ((U s2.2) - 1)))) (gt (.int .i64) s2.2 ((U s2.2) - 1))).1) s3.1)) ((c255 (gt y242 a0.1 (Jn (gt (.int .i64) s2.2 ((U s2.2) - 1)))) (gt y346 s3.2.1 (Jn (gt (.int .i64) s2.2 ((U s2.2) - 1)))) (gt (.int .i64) s2.2 ((U s2.2) - 1)) (gt (.int .i64) ((c254 (gt y242 a0.1 (Jn (gt (.int .i64) s2.2 ((U s2.2) - 1)))) (gt (.int .i64) s2.2 ((U s2.2) - 1))).1) s3.1)).1) (by have hl:U s3.2.1=_:=hl3;omega) ?_
 refine zfd ?_
 refine xr 1 ?_
 refine yi 3 (.int .i64) ((c254 (gt y242 a0.1 (Jn (gt (.int .i64) s2.2 ((U s2.2) - 1)))) (gt (.int .i64) s2.2 ((U s2.2) - 1))).1) s3.1 fo2 ?_
 have e32:=c254_r (gt y242 a0.1 (Jn (gt (.int .i64) s2.2 ((U s2.2) - 1)))) (gt (.int .i64) s2.2 ((U s2.2) - 1)) (r3 (Jn (gt (.int .i64) s2.2 ((U s2.2) - 1))) om) om om s3.1 fo2
 refine zo 2 (zapn 0 9 2 8 6 (.int .i64) s3.2.2 (gt (.int .i64) ((c254 (gt y242 a0.1 (Jn (gt (.int .i64) s2.2 ((U s2.2) - 1)))) (gt (.int .i64) s2.2 ((U s2.2) - 1))).1) s3.1) fo4 (zf ?_))
 refine yf ?_
 refine xsv 3 11 (.i .i64 (wr .i64 ((J s3.1)+(J 1)))) (.i .i64 (J s3.1+1)) (wr_inc om) ?_
 have hk:=unk_set (fun(h:den y346)=>h.1) (x:=(c255 (gt y242 a0.1 (Jn (gt (.int .i64) s2.2 ((U s2.2) - 1)))) (gt y346 s3.2.1 (Jn (gt (.int .i64) s2.2 ((U s2.2) - 1)))) (gt (.int .i64) s2.2 ((U s2.2) - 1)) (gt (.int .i64) ((c254 (gt y242 a0.1 (Jn (gt (.int .i64) s2.2 ((U s2.2) - 1)))) (gt (.int .i64) s2.2 ((U s2.2) - 1))).1) s3.1)).1) (show(Jn (gt (.int .i64) ((c254 (gt y242 a0.1 (Jn (gt (.int .i64) s2.2 ((U s2.2) - 1)))) (gt (.int .i64) s2.2 ((U s2.2) - 1))).1) s3.1))<U s3.2.1 by have hl:U s3.2.1=_:=hl3;omega) (by simpa using h30) (c255_k _ _ _ _ hk3)
 have hz:U (s3.2.2++[(gt (.int .i64) ((c254 (gt y242 a0.1 (Jn (gt (.int .i64) s2.2 ((U s2.2) - 1)))) (gt (.int .i64) s2.2 ((U s2.2) - 1))).1) s3.1)])=U s3.2.2+1:=La ..
 exact xgC 0 9 (.sl (path 9) 0 (wd (.int .i64)) (U (s3.2.2++[(gt (.int .i64) ((c254 (gt y242 a0.1 (Jn (gt (.int .i64) s2.2 ((U s2.2) - 1)))) (gt (.int .i64) s2.2 ((U s2.2) - 1))).1) s3.1)])) (U (s3.2.2++[(gt (.int .i64) ((c254 (gt y242 a0.1 (Jn (gt (.int .i64) s2.2 ((U s2.2) - 1)))) (gt (.int .i64) s2.2 ((U s2.2) - 1))).1) s3.1)])) false) [false,false,false,false,true] ⟨⟨⟨⟨by dsimp only;omega,List.length_set.trans hl3⟩,by dsimp only;omega⟩,allw_push hw3 hl3 om om (c255_k _ _ _ _ hk3),by dsimp only;omega,gt_set (f:=(fun(h:den y346)=>h.1)) om hk3 (c255_k _ _ _ _ hk3)⟩,by dsimp only;omega⟩ (gN kr) ⟨bS bk1,bS bF,bS trivial,bS trivial,bS trivial,bS bk1,trivial⟩
 refine xsv 3 11 (.i .i64 (wr .i64 ((J s3.1)+(J 1)))) (.i .i64 (J s3.1+1)) (wr_inc om) ?_
 exact xgC 0 6 (.sl (path 6) 0 (wd (.int .i64)) (U s3.2.2) (U s3.2.2) false) [false,false,false,false,true] ⟨⟨⟨⟨by dsimp only;omega,hl3⟩,hd3⟩,hw3,hu3,hk3⟩,by dsimp only;omega⟩ (gN kr) ⟨bS bk1,bS bF,bS trivial,bS trivial,bS trivial,bS bk1,trivial⟩
 refine xbC 1 ?_
 have g19:=le_of_nle h18
 exact xgC 2 6 (.sl (path 6) 0 (wd (.int .i64)) (U s3.2.2) (U s3.2.2) false) [false,false,false,false,true] ⟨⟨⟨hl3,hu3⟩,hw3⟩,hd3⟩ (gN kr) ⟨bS bk1,bS bF,bS trivial,bS trivial,trivial⟩
 have g13:=le_of_nle h12
 refine xbC 1 ?_
 have b14:U a0.2≤Bn:=hbd.1.2.1
 refine xlc 7 5 (fun(s4:Bool×Nat)=>[(path 1,(.p (path 0) 0)),(path 2,(.v (.slice none 0 0))),(path 3,(.b s4.1)),(path 4,(.sl (path 1) 0 (wd y346) (U a0.1) (U a0.1) true)),(path 13,(.i .i64 (J s4.2)))]) (fun s4=>[some (.cs 43 [(.isl y242 a0.1),(.isl y261 a0.2)] false),some (.cs 347 (flatT y346 s2.1) false),none,some .dead,some (.cs 2 (flatT (.int .i64) s2.2) false)]) (fun s4=>s4.2) (U a0.2) om fun s4 (i4:s4.2≤(U a0.2))=>?_
 refine xc 4 (fun h15=>?_) fun h15=>?_
 refine xd 4 ?_
 have g16:=lt_of_nle h15
 have x17:s4.2<U a0.2:=fo2
 refine yi 4 y261 a0.2 s4.2 x17 ?_
 have e18:=r2 s4.2 x17
 refine yv 2 169 (.i .i64 (gt y261 a0.2 s4.2).2.2.1) (.i .i64 (J (Jn ((gt y261 a0.2 s4.2).2.2.1)))) (toNat_av (show @LE.le Int _ 0 ((gt y261 a0.2 s4.2).2.2.1) by omega)) ?_
 refine yie 0 1 (wd y346) (U a0.1) (U a0.1) true (Jn ((gt y261 a0.2 s4.2).2.2.1)) fo2 ?_
 refine yln 0 1 y346 s2.1 (Jn ((gt y261 a0.2 s4.2).2.2.1)) 0 5 [(.b (gt y346 s2.1 (Jn ((gt y261 a0.2 s4.2).2.2.1))).1),(.i .i64 (gt y346 s2.1 (Jn ((gt y261 a0.2 s4.2).2.2.1))).2.1),(.i .i64 (gt y346 s2.1 (Jn ((gt y261 a0.2 s4.2).2.2.1))).2.2.1),(.i .i64 (gt y346 s2.1 (Jn ((gt y261 a0.2 s4.2).2.2.1))).2.2.2.1),(.i .i64 (gt y346 s2.1 (Jn ((gt y261 a0.2 s4.2).2.2.1))).2.2.2.2)] (by have hl:U s2.1=_:=hl2;omega) ?_
 refine yf ?_
 refine xc 1 (fun h19=>?_) fun h19=>?_
 refine xt 5 ?_
 exact xe 0
 exact xgb 3 (gI om) (hN 4 s4.2 om) ⟨bk1,⟨bF,⟨bk1,⟨bk1,⟨bF,trivial⟩⟩⟩⟩⟩
 refine xb 1 ?_
 have g16:=le_of_nle h15
 refine xsv 3 4 (.sl (path 1) 0 (wd y346) (U a0.1) (U a0.1) true) (.sl (path 1) 0 (wd y346) (U s2.1) (U s2.1) true) (by rw[hl2]) ?_
 refine xgv 0 4 1 347 (U s2.1) true y346 s2.1 (by have hl:=hl2;omega) ?_
 exact xe 2
theorem p171 {a0:den y42} (h:0<U a0.1∧U a0.1≤100000∧(∀i,i<U a0.2→@LE.le Int _ 0 (gt y261 a0.2 i).2.2.1∧@LT.lt Int _ (gt y261 a0.2 i).2.2.1 ((U a0.1:Nat):Int))∧(∀i,i<U a0.1→(c250 (gt y242 a0.1 i).1).1=true→@LE.le Int _ 0 (gt y242 a0.1 i).2.1)):k171.F (a0,())=some (c171 a0):=if_pos h
theorem o171:OK Bn k171:=xOp fun x (hp:0<U x.1.1∧U x.1.1≤100000∧(∀i,i<U x.1.2→@LE.le Int _ 0 (gt y261 x.1.2 i).2.2.1∧@LT.lt Int _ (gt y261 x.1.2 i).2.2.1 ((U x.1.1:Nat):Int))∧(∀i,i<U x.1.1→(c250 (gt y242 x.1.1 i).1).1=true→@LE.le Int _ 0 (gt y242 x.1.1 i).2.1))=>t171 _ hp.1 hp.2.1 hp.2.2.1 hp.2.2.2
end Go.Ev
end
