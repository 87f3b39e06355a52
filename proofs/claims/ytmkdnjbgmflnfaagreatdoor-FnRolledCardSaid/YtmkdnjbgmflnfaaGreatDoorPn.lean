/- A part of the proof that FnRolled returns true; no condition. -/
import Derived.Test.YtmkdnjbgmflnfaaGreatDoorPk
import Derived.Test.YtmkdnjbgmflnfaaGreatDoorPl
import Derived.Test.YtmkdnjbgmflnfaaGreatDoorPm
import Derived.Test.YtmkdnjbgmflnfaaGreatDoorPa
import Derived.Test.YtmkdnjbgmflnfaaGreatDoorPj
import Derived.RangeFuncNested
import Derived.RangeFuncLeaves
set_option linter.all false
set_option maxRecDepth 100000
open List renaming length→U
open Int renaming ofNat→J,toNat→Jn
open Go.Ev
attribute [local irreducible] GC RJ KC KM cAt cOn runC stp brC bodyC cvC rsC rdC regC loopC endC skpC extC retC evJ RS.at RS.put RS.okS RS.okR RS.all RS.fst endV endVM grpA grpB grpR grpD grpO RunOps RunD bodyF resF argsFrom
noncomputable section
namespace Go.Ev
open Go.Proofs
variable {Bn:Nat} [BOk Bn]
def RowsOk (Bn f:Nat) (ps rs:List Par) (T:List (denL ps×denL rs)):Prop:=∀q∈T,KOk PP (GG Bn) f ps rs q.1 q.2
theorem rows_run {L:List Con} (hL:Okl Bn L){n f:Nat}{ps rs:List Par}{T:List (denL ps×denL rs)} (h:runAll Bn L EX n f ps rs T=true):RowsOk Bn f ps rs T:=fun q hq=>run_kok hL EX_ok (runAll_mem h hq)
theorem rows_con {f:Nat}{ps rs:List Par}{T:List (denL ps×denL rs)} (h:RowsOk Bn f ps rs T) (hw:wfR rs=true:=by kernel_rfl):OK Bn (tabC f ps rs T):=⟨hw,fun _ _ hl=>h _ (lookT_mem hl)⟩
theorem rows_app {f:Nat}{ps rs:List Par}{T1 T2:List (denL ps×denL rs)} (h1:RowsOk Bn f ps rs T1) (h2:RowsOk Bn f ps rs T2):RowsOk Bn f ps rs (T1++T2):=fun q hq=>Or.elim (List.mem_append.1 hq) (h1 q) (h2 q)
theorem q_0:RowsOk Bn 393 pStr pLn tP_0:=rows_run (okC (rows_con (rows_run ok0 rL_0)) ok0) rP_0
theorem q_1:RowsOk Bn 393 pStr pLn tP_1:=rows_run (okC (rows_con (rows_run ok0 rL_1)) ok0) rP_1
theorem q_2:RowsOk Bn 393 pStr pLn tP_2:=rows_run (okC (rows_con (rows_run ok0 rL_2)) ok0) rP_2
theorem q_3:RowsOk Bn 393 pStr pLn tP_3:=rows_run (okC (rows_con (rows_run ok0 rL_3)) ok0) rP_3
theorem q_4:RowsOk Bn 393 pStr pLn tP_4:=rows_run (okC (rows_con (rows_run ok0 rL_4)) ok0) rP_4
theorem q_5:RowsOk Bn 393 pStr pLn tP_5:=rows_run (okC (rows_con (rows_run ok0 rL_5)) ok0) rP_5
theorem q_6:RowsOk Bn 393 pStr pLn tP_6:=rows_run (okC (rows_con (rows_run ok0 rL_6)) ok0) rP_6
theorem q_7:RowsOk Bn 393 pStr pLn tP_7:=rows_run (okC (rows_con (rows_run ok0 rL_7)) ok0) rP_7
theorem q_8:RowsOk Bn 393 pStr pLn tP_8:=rows_run (okC (rows_con (rows_run ok0 rL_8)) ok0) rP_8
theorem q_9:RowsOk Bn 393 pStr pLn tP_9:=rows_run (okC (rows_con (rows_run ok0 rL_9)) ok0) rP_9
theorem q_10:RowsOk Bn 393 pStr pLn tP_10:=rows_run (okC (rows_con (rows_run ok0 rL_10)) ok0) rP_10
theorem q_11:RowsOk Bn 393 pStr pLn tP_11:=rows_run (okC (rows_con (rows_run ok0 rL_11)) ok0) rP_11
theorem q_12:RowsOk Bn 393 pStr pLn tP_12:=rows_run (okC (rows_con (rows_run ok0 rL_12)) ok0) rP_12
theorem q_13:RowsOk Bn 393 pStr pLn tP_13:=rows_run (okC (rows_con (rows_run ok0 rL_13)) ok0) rP_13
theorem q_14:RowsOk Bn 393 pStr pLn tP_14:=rows_run (okC (rows_con (rows_run ok0 rL_14)) ok0) rP_14
def tPl_:List (denL pStr×denL pLn):=tP_0++tP_1++tP_2++tP_3++tP_4++tP_5++tP_6++tP_7++tP_8++tP_9++tP_10++tP_11++tP_12++tP_13++tP_14
theorem q_all:RowsOk Bn 393 pStr pLn tPl_:=(rows_app (rows_app (rows_app (rows_app (rows_app (rows_app (rows_app (rows_app (rows_app (rows_app (rows_app (rows_app (rows_app (rows_app q_0 q_1) q_2) q_3) q_4) q_5) q_6) q_7) q_8) q_9) q_10) q_11) q_12) q_13) q_14)
def kLine:Con:=tabC 393 pStr pLn tPl_
theorem oLine:OK Bn kLine:=rows_con q_all
abbrev pRt:List Par:=[⟨false,.sl y195⟩]
abbrev pPr:List Par:=[⟨true,y42⟩]
def src_:den (.sl y195):=[([74,79,66],[[65,68,68,40,65,44,78,41,32,84,83,32,32,83,32,94,67,40,65,41,61,36,71,40,94,67,40,65,41,41,43,78,32,84,67,32,32,81],[77,79,86,69,40,65,44,78,41,32,84,83,32,32,83,32,94,67,40,65,41,61,36,71,40,94,67,40,65,41,41,45,78,44,94,67,40,57,41,61,36,71,40,94,67,40,57,41,41,43,78,32,84,67,32,32,81],[82,65,87,40,65,44,78,41,32,83,32,94,67,40,65,41,61,36,71,40,94,67,40,65,41,41,43,78,32,81],[72,69,76,68,40,65,44,78,41,32,76,32,43,94,67,40,65,41,32,83,32,94,67,40,65,41,61,36,71,40,94,67,40,65,41,41,43,78,32,76,32,45,94,67,40,65,41,32,81],[84,82,89,40,65,44,78,41,32,76,32,43,94,67,40,65,41,58,49,32,83,32,94,82,40,65,41,61,36,84,32,81],[66,79,84,72,40,65,44,78,41,32,76,32,43,94,67,40,65,41,32,72,32,49,32,76,32,43,94,67,40,78,41,32,83,32,94,66,40,65,41,61,78,32,76,32,32,81],[83,85,77,40,65,44,78,41,32,83,32,75,61,34,34,44,84,61,48,32,70,32,32,83,32,75,61,36,79,40,94,67,40,75,41,41,32,81,58,75,61,34,34,32,32,83,32,84,61,84,43,94,67,40,75,41],[32,87,32,84,44,33,32,81],[65,83,75,40,65,44,78,41,32,82,32,88,32,83,32,94,73,40,65,41,61,88,32,87,32,88,32,81],[83,80,73,78,40,65,44,78,41,32,70,32,73,61,49,58,49,58,51,32,84,83,32,32,83,32,94,67,40,65,41,61,36,71,40,94,67,40,65,41,41,43,78,32,84,67],[32,81],[82,79,76,76,40,65,44,78,41,32,84,83,32,32,83,32,94,67,40,65,41,61,55,32,84,82,79,32,32,87,32,36,68,40,94,67,40,65,41,41,32,81],[66,65,68,40,65,44,78,41,32,83,32,94,67,40,65,41,61,78,44,88,61,49,47,48,32,81],[78,69,83,84,40,65,44,78,41,32,84,83,32,32,83,32,94,67,40,65,41,61,78,32,84,83,32,32,83,32,94,67,40,78,41,61,65,32,84,67,32,32,75,32,94,82,32,84,67,32,32,81],[83,76,79,87,40,65,44,78,41,32,84,83,32,32,83,32,88,61,36,71,40,94,67,40,65,41,41,32,72,32,49,32,83,32,94,67,40,65,41,61,88,43,78,32,84,67,32,32,81]])]
def prg_:den y42:=([(J1,J0,J0,[]),(J33,J1,J0,[]),(J1,J0,J0,[]),(J11,J0,J0,[65]),(J15,J0,J0,[]),(J12,J1,J0,[67]),(J11,J0,J0,[65]),(J15,J0,J0,[]),(J12,J1,J0,[67]),(J2,J0,J0,[]),(J16,J0,J0,[]),(J11,J0,J0,[78]),(J15,J0,J0,[]),(J5,J0,J0,[43]),(J20,J0,J0,[]),(J21,J1,J0,[]),(J3,J0,J0,[]),(J1,J0,J0,[]),(J33,J2,J0,[]),(J1,J0,J0,[]),(J40,J0,J0,[]),(J1,J0,J0,[]),(J33,J1,J0,[]),(J1,J0,J0,[]),(J11,J0,J0,[65]),(J15,J0,J0,[]),(J12,J1,J0,[67]),(J11,J0,J0,[65]),(J15,J0,J0,[]),(J12,J1,J0,[67]),(J2,J0,J0,[]),(J16,J0,J0,[]),(J11,J0,J0,[78]),(J15,J0,J0,[]),(J5,J0,J0,[45]),(J20,J0,J0,[]),(J21,J1,J0,[]),(J3,J0,J0,[]),(J2,J0,J0,[57]),(J12,J1,J0,[67]),(J2,J0,J0,[57]),(J12,J1,J0,[67]),(J2,J0,J0,[]),(J16,J0,J0,[]),(J11,J0,J0,[78]),(J15,J0,J0,[]),(J5,J0,J0,[43]),(J20,J0,J0,[]),(J21,J1,J0,[]),(J3,J0,J0,[]),(J1,J0,J0,[]),(J33,J2,J0,[]),(J1,J0,J0,[]),(J40,J0,J0,[]),(J1,J0,J0,[]),(J11,J0,J0,[65]),(J15,J0,J0,[]),(J12,J1,J0,[67]),(J11,J0,J0,[65]),(J15,J0,J0,[]),(J12,J1,J0,[67]),(J2,J0,J0,[]),(J16,J0,J0,[]),(J11,J0,J0,[78]),(J15,J0,J0,[]),(J5,J0,J0,[43]),(J20,J0,J0,[]),(J21,J1,J0,[]),(J3,J0,J0,[]),(J1,J0,J0,[]),(J40,J0,J0,[]),(J1,J0,J0,[]),(J11,J0,J0,[65]),(J15,J0,J0,[]),(J12,J1,J0,[67]),(J29,J1,J0,[]),(J1,J0,J0,[]),(J11,J0,J0,[65]),(J15,J0,J0,[]),(J12,J1,J0,[67]),(J11,J0,J0,[65]),(J15,J0,J0,[]),(J12,J1,J0,[67]),(J2,J0,J0,[]),(J16,J0,J0,[]),(J11,J0,J0,[78]),(J15,J0,J0,[]),(J5,J0,J0,[43]),(J20,J0,J0,[]),(J21,J1,J0,[]),(J3,J0,J0,[]),(J1,J0,J0,[]),(J11,J0,J0,[65]),(J15,J0,J0,[]),(J12,J1,J0,[67]),(J29,J2,J0,[]),(J1,J0,J0,[]),(J40,J0,J0,[]),(J1,J0,J0,[]),(J11,J0,J0,[65]),(J15,J0,J0,[]),(J12,J1,J0,[67]),(J2,J0,J0,[49]),(J29,J1,J1,[]),(J1,J0,J0,[]),(J11,J0,J0,[65]),(J15,J0,J0,[]),(J12,J1,J0,[82]),(J8,J0,J0,[84]),(J20,J0,J0,[]),(J21,J1,J0,[]),(J3,J0,J0,[]),(J1,J0,J0,[]),(J40,J0,J0,[]),(J1,J0,J0,[]),(J11,J0,J0,[65]),(J15,J0,J0,[]),(J12,J1,J0,[67]),(J29,J1,J0,[]),(J1,J0,J0,[]),(J2,J0,J0,[49]),(J31,J0,J0,[]),(J1,J0,J0,[]),(J11,J0,J0,[78]),(J15,J0,J0,[]),(J12,J1,J0,[67]),(J29,J1,J0,[]),(J1,J0,J0,[]),(J11,J0,J0,[65]),(J15,J0,J0,[]),(J12,J1,J0,[66]),(J11,J0,J0,[78]),(J15,J0,J0,[]),(J20,J0,J0,[]),(J21,J1,J0,[]),(J3,J0,J0,[]),(J1,J0,J0,[]),(J30,J0,J0,[]),(J1,J0,J0,[]),(J40,J0,J0,[]),(J1,J0,J0,[]),(J11,J0,J0,[75]),(J2,J0,J0,[]),(J20,J0,J0,[]),(J21,J1,J0,[]),(J3,J0,J0,[]),(J11,J0,J0,[84]),(J2,J0,J0,[48]),(J20,J0,J0,[]),(J21,J1,J0,[]),(J3,J0,J0,[]),(J1,J0,J0,[]),(J45,J 185,J0,[]),(J1,J0,J0,[]),(J48,J 156,J0,[]),(J9,J 153,J0,[]),(J1,J0,J0,[]),(J11,J0,J0,[75]),(J11,J0,J0,[75]),(J15,J0,J0,[]),(J12,J1,J0,[67]),(J18,J0,J0,[]),(J20,J0,J0,[]),(J21,J1,J0,[]),(J3,J0,J0,[]),(J1,J0,J0,[]),(J11,J0,J0,[75]),(J15,J0,J0,[]),(J2,J0,J0,[]),(J5,J0,J0,[61]),(J10,J 172,J0,[]),(J52,J0,J0,[]),(J1,J0,J0,[]),(J11,J0,J0,[84]),(J11,J0,J0,[84]),(J15,J0,J0,[]),(J11,J0,J0,[75]),(J15,J0,J0,[]),(J12,J1,J0,[67]),(J15,J0,J0,[]),(J5,J0,J0,[43]),(J20,J0,J0,[]),(J21,J1,J0,[]),(J3,J0,J0,[]),(J51,J0,J0,[]),(J1,J0,J0,[]),(J11,J0,J0,[84]),(J15,J0,J0,[]),(J26,J0,J0,[]),(J2,J0,J0,[10]),(J26,J0,J0,[]),(J1,J0,J0,[]),(J40,J0,J0,[]),(J1,J0,J0,[]),(J11,J0,J0,[88]),(J27,J0,J0,[]),(J28,J0,J0,[]),(J20,J0,J0,[]),(J21,J1,J0,[]),(J3,J0,J0,[]),(J1,J0,J0,[]),(J11,J0,J0,[65]),(J15,J0,J0,[]),(J12,J1,J0,[73]),(J11,J0,J0,[88]),(J15,J0,J0,[]),(J20,J0,J0,[]),(J21,J1,J0,[]),(J3,J0,J0,[]),(J1,J0,J0,[]),(J11,J0,J0,[88]),(J15,J0,J0,[]),(J26,J0,J0,[]),(J1,J0,J0,[]),(J40,J0,J0,[]),(J1,J0,J0,[]),(J45,J 248,J0,[73]),(J2,J0,J0,[49]),(J2,J0,J0,[49]),(J2,J0,J0,[51]),(J46,J3,J0,[]),(J47,J 226,J0,[]),(J1,J0,J0,[]),(J48,J 228,J0,[]),(J49,J0,J0,[]),(J9,J 221,J0,[]),(J50,J0,J0,[]),(J9,J 248,J0,[]),(J1,J0,J0,[]),(J33,J1,J0,[]),(J1,J0,J0,[]),(J11,J0,J0,[65]),(J15,J0,J0,[]),(J12,J1,J0,[67]),(J11,J0,J0,[65]),(J15,J0,J0,[]),(J12,J1,J0,[67]),(J2,J0,J0,[]),(J16,J0,J0,[]),(J11,J0,J0,[78]),(J15,J0,J0,[]),(J5,J0,J0,[43]),(J20,J0,J0,[]),(J21,J1,J0,[]),(J3,J0,J0,[]),(J1,J0,J0,[]),(J33,J2,J0,[]),(J51,J0,J0,[]),(J1,J0,J0,[]),(J40,J0,J0,[]),(J1,J0,J0,[]),(J33,J1,J0,[]),(J1,J0,J0,[]),(J11,J0,J0,[65]),(J15,J0,J0,[]),(J12,J1,J0,[67]),(J2,J0,J0,[55]),(J20,J0,J0,[]),(J21,J1,J0,[]),(J3,J0,J0,[]),(J1,J0,J0,[]),(J33,J3,J0,[]),(J1,J0,J0,[]),(J11,J0,J0,[65]),(J15,J0,J0,[]),(J12,J1,J0,[67]),(J17,J0,J0,[]),(J26,J0,J0,[]),(J1,J0,J0,[]),(J40,J0,J0,[]),(J1,J0,J0,[]),(J11,J0,J0,[65]),(J15,J0,J0,[]),(J12,J1,J0,[67]),(J11,J0,J0,[78]),(J15,J0,J0,[]),(J20,J0,J0,[]),(J21,J1,J0,[]),(J3,J0,J0,[]),(J11,J0,J0,[88]),(J2,J0,J0,[49]),(J2,J0,J0,[48]),(J5,J0,J0,[47]),(J20,J0,J0,[]),(J21,J1,J0,[]),(J3,J0,J0,[]),(J1,J0,J0,[]),(J40,J0,J0,[]),(J1,J0,J0,[]),(J33,J1,J0,[]),(J1,J0,J0,[]),(J11,J0,J0,[65]),(J15,J0,J0,[]),(J12,J1,J0,[67]),(J11,J0,J0,[78]),(J15,J0,J0,[]),(J20,J0,J0,[]),(J21,J1,J0,[]),(J3,J0,J0,[]),(J1,J0,J0,[]),(J33,J1,J0,[]),(J1,J0,J0,[]),(J11,J0,J0,[78]),(J15,J0,J0,[]),(J12,J1,J0,[67]),(J11,J0,J0,[65]),(J15,J0,J0,[]),(J20,J0,J0,[]),(J21,J1,J0,[]),(J3,J0,J0,[]),(J1,J0,J0,[]),(J33,J2,J0,[]),(J1,J0,J0,[]),(J12,J0,J0,[82]),(J22,J0,J0,[]),(J1,J0,J0,[]),(J33,J2,J0,[]),(J1,J0,J0,[]),(J40,J0,J0,[]),(J1,J0,J0,[]),(J33,J1,J0,[]),(J1,J0,J0,[]),(J11,J0,J0,[88]),(J11,J0,J0,[65]),(J15,J0,J0,[]),(J12,J1,J0,[67]),(J2,J0,J0,[]),(J16,J0,J0,[]),(J20,J0,J0,[]),(J21,J1,J0,[]),(J3,J0,J0,[]),(J1,J0,J0,[]),(J2,J0,J0,[49]),(J31,J0,J0,[]),(J1,J0,J0,[]),(J11,J0,J0,[65]),(J15,J0,J0,[]),(J12,J1,J0,[67]),(J11,J0,J0,[88]),(J15,J0,J0,[]),(J11,J0,J0,[78]),(J15,J0,J0,[]),(J5,J0,J0,[43]),(J20,J0,J0,[]),(J21,J1,J0,[]),(J3,J0,J0,[]),(J1,J0,J0,[]),(J33,J2,J0,[]),(J1,J0,J0,[]),(J40,J0,J0,[]),(J40,J0,J0,[])],[([74,79,66],[],J0,[[65],[78]]),([74,79,66],[65,68,68],J0,[[65],[78]]),([74,79,66],[77,79,86,69],J21,[[65],[78]]),([74,79,66],[82,65,87],J54,[[65],[78]]),([74,79,66],[72,69,76,68],(J 71),[[65],[78]]),([74,79,66],[84,82,89],(J 98),[[65],[78]]),([74,79,66],[66,79,84,72],J 114,[[65],[78]]),([74,79,66],[83,85,77],J 140,[[65],[78]]),([74,79,66],[65,83,75],J 193,[[65],[78]]),([74,79,66],[83,80,73,78],J 215,[[65],[78]]),([74,79,66],[82,79,76,76],J 250,[[65],[78]]),([74,79,66],[66,65,68],J 270,[[65],[78]]),([74,79,66],[78,69,83,84],J 288,[[65],[78]]),([74,79,66],[83,76,79,87],J 319,[[65],[78]])])
theorem r119:runAll Bn [kLine] EX 60 169 pRt pPr [((src_,()),(prg_,()))]=true:=kr
theorem r118:runAll Bn [kLine] EX 60 168 pRt pInt [((src_,()),(J0,()))]=true:=kr
abbrev N (n:Nat):Int:=.ofNat n
def zM_:den zMachine:=((N 0),(N 0),[],[],[],[],[],((N 0),[],[],[]),false,false,(false,[],[]),(N 0),(N 0),(N 0),(N 0),[])
def fr_:den (.sl zFrame):=[((N 0),false,false,(N 0),(N 0),(N 0),(N 0),[],[74,79,66])]
def lo_ (c:Nat):den zLocals:=((N 3),[([65],(N 1)),([78],(N 2))],[((N 1),[([118],[],[49])]),((N 2),[([118],[],[c])])],[[([65],(N 0)),([78],(N 0))]])
def sv_ (c:Nat):den zMachine:=((N 1),(N 252),[],[],[],[],fr_,(lo_ c),false,false,(false,[],[]),(N 0),(N 1),(N 0),(N 0),[])
def vJs (k c:Nat):List (den zJob):=[
 ((N k),((N 1),(N 250),[],[],[],[],fr_,(lo_ c),false,false,(false,[],[]),(N 0),(N 0),(N 0),(N 0),[]),((N 0),(N 0),[]),zM_,[],[],[],(N 0),[],[]),
 ((N k),((N 1),(N 251),[],[],[],[],fr_,(lo_ c),false,false,(false,[],[]),(N 0),(N 0),(N 0),(N 0),[]),((N 0),(N 0),[]),zM_,[],[],[],(N 0),[],[]),
 ((N k),(sv_ c),((N 1),(N 0),[]),(sv_ c),[],[],[],(N 0),[],[]),
 ((N k),((N 1),(N 253),[],[],[],[],fr_,(lo_ c),false,false,(false,[],[]),(N 0),(N 1),(N 0),(N 0),[]),((N 1),(N 0),[]),(sv_ c),[],[],[],(N 0),[],[]),
 ((N k),((N 1),(N 254),[],[(false,[65],[])],[],[],fr_,(lo_ c),false,false,(false,[],[]),(N 0),(N 1),(N 0),(N 0),[]),((N 1),(N 0),[]),(sv_ c),[],[],[],(N 0),[],[]),
 ((N k),((N 1),(N 255),[[49]],[],[],[],fr_,(lo_ c),false,false,(false,[],[]),(N 0),(N 1),(N 0),(N 0),[]),((N 1),(N 0),[]),(sv_ c),[],[],[],(N 0),[],[]),
 ((N k),((N 1),(N 256),[],[(true,[67],[[49]])],[],[],fr_,(lo_ c),false,false,(false,[],[]),(N 0),(N 1),(N 0),(N 0),[]),((N 1),(N 0),[]),(sv_ c),[],[],[],(N 0),[],[]),
 ((N k),((N 1),(N 257),[[55]],[(true,[67],[[49]])],[],[],fr_,(lo_ c),false,false,(false,[],[]),(N 0),(N 1),(N 0),(N 0),[]),((N 1),(N 0),[]),(sv_ c),[],[],[],(N 0),[],[]),
 ((N k),((N 1),(N 258),[[55]],[(true,[67],[[49]])],[],[],fr_,(lo_ c),false,true,(true,[67],[]),(N 0),(N 1),(N 0),(N 0),[]),((N 1),(N 0),[((N 2),[67],[[49]],[55],(N 0))]),(sv_ c),[],[],[],(N 0),[],[]),
 ((N k),((N 1),(N 259),[[55]],[],[],[],fr_,(lo_ c),false,true,(true,[67],[]),(N 0),(N 1),(N 0),(N 0),[]),((N 1),(N 0),[((N 2),[67],[[49]],[55],(N 0))]),(sv_ c),[],[],[],(N 0),[],[]),
 ((N k),((N 1),(N 260),[],[],[],[],fr_,(lo_ c),false,true,(true,[67],[]),(N 0),(N 1),(N 0),(N 0),[]),((N 1),(N 0),[((N 2),[67],[[49]],[55],(N 0))]),(sv_ c),[],[],[],(N 0),[],[]),
 ((N k),((N 1),(N 261),[],[],[],[],fr_,(lo_ c),false,true,(true,[67],[]),(N 0),(N 1),(N 0),(N 0),[]),((N 1),(N 0),[((N 2),[67],[[49]],[55],(N 0))]),(sv_ c),[],[],[],(N 0),[],[]),
 ((N k),((N 1),(N 262),[],[],[],[],fr_,(lo_ c),false,true,(true,[67],[]),(N 0),(N 0),(N 0),(N 0),[]),((N 0),(N 0),[]),zM_,[],[],[],(N 0),[],[]),
 ((N k),((N 1),(N 263),[],[],[],[],fr_,(lo_ c),false,true,(true,[67],[]),(N 0),(N 0),(N 0),(N 0),[]),((N 0),(N 0),[]),zM_,[],[],[],(N 0),[],[]),
 ((N k),((N 1),(N 264),[],[(false,[65],[])],[],[],fr_,(lo_ c),false,true,(true,[67],[]),(N 0),(N 0),(N 0),(N 0),[]),((N 0),(N 0),[]),zM_,[],[],[],(N 0),[],[]),
 ((N k),((N 1),(N 265),[[49]],[],[],[],fr_,(lo_ c),false,true,(true,[67],[]),(N 0),(N 0),(N 0),(N 0),[]),((N 0),(N 0),[]),zM_,[],[],[],(N 0),[],[]),
 ((N k),((N 1),(N 266),[],[(true,[67],[[49]])],[],[],fr_,(lo_ c),false,true,(true,[67],[]),(N 0),(N 0),(N 0),(N 0),[]),((N 0),(N 0),[]),zM_,[],[],[],(N 0),[],[]),
 ((N k),((N 1),(N 267),[[49]],[],[],[],fr_,(lo_ c),false,true,(true,[67],[]),(N 0),(N 0),(N 0),(N 0),[]),((N 0),(N 0),[]),zM_,[],[],[],(N 0),[],[]),
 ((N k),((N 1),(N 268),[],[],[],[],fr_,(lo_ c),false,true,(true,[67],[]),(N 0),(N 0),(N 0),(N 0),[]),((N 0),(N 0),[]),zM_,[],[],[],(N 0),[],[49]),
 ((N k),((N 1),(N 269),[],[],[],[],fr_,(lo_ c),false,true,(true,[67],[]),(N 0),(N 0),(N 0),(N 0),[]),((N 0),(N 0),[]),zM_,[],[],[],(N 0),[],[49]),
 ((N k),((N 3),(N 0),[],[],[],[],[],((N 1),[],[],[]),false,false,(false,[],[]),(N 0),(N 0),(N 0),(N 0),[]),((N 0),(N 0),[]),zM_,[],[],[],(N 0),[],[49])]
def nthD {α:Type} (d:α) (l:List α) (i:Nat):α:=Option.rec d (fun x=>x) (nth l i)
def vJ (p k c:Nat):den zJob:=nthD (N k,zM_,(N 0,N 0,[]),zM_,[],[],[],N 0,[],[49]) (vJs k c) p
def setN {α:Type} (x:α):Nat→List α→List α:=Nat.rec (List.rec [] (fun _ r _=>x::r)) (fun _ ih=>List.rec [] (fun y r _=>y::ih r))
def sAV {t:Ty} (id:Id) (f:Bool) (xs:List (den t)):AV:=List.rec (cd f (.sl id 0 (wd t) 0 0 false) .em) (fun _ _ _=>.sl id 0 (wd t) (U xs) (U xs) false) xs
def sBk {t:Ty} (el:TypeId) (f:Bool) (xs:List (den t)):Blk:=List.rec (cd f (.cs el [] false) .dead) (fun _ _ _=>.cs el (flatT t xs) false) xs
def stkOf (v:den zJob):List (List Nat):=v.2.1.2.2.1
def refOf (v:den zJob):List (den zRef):=v.2.1.2.2.2.1
def evtOf (v:den zJob):List (den zEvent):=v.2.2.1.2.2
def jobL (p:Nat) (f1 f2:Bool) (k c:Nat):List AV:=
 setN (sAV (t:=.str) (path (Nat.add 40 (Nat.mul 3 k))) f1 (stkOf (vJ p k c))) 3 (setN (sAV (t:=zRef) (path (Nat.add 41 (Nat.mul 3 k))) f2 (refOf (vJ p k c))) 4 (setN (sAV (t:=zEvent) (path (Nat.add 42 (Nat.mul 3 k))) false (evtOf (vJ p k c))) 24 (tc zJob (vJ p k c))))
structure JS where
 p:Nat
 f1:Bool
 f2:Bool
def jX (j:JS) (k c:Nat) (i:Nat):AV:=nthD .em (jobL j.p j.f1 j.f2 k c) i
def cells52 (X:Nat→AV):List AV:=[X 0,X 1,X 2,X 3,X 4,X 5,X 6,X 7,X 8,X 9,X 10,X 11,X 12,X 13,X 14,X 15,X 16,X 17,X 18,X 19,X 20,X 21,X 22,X 23,X 24,X 25,X 26,X 27,X 28,X 29,X 30,X 31,X 32,X 33,X 34,X 35,X 36,X 37,X 38,X 39,X 40,X 41,X 42,X 43,X 44,X 45,X 46,X 47,X 48,X 49,X 50,X 51]
def jB (j:JS) (k c:Nat):List (Option Blk):=[some (sBk (t:=.str) 9 j.f1 (stkOf (vJ j.p k c))),some (sBk (t:=zRef) 80 j.f2 (refOf (vJ j.p k c))),some (sBk (t:=zEvent) 135 false (evtOf (vJ j.p k c)))]
structure WS where
 j1:JS
 j2:JS
 j3:JS
 t:Nat
 bs:List (den zBatch)
def tr_:den (.sl zNode):=[([67],[[49]],[49,48])]
def wL (t:Nat) (bs:List (den zBatch)):List AV:=[.i .i64 (N t),.isl zIns prg_.1,.isl zEntry prg_.2,.isl zTrigger [],.isl zNode tr_,.isl zLock [],.isl zLock [],.sl (path 41) 0 52 3 3 false,.i .i64 (N 0),sAV (t:=zBatch) (path 42) false bs]
def jsL (c1 c2 c3:Nat) (a:WS):List AV:=cat (cells52 (jX a.j1 1 c1)) (cat (cells52 (jX a.j2 2 c2)) (cells52 (jX a.j3 3 c3)))
def C12 (c1 c2 c3:Nat) (a:WS):List (Option Blk):=
 some (.cs 39 (wL a.t a.bs) false)::some (.cs 87 (jsL c1 c2 c3 a) false)::some (sBk (t:=zBatch) 121 false a.bs)::cat (jB a.j1 1 c1) (cat (jB a.j2 2 c2) (jB a.j3 3 c3))
abbrev nilS:AV:=.v (.slice none 0 0)
def zW_:List AV:=[.i .i64 (N 0),nilS,nilS,nilS,nilS,nilS,nilS,nilS,.i .i64 (N 0),nilS]
def pre_:List (Option Blk):=some .dead::some (.cs 39 zW_ false)::[some .dead,some .dead,some .dead,some .dead,some .dead,some .dead,some .dead,some .dead,some .dead,some .dead,some .dead,some .dead,some .dead,some .dead,some .dead,some .dead,some .dead,some .dead,some .dead,some .dead,some .dead,some .dead,some .dead,some .dead,some .dead,some .dead,some .dead,some .dead,some .dead,some .dead,some .dead,some .dead,some .dead,some .dead,some .dead,some .dead,some .dead,some .dead]
def Cn (c1 c2 c3:Nat) (a:WS):List (Option Blk):=cat pre_ (C12 c1 c2 c3 a)
def Hd (c1 c2 c3:Nat) (a:WS):H:=hpH 53 (cat (Cn c1 c2 c3 a) [some .dead])
def kdT (t:Ty):List Kdc:=Ty.rec (fun _=>[.sc]) [.sc] [.sc] [] (fun _ _ a b=>cat a b) (fun t _=>[.fz t]) (fun _ _=>[.sc]) (fun _ _ _=>[.sc]) t
def kJob (k:Nat):List Kdc:=setN (.ow (path (Nat.add 40 (Nat.mul 3 k)))) 3 (setN (.ow (path (Nat.add 41 (Nat.mul 3 k)))) 4 (setN (.ow (path (Nat.add 42 (Nat.mul 3 k)))) 24 (kdT zJob)))
def ot52:List Kdc:=repN 52 .ot where
 repN:Nat→Kdc→List Kdc:=fun n k=>Nat.rec [] (fun _ r=>k::r) n
def repK (n:Nat) (ks:List Kdc):List Kdc:=Nat.rec [] (fun _ r=>cat ks r) n
def spSl (el:TypeId) (ks:List Kdc) (x:AV):Spc:=@AV.casesOn (fun _=>Spc) x (fun _ _=>.dd) (fun _=>.dd) (fun _ _=>.dd) (fun _=>.dd) (fun _ _=>.dd) (fun id _ _ n _ _=>.blk id el (repK n ks)) .dd (fun _ _=>.dd) (fun _ _ _=>.dd) (fun _ _ _=>.dd) (fun _ _=>.dd) (fun _=>.dd) (fun _=>.dd) (fun _=>.dd) .dd
def jSp (k i:Nat) (l:List AV):List Spc:=cd (Nat.beq k i)
 [spSl 9 [.sc] (nthD .em l (Nat.add (Nat.mul 52 (Nat.pred k)) 3)),spSl 80 (kdT zRef) (nthD .em l (Nat.add (Nat.mul 52 (Nat.pred k)) 4)),spSl 135 (kdT zEvent) (nthD .em l (Nat.add (Nat.mul 52 (Nat.pred k)) 24))] [.lv,.lv,.lv]
def kJs (k i:Nat):List Kdc:=cd (Nat.beq k i) (kJob k) ot52
def kW (b:Bool):List Kdc:=[.sc,.fz zIns,.fz zEntry,.fz zTrigger,.fz zNode,.fz zLock,.fz zLock,.fx,.sc,cd b (.ow (path 42)) .ot]
def preS:List Spc:=.dd::.lv::List.rec [] (fun _ _ r=>.dd::r) (List.replicate 38 0)
def specK (k:Nat) (b:Bool) (h:H):List Spc:=match csOf (h.get (path 41)) 87,csOf (h.get (path 40)) 39 with
 |some l,some w=>cat preS (.blk (path 40) 39 (kW b)::.blk (path 41) 87 (cat (kJs k 1) (cat (kJs k 2) (kJs k 3)))::cd b (spSl 121 (kdT zBatch) (nthD .em w 9)) .lv::cat (jSp k 1 l) (cat (jSp k 2 l) (jSp k 3 l)))
 |_,_=>[]
def sumR (k:Nat) (b:Bool) (r:R):Option (AV×List (Option Blk)):=R.rec none (fun v h=>Option.rec none (fun C=>some (v,C)) (canon (specK k b h) h)) r
def idB (S:List Id):AV→Prop
 |.p id _=>id∈S
 |.sl id _ _ _ _ _=>id∈S
 |.i .. |.b .. |.s .. |.v .. |.em|.isl .. |.ip .. =>True
 |_=>False
theorem idB_ren {S:List Id}{f:Id→Id} (hf:∀id∈S,f id=id):∀{x:AV},idB S x→AV.ren f x=x
 |.p id o,h=>by simp only[AV.ren];rw[hf id h]
 |.sl id ..,h=>by simp only[AV.ren];rw[hf id h]
 |.i ..,_=>by simp only[AV.ren]
 |.b ..,_=>by simp only[AV.ren]
 |.s ..,_=>by simp only[AV.ren]
 |.v ..,_=>by simp only[AV.ren]
 |.em,_=>by simp only[AV.ren]
 |.isl ..,_=>by simp only[AV.ren]
 |.ip ..,_=>by simp only[AV.ren]
theorem idB_one {S:List Id}:∀{x:AV},idB S x→one x=true
 |.p ..,_=>rfl
 |.sl ..,_=>rfl
 |.i ..,_=>rfl
 |.b ..,_=>rfl
 |.s ..,_=>rfl
 |.v ..,_=>rfl
 |.em,_=>rfl
 |.isl ..,_=>rfl
 |.ip ..,_=>rfl
theorem idB_avOk {S:List Id}{N:Nat} (hf:∀id∈S,unpath id<N):∀{x:AV},idB S x→avOk N x
 |.p id _,h=>by simp only[avOk];exact hf id h
 |.sl id ..,h=>by simp only[avOk];exact hf id h
 |.i ..,_=>by simp only[avOk]
 |.b ..,_=>by simp only[avOk]
 |.s ..,_=>by simp only[avOk]
 |.v ..,_=>by simp only[avOk]
 |.em,_=>by simp only[avOk]
 |.isl ..,_=>by simp only[avOk]
 |.ip ..,_=>by simp only[avOk]
theorem idB_oth {S:List Id}{N:Nat}{f:Id→Id} (hf:∀id∈S,f id=id) (hN:∀id∈S,unpath id<N){x:AV} (h:idB S x):othA f N x:=⟨idB_ren hf h,idB_one h,idB_avOk hN h⟩
def plainT:Ty→Bool
 |.pair a b=>plainT a&&plainT b
 |.clo _ _=>false
 |_=>true
theorem catA_mem {a b:List AV}{x:AV}:x∈catA a b→x∈a∨x∈b:=by
 induction a with
 |nil=>exact fun h=>.inr h
 |cons y a ih=>
  intro h
  rcases List.mem_cons.1 (show x∈y::catA a b from h) with rfl|h
  ·exact .inl (Mc ..)
  ·rcases ih h with h|h
   ·exact .inl (Loz _ h)
   ·exact .inr h
theorem tc_idB {S:List Id}:∀(t:Ty) (x:den t),plainT t=true→∀y∈tc t x,idB S y
 |.int _,_,_,y,h=>by obtain rfl:=List.mem_singleton.1 h;trivial
 |.bool,_,_,y,h=>by obtain rfl:=List.mem_singleton.1 h;trivial
 |.str,_,_,y,h=>by obtain rfl:=List.mem_singleton.1 h;trivial
 |.unit,_,_,y,h=>by cases h
 |.pair a b,x,hp,y,h=>by
  simp only[plainT,Bool.and_eq_true] at hp
  rcases catA_mem (show y∈catA (tc a x.1) (tc b x.2) from h) with h|h
  ·exact tc_idB a x.1 hp.1 y h
  ·exact tc_idB b x.2 hp.2 y h
 |.sl _,_,_,y,h=>by obtain rfl:=List.mem_singleton.1 h;trivial
 |.ptr _,_,_,y,h=>by obtain rfl:=List.mem_singleton.1 h;trivial
 |.clo _ _,_,hp,_,_=>by cases hp
theorem flatT_idB {S:List Id}{t:Ty} (hp:plainT t=true){xs:List (den t)}:∀y∈flatT t xs,idB S y:=fun y h=>by
 unfold flatT at h
 obtain⟨l,hl,hy⟩:=List.mem_flatten.1 h
 obtain⟨x,_,rfl⟩:=List.mem_map.1 hl
 exact tc_idB t x hp y hy
theorem setN_mem {α:Type}{x y:α}:∀{i:Nat}{l:List α},y∈setN x i l→y=x∨y∈l
 |_,[],h=>by
  rename_i i
  cases i<;>cases h
 |0,z::l,h=>by
  rcases List.mem_cons.1 (show y∈x::l from h) with h|h
  ·exact .inl h
  ·exact .inr (Loz _ h)
 |i+1,z::l,h=>by
  rcases List.mem_cons.1 (show y∈z::setN x i l from h) with rfl|h
  ·exact .inr (Mc ..)
  ·rcases setN_mem h with h|h
   ·exact .inl h
   ·exact .inr (Loz _ h)
theorem sAV_idB {S:List Id}{t:Ty}{id:Id}{f:Bool}{xs:List (den t)} (h:id∈S):idB S (sAV id f xs):=by
 cases xs with
 |nil=>cases f<;>first|exact h|trivial
 |cons x xs=>exact h
def slots (k:Nat):List Id:=[path (Nat.add 40 (Nat.mul 3 k)),path (Nat.add 41 (Nat.mul 3 k)),path (Nat.add 42 (Nat.mul 3 k))]
theorem jobL_idB {p k c:Nat}{f1 f2:Bool}:∀y∈jobL p f1 f2 k c,idB (slots k) y:=fun y h=>by
 unfold jobL at h
 rcases setN_mem h with rfl|h
 ·exact sAV_idB (by simp[slots])
 rcases setN_mem h with rfl|h
 ·exact sAV_idB (by simp[slots])
 rcases setN_mem h with rfl|h
 ·exact sAV_idB (by simp[slots])
 exact tc_idB zJob _ (by decide) y h
theorem nthD_mem {α:Type}{d:α}{l:List α}{i:Nat}:nthD d l i=d∨nthD d l i∈l:=by
 unfold nthD
 rw[nth_eq]
 cases h:l[i]? with
 |none=>exact .inl rfl
 |some x=>exact .inr (List.mem_of_getElem? h)
theorem jX_idB {j:JS}{k c i:Nat}:idB (slots k) (jX j k c i):=by
 unfold jX
 rcases nthD_mem (d:=AV.em) (l:=jobL j.p j.f1 j.f2 k c) (i:=i) with h|h
 ·rw[h];trivial
 ·exact jobL_idB _ h
theorem cells52_idB {S:List Id}{X:Nat→AV} (h:∀i,idB S (X i)):∀y∈cells52 X,idB S y:=fun y hy=>by
 unfold cells52 at hy
 simp only[List.mem_cons,List.not_mem_nil,or_false] at hy
 rcases hy with rfl|hy
 ·exact h _
 ·repeat (first|(rcases hy with rfl|hy;exact h _)|(subst hy;exact h _))
theorem sBk_ren {t:Ty} (hp:plainT t=true){el:TypeId}{f:Bool}{xs:List (den t)} (g:Id→Id):(sBk el f xs).ren g=sBk el f xs:=by
 have key:∀l:List AV,(∀y∈l,idB [] y)→AV.renL g l=l:=fun l=>by
  induction l with
  |nil=>intro _;simp only[AV.renL]
  |cons x l ih=>
   intro h
   simp only[AV.renL]
   rw[idB_ren (S:=[]) (fun _ h=>by cases h) (h x (Mc ..)),ih fun y hy=>h y (Loz _ hy)]
 cases xs with
 |nil=>cases f<;>rfl
 |cons x xs=>
  show Blk.cs el (AV.renL g (flatT t (x::xs))) false=_
  rw[key _ (flatT_idB hp)];rfl
theorem sBk_ok {t:Ty} (hp:plainT t=true){el:TypeId}{f:Bool}{xs:List (den t)} (N:Nat):blkOk N (some (sBk el f xs)):=by
 cases xs with
 |nil=>cases f<;>simp[sBk,blkOk,avOkL,cd]
 |cons x xs=>
  show avOkL N (flatT t (x::xs))
  exact avOkL_all fun y hy=>idB_avOk (S:=[]) (fun _ h=>by cases h) (flatT_idB hp y hy)
def okSlot:AV→Prop
 |.p id _=>id=path 40∨id=path 1
 |.sl id _ _ _ _ _=>id=path 41
 |.i .. |.b .. |.s .. |.v .. |.em|.isl .. |.ip .. =>True
 |_=>False
def EndW (C:List (Option Blk)) (h:H):Prop:=
 ∀(L:List (List Bool×AV)) (fr:T AV),(∀q∈L,okSlot q.2)→Holds fr L→EndC 0 L C fr h
theorem preS_len:preS.length=40:=kr
theorem pre_len:pre_.length=40:=kr
theorem preS_lt {i:Nat} (h:i<40):preS[i]? =some .dd∨(i=1∧preS[i]? =some .lv):=by
 have key:(List.range 40).all (fun i=>match preS[i]? with
  |some .dd=>true
  |some .lv=>Nat.beq i 1
  |_=>false)=true:=kr
 have:=List.all_eq_true.1 key i (List.mem_range.2 h)
 split at this
 ·rename_i h2;exact .inl h2
 ·rename_i h2;exact .inr ⟨Nq this,h2⟩
 ·cases this
theorem cat_get {α:Type} (a b:List α) (n:Nat) (hn:a.length=n) (i:Nat):(cat a b)[i]? =if i<n then a[i]? else b[i - n]? :=by
 rw[cat_eq,List.getElem?_append,hn]
theorem spSl_cases (el:TypeId) (ks:List Kdc) (x:AV):spSl el ks x=.dd∨∃id n,spSl el ks x=.blk id el (repK n ks):=by
 cases x<;>first|exact .inl rfl|exact .inr ⟨_,_,rfl⟩
theorem repK_mem {n:Nat}{ks:List Kdc}{k:Kdc}:k∈repK n ks→k∈ks:=by
 induction n with
 |zero=>intro h;cases h
 |succ n ih=>
  intro h
  have h:k∈cat ks (repK n ks):=h
  rw[cat_eq] at h
  rcases List.mem_append.1 h with h|h
  ·exact h
  ·exact ih h
theorem othK_sl {el:TypeId}{ks:List Kdc}{x:AV}{src:Id}{el':TypeId}{ks':List Kdc} (h:spSl el ks x=.blk src el' ks'):∀k∈ks',k∈ks:=by
 rcases spSl_cases el ks x with h1|⟨id,n,h1⟩
 ·rw[h1] at h;cases h
 ·rw[h1] at h
  injection h with _ _ h3
  subst h3
  exact fun k hk=>repK_mem hk
theorem sl_nlv {el:TypeId}{ks:List Kdc}{x:AV}:spSl el ks x≠.lv:=by
 rcases spSl_cases el ks x with h1|⟨id,n,h1⟩<;>rw[h1]<;>intro h<;>cases h
section
variable {c1 c2 c3:Nat}
theorem Cn_get (a:WS) (i:Nat):(Cn c1 c2 c3 a)[i]? =if i<40 then pre_[i]? else(C12 c1 c2 c3 a)[i - 40]? :=cat_get _ _ 40 pre_len i
def spMid (k:Nat) (b:Bool) (l w:List AV):List Spc:=.blk (path 40) 39 (kW b)::.blk (path 41) 87 (cat (kJs k 1) (cat (kJs k 2) (kJs k 3)))::cd b (spSl 121 (kdT zBatch) (nthD .em w 9)) .lv::cat (jSp k 1 l) (cat (jSp k 2 l) (jSp k 3 l))
theorem specK_shape {k:Nat}{b:Bool}{h:H}{C:List (Option Blk)} (hc:canon (specK k b h) h=some C) (hC:C≠[]):∃l w,specK k b h=cat preS (spMid k b l w):=by
 unfold specK at hc⊢
 split
 ·rename_i l w h1 h2
  exact⟨l,w,rfl⟩
 ·rename_i hno
  exfalso
  split at hc
  ·rename_i l w h1 h2
   exact hno l w h1 h2
  ·have:canon [] h=some []:=rfl
   rw[this] at hc
   exact hC (Oi hc).symm
def plainK (ks:List Kdc):Prop:=∀k∈ks,k=.sc∨∃t,k=.fz t
theorem kdT_plain:∀(t:Ty),plainK (kdT t)
 |.int _=>fun k h=>.inl (List.mem_singleton.1 h)
 |.bool=>fun k h=>.inl (List.mem_singleton.1 h)
 |.str=>fun k h=>.inl (List.mem_singleton.1 h)
 |.unit=>fun k h=>by cases h
 |.pair a b=>fun k h=>by
  have h:k∈cat (kdT a) (kdT b):=h
  rw[cat_eq] at h
  exact(List.mem_append.1 h).elim (kdT_plain a k) (kdT_plain b k)
 |.sl t=>fun k h=>.inr ⟨t,List.mem_singleton.1 h⟩
 |.ptr _=>fun k h=>.inl (List.mem_singleton.1 h)
 |.clo _ _=>fun k h=>.inl (List.mem_singleton.1 h)
abbrev spA (b:Bool):Spc:=.blk (path 40) 39 (kW b)
abbrev spB (k:Nat):Spc:=.blk (path 41) 87 (cat (kJs k 1) (cat (kJs k 2) (kJs k 3)))
theorem mid_get {k:Nat}{b:Bool} (hk:k=0∨k=1∨k=2∨k=3) (l w:List AV) (j:Nat) (s:Spc) (h:(spMid k b l w)[j]? =some s):
 (j=0∧s=spA b)∨(j=1∧s=spB k)∨(s=.lv∧2≤j∧j<12)∨(2≤j∧j<12∧∃el ks x,s=spSl el ks x∧plainK ks):=by
 have p1:plainK [.sc]:=fun k h=>.inl (List.mem_singleton.1 h)
 have sl:∀(el:TypeId) (ks:List Kdc) (x:AV),plainK ks→some (spSl el ks x)=some s→∃el ks x,s=spSl el ks x∧plainK ks:=fun el ks x hp h=>⟨el,ks,x,(Oi h).symm,hp⟩
 match j,h with
 |0,h=>exact .inl ⟨rfl,(Oi h).symm⟩
 |1,h=>exact .inr (.inl ⟨rfl,(Oi h).symm⟩)
 |2,h=>cases b with
  |false=>exact .inr (.inr (.inl ⟨(Oi h).symm,om,om⟩))
  |true=>exact .inr (.inr (.inr ⟨om,om,sl _ _ _ (kdT_plain _) h⟩))
 |3,h=>rcases hk with rfl|rfl|rfl|rfl<;>first|exact .inr (.inr (.inl ⟨(Oi h).symm,om,om⟩))|exact .inr (.inr (.inr ⟨om,om,sl _ _ _ p1 h⟩))
 |4,h=>rcases hk with rfl|rfl|rfl|rfl<;>first|exact .inr (.inr (.inl ⟨(Oi h).symm,om,om⟩))|exact .inr (.inr (.inr ⟨om,om,sl _ _ _ (kdT_plain _) h⟩))
 |5,h=>rcases hk with rfl|rfl|rfl|rfl<;>first|exact .inr (.inr (.inl ⟨(Oi h).symm,om,om⟩))|exact .inr (.inr (.inr ⟨om,om,sl _ _ _ (kdT_plain _) h⟩))
 |6,h=>rcases hk with rfl|rfl|rfl|rfl<;>first|exact .inr (.inr (.inl ⟨(Oi h).symm,om,om⟩))|exact .inr (.inr (.inr ⟨om,om,sl _ _ _ p1 h⟩))
 |7,h=>rcases hk with rfl|rfl|rfl|rfl<;>first|exact .inr (.inr (.inl ⟨(Oi h).symm,om,om⟩))|exact .inr (.inr (.inr ⟨om,om,sl _ _ _ (kdT_plain _) h⟩))
 |8,h=>rcases hk with rfl|rfl|rfl|rfl<;>first|exact .inr (.inr (.inl ⟨(Oi h).symm,om,om⟩))|exact .inr (.inr (.inr ⟨om,om,sl _ _ _ (kdT_plain _) h⟩))
 |9,h=>rcases hk with rfl|rfl|rfl|rfl<;>first|exact .inr (.inr (.inl ⟨(Oi h).symm,om,om⟩))|exact .inr (.inr (.inr ⟨om,om,sl _ _ _ p1 h⟩))
 |10,h=>rcases hk with rfl|rfl|rfl|rfl<;>first|exact .inr (.inr (.inl ⟨(Oi h).symm,om,om⟩))|exact .inr (.inr (.inr ⟨om,om,sl _ _ _ (kdT_plain _) h⟩))
 |11,h=>rcases hk with rfl|rfl|rfl|rfl<;>first|exact .inr (.inr (.inl ⟨(Oi h).symm,om,om⟩))|exact .inr (.inr (.inr ⟨om,om,sl _ _ _ (kdT_plain _) h⟩))
 |j+12,h=>rcases hk with rfl|rfl|rfl|rfl<;>cases h
theorem C12_get (a:WS) (j:Nat) (c:Option Blk) (h:(C12 c1 c2 c3 a)[j]? =some c):
 (j=0∧c=some (.cs 39 (wL a.t a.bs) false))∨(j=1∧c=some (.cs 87 (jsL c1 c2 c3 a) false))∨(2≤j∧∃(t:Ty) (el:TypeId) (f:Bool) (xs:List (den t)),plainT t=true∧c=some (sBk el f xs)):=by
 have sb:∀(t:Ty) (el:TypeId) (f:Bool) (xs:List (den t)),plainT t=true→some (some (sBk el f xs))=some c→∃(t:Ty) (el:TypeId) (f:Bool) (xs:List (den t)),plainT t=true∧c=some (sBk el f xs):=fun t el f xs hp h=>⟨t,el,f,xs,hp,(Oi h).symm⟩
 match j,h with
 |0,h=>exact .inl ⟨rfl,(Oi h).symm⟩
 |1,h=>exact .inr (.inl ⟨rfl,(Oi h).symm⟩)
 |2,h=>exact .inr (.inr ⟨om,sb _ _ _ _ (by decide) h⟩)
 |3,h=>exact .inr (.inr ⟨om,sb .str _ _ _ rfl h⟩)
 |4,h=>exact .inr (.inr ⟨om,sb zRef _ _ _ rfl h⟩)
 |5,h=>exact .inr (.inr ⟨om,sb zEvent _ _ _ rfl h⟩)
 |6,h=>exact .inr (.inr ⟨om,sb .str _ _ _ rfl h⟩)
 |7,h=>exact .inr (.inr ⟨om,sb zRef _ _ _ rfl h⟩)
 |8,h=>exact .inr (.inr ⟨om,sb zEvent _ _ _ rfl h⟩)
 |9,h=>exact .inr (.inr ⟨om,sb .str _ _ _ rfl h⟩)
 |10,h=>exact .inr (.inr ⟨om,sb zRef _ _ _ rfl h⟩)
 |11,h=>exact .inr (.inr ⟨om,sb zEvent _ _ _ rfl h⟩)
 |j+12,h=>cases h
theorem pre_get (i:Nat) (c:Option Blk) (h:pre_[i]? =some c):(c=some .dead)∨(i=1∧c=some (.cs 39 zW_ false)):=by
 have hi:i<40:=by rw[←pre_len];exact(List.getElem?_eq_some_iff.1 h).1
 by_cases h1:i=1
 ·subst h1;exact .inr ⟨rfl,(Oi h).symm⟩
 ·left
  have key:∀i,i<40→i≠1→pre_[i]? =some (some .dead):=fun i h0 h1=>by
   match i,h0,h1 with
   |0,_,_=>rfl
   |i+2,h0,_=>
    have e:pre_=some .dead::some (.cs 39 zW_ false)::List.replicate 38 (some .dead):=rfl
    rw[e]
    show(List.replicate 38 (some Blk.dead))[i]? =_
    rw[List.getElem?_replicate,if_pos om]
  rw[key i hi h1] at h
  exact(Oi h).symm
theorem wL_idB {t:Nat}{bs:List (den zBatch)}:∀y∈wL t bs,idB [path 41,path 42] y:=fun y h=>by
 unfold wL at h
 simp only[List.mem_cons,List.not_mem_nil,or_false] at h
 rcases h with rfl|rfl|rfl|rfl|rfl|rfl|rfl|rfl|rfl|rfl<;>first|trivial|exact Mc .. |exact sAV_idB (by simp)
theorem cells52_len (X:Nat→AV):(cells52 X).length=52:=rfl
theorem jsL_get {a:WS}{jj:Nat}{x:AV} (h:(jsL c1 c2 c3 a)[jj]? =some x):idB (slots (jj / 52+1)) x:=by
 unfold jsL at h
 rw[cat_get _ _ 52 (cells52_len _)] at h
 split at h
 ·rename_i h1
  rw[show jj / 52+1=1 by omega]
  exact cells52_idB (fun i=>jX_idB) _ (List.mem_of_getElem? h)
 ·rw[cat_get _ _ 52 (cells52_len _)] at h
  split at h
  ·rw[show jj / 52+1=2 by omega]
   exact cells52_idB (fun i=>jX_idB) _ (List.mem_of_getElem? h)
  ·have hl:=(List.getElem?_eq_some_iff.1 h).1
   rw[cells52_len] at hl
   rw[show jj / 52+1=3 by omega]
   exact cells52_idB (fun i=>jX_idB) _ (List.mem_of_getElem? h)
theorem jsL_len {a:WS}:(jsL c1 c2 c3 a).length=156:=rfl
theorem ot_job {k:Nat} (hk:k=0∨k=1∨k=2∨k=3){jj:Nat} (h:(cat (kJs k 1) (cat (kJs k 2) (kJs k 3)))[jj]? =some .ot) (hj:jj<156):jj / 52+1≠k:=by
 have key:∀k,k=0∨k=1∨k=2∨k=3→(List.range 156).all (fun jj=>match(cat (kJs k 1) (cat (kJs k 2) (kJs k 3)))[jj]? with
  |some .ot=> !Nat.beq (jj / 52+1) k
  |_=>true)=true:=fun k hk=>by rcases hk with rfl|rfl|rfl|rfl<;>kernel_rfl
 have:=List.all_eq_true.1 (key k hk) jj (List.mem_range.2 hj)
 rw[h] at this
 intro he
 rw[he] at this
 simp at this
theorem kW_ot {jj:Nat}{b:Bool} (h:(kW b)[jj]? =some .ot):jj=9∧b=false:=by
 match jj,h with
 |0,h=>cases h
 |1,h=>cases h
 |2,h=>cases h
 |3,h=>cases h
 |4,h=>cases h
 |5,h=>cases h
 |6,h=>cases h
 |7,h=>cases h
 |8,h=>cases h
 |9,h=>cases b with
  |false=>exact⟨rfl,rfl⟩
  |true=>cases h
 |j+10,h=>cases h
theorem slots_lt {i:Nat} (h1:1≤i) (h3:i≤3):∀id∈slots i,unpath id<52:=fun id h=>by
 unfold slots at h
 simp only[List.mem_cons,List.not_mem_nil,or_false] at h
 rcases h with rfl|rfl|rfl<;>rw[unpath_path]<;>simp only[Nat.add_eq,Nat.mul_eq]<;>omega
def EndWq (C:List (Option Blk)) (h:H):Prop:=
 ∀(L:List (List Bool×AV)) (fr:T AV),(∀q∈L,okSlot q.2)→Holds fr L→∃q:List Id,2≤q.length∧q[0]? =some (path 0)∧q[1]? =some (path 1)∧EndCq 0 q L C fr h
theorem step_endQ {k:Nat}{b:Bool} (hk:k=0∨k=1∨k=2∨k=3){r:R}{v:AV}{a':WS} (h:sumR k b r=some (v,Cn c1 c2 c3 a')):∃h2,r=.ok v h2∧EndWq (Cn c1 c2 c3 a') h2:=by
 cases r with
 |no=>cases h
 |ok v' h2=>
 have h:(Option.rec none (fun C=>some (v',C)) (canon (specK k b h2) h2):Option (AV×List (Option Blk)))=some (v,Cn c1 c2 c3 a'):=h
 cases hc:canon (specK k b h2) h2 with
 |none=>rw[hc] at h;cases h
 |some C=>
 rw[hc] at h
 have h:=Oi h
 injection h with g1 g2
 subst g1 g2
 refine⟨h2,rfl,?_⟩
 obtain⟨l,w,hs⟩:=specK_shape hc (by intro h;cases h)
 rw[hs] at hc
 intro L fr hL hfr
 have hlen:(cat preS (spMid k b l w)).length=52:=by
  rw[cat_eq,La,preS_len]
  rcases hk with rfl|rfl|rfl|rfl<;>cases b<;>rfl
 have hget:∀(i:Nat) (s:Spc),(cat preS (spMid k b l w))[i]? =some s→(i<40∧(s=.dd∨(i=1∧s=.lv)))∨(40≤i∧(spMid k b l w)[i - 40]? =some s):=fun i s hi=>by
  rw[cat_get _ _ 40 preS_len] at hi
  split at hi
  ·rename_i h1
   left
   refine⟨h1,?_⟩
   rcases preS_lt h1 with h3|⟨h3,h4⟩
   ·rw[h3] at hi;exact .inl (Oi hi).symm
   ·rw[h4] at hi;exact .inr ⟨h3,(Oi hi).symm⟩
  ·rename_i h1;exact .inr ⟨om,hi⟩
 have hsrc:∀(i:Nat) (s:Spc),(cat preS (spMid k b l w))[i]? =some s→from1 0 (srcs (cat preS (spMid k b l w)) 0) (path i)=srcOf i s:=fun i s hi=>from1_zero _ _ _ (by rw[srcs_get _ 0 i s hi,Nat.zero_add])
 have at40:∀j,(cat preS (spMid k b l w))[40+j]? =(spMid k b l w)[j]? :=fun j=>by
  rw[cat_get _ _ 40 preS_len,if_neg om,Nat.add_sub_cancel_left]
 have f40:from1 0 (srcs (cat preS (spMid k b l w)) 0) (path 40)=path 40:=hsrc 40 (spA b) (by rw[at40 0];rfl)
 have f41:from1 0 (srcs (cat preS (spMid k b l w)) 0) (path 41)=path 41:=hsrc 41 (spB k) (by rw[at40 1];rfl)
 have f42:b=false→from1 0 (srcs (cat preS (spMid k b l w)) 0) (path 42)=path 42:=fun hb=>hsrc 42 .lv (by rw[at40 2,hb];rfl)
 have f1:from1 0 (srcs (cat preS (spMid k b l w)) 0) (path 1)=path 1:=hsrc 1 .lv (by rw[cat_get _ _ 40 preS_len];rfl)
 have fsl:∀i,1≤i→i≤3→i≠k→∀id∈slots i,from1 0 (srcs (cat preS (spMid k b l w)) 0) id=id:=fun i h1 h3 hne id hid=>by
  have hlv:∀j,j<3→(spMid k b l w)[3*i+j]? =some .lv:=fun j hj=>by
   have hi:i=1∨i=2∨i=3:=om
   have hj:j=0∨j=1∨j=2:=om
   rcases hk with rfl|rfl|rfl|rfl<;>rcases hi with rfl|rfl|rfl<;>first|exact absurd rfl hne|(rcases hj with rfl|rfl|rfl<;>rfl)
  unfold slots at hid
  simp only[List.mem_cons,List.not_mem_nil,or_false] at hid
  rcases hid with rfl|rfl|rfl
  ·exact hsrc _ .lv (by simp only[Nat.add_eq,Nat.mul_eq];rw[at40];exact hlv 0 om)
  ·have e:Nat.add 41 (Nat.mul 3 i)=40+(3*i+1):=by simp only[Nat.add_eq,Nat.mul_eq];omega
   rw[e]
   exact hsrc _ .lv (by rw[at40];exact hlv 1 om)
  ·have e:Nat.add 42 (Nat.mul 3 i)=40+(3*i+2):=by simp only[Nat.add_eq,Nat.mul_eq];omega
   rw[e]
   exact hsrc _ .lv (by rw[at40];exact hlv 2 om)
 have hblk:∀(i:Nat) (src:Id) (el:TypeId) (ks:List Kdc),(cat preS (spMid k b l w))[i]? =some (.blk src el ks)→(i=40∧ks=kW b)∨(i=41∧ks=cat (kJs k 1) (cat (kJs k 2) (kJs k 3)))∨plainK ks:=fun i src el ks hi=>by
  rcases hget i _ hi with ⟨_,h1|⟨_,h1⟩⟩|⟨h1,h3⟩
  ·cases h1
  ·cases h1
  ·rcases mid_get hk l w _ _ h3 with ⟨h4,h5⟩|⟨h4,h5⟩|⟨h5,_⟩|⟨_,_,el',ks',x,h5,h6⟩
   ·injection h5 with _ _ h5;exact .inl ⟨om,h5⟩
   ·injection h5 with _ _ h5;exact .inr (.inl ⟨om,h5⟩)
   ·cases h5
   ·exact .inr (.inr fun y hy=>h6 y (othK_sl h5.symm y hy))
 have hcell:∀(i:Nat) (el:TypeId) (l':List AV),(Cn c1 c2 c3 a')[i]? =some (some (.cs el l' false))→(i=40→l'=wL a'.t a'.bs)∧(i=41→l'=jsL c1 c2 c3 a'):=fun i el l' hi=>by
  rw[Cn_get] at hi
  constructor
  ·rintro rfl
   rw[if_neg om] at hi
   have:=Oi (Oi (show some (some (Blk.cs 39 (wL a'.t a'.bs) false))=_ from hi))
   injection this with _ h;exact h.symm
  ·rintro rfl
   rw[if_neg om] at hi
   have:=Oi (Oi (show some (some (Blk.cs 87 (jsL c1 c2 c3 a') false))=_ from hi))
   injection this with _ h;exact h.symm
 have key:∀(j:Nat) (s:Spc),(cat preS (spMid k b l w))[j]? =some s→srcOf j s=path j→(srcs (cat preS (spMid k b l w)) 0)[j]? =some (path j):=fun j s hs he=>by
  rw[srcs_get _ 0 j s hs,Nat.zero_add,he]
 refine⟨srcs (cat preS (spMid k b l w)) 0,by rw[srcs_length,hlen];omega,key 0 .dd (by rw[cat_get _ _ 40 preS_len];rfl) kr,key 1 .lv (by rw[cat_get _ _ 40 preS_len];rfl) rfl,?_⟩
 refine canon_endQ hc ?_ ?_ ?_ ?_ ?_ ?_ ?_
 ·rw[hlen]
  refine List.all_eq_true.2 fun s hsm=>?_
  obtain⟨i,hi⟩:=List.mem_iff_getElem?.1 hsm
  rcases hget i s hi with ⟨_,rfl|⟨_,rfl⟩⟩|⟨_,h3⟩
  ·rfl
  ·rfl
  ·rcases mid_get hk l w _ _ h3 with ⟨_,rfl⟩|⟨_,rfl⟩|⟨rfl,_⟩|⟨_,_,el',ks',x,rfl,h6⟩
   ·cases b<;>kernel_rfl
   ·rcases hk with rfl|rfl|rfl|rfl<;>kernel_rfl
   ·rfl
   ·rcases spSl_cases el' ks' x with h7|⟨id,n,h7⟩
    ·rw[h7];rfl
    ·rw[h7]
     show(repK n ks').all (kdOk 52)=true
     refine List.all_eq_true.2 fun y hy=>?_
     rcases h6 y (repK_mem hy) with rfl|⟨t,rfl⟩<;>rfl
 ·have:∀(L:List (List Bool×AV)),(∀q∈L,okSlot q.2)→Holds fr L→HoldsR fr (from1 0 (srcs (cat preS (spMid k b l w)) 0)) L:=fun L=>by
   induction L with
   |nil=>intro _ _;trivial
   |cons q L ih=>
    intro h1 h3
    refine⟨?_,ih (fun q hq=>h1 q (Loz _ hq)) h3.2⟩
    rw[h3.1]
    have h4:=h1 q (Mc ..)
    cases hq:q.2<;>rw[hq] at h4<;>simp only[okSlot] at h4<;>simp only[AV.ren]
    ·rcases h4 with rfl|rfl
     ·rw[f40]
     ·rw[f1]
    ·subst h4;rw[f41]
  exact this L hL hfr
 ·rw[hlen]
  have:∀(L:List (List Bool×AV)),(∀q∈L,okSlot q.2)→LOk 52 L:=fun L=>by
   induction L with
   |nil=>intro _;trivial
   |cons q L ih=>
    intro h1
    refine⟨?_,ih (fun q hq=>h1 q (Loz _ hq))⟩
    have h4:=h1 q (Mc ..)
    cases hq:q.2<;>rw[hq] at h4<;>simp only[okSlot] at h4<;>simp only[avOk]
    ·rcases h4 with rfl|rfl<;>rw[unpath_path]<;>omega
    ·subst h4;rw[unpath_path];omega
  exact this L hL
 ·intro i src el ks l' j x hi hci hkj hx
  rw[hlen]
  obtain⟨h40,h41⟩:=hcell i el l' hci
  rcases hblk i src el ks hi with ⟨h1,_⟩|⟨h1,_⟩|h1
  ·rw[h40 h1] at hx
   exact idB_avOk (fun id hid=>by simp only[List.mem_cons,List.not_mem_nil,or_false] at hid;rcases hid with rfl|rfl<;>rw[unpath_path]<;>omega) (wL_idB x (List.mem_of_getElem? hx))
  ·rw[h41 h1] at hx
   have hj:j<156:=by rw[←jsL_len (c1:=c1) (c2:=c2) (c3:=c3) (a:=a')];exact(List.getElem?_eq_some_iff.1 hx).1
   exact idB_avOk (slots_lt om om) (jsL_get hx)
  ·rcases h1 _ (List.mem_of_getElem? hkj) with h|⟨t,h⟩<;>cases h
 ·intro i src el ks l' j x hi hci hkj hx
  rw[hlen]
  obtain⟨h40,h41⟩:=hcell i el l' hci
  rcases hblk i src el ks hi with ⟨h1,h3⟩|⟨h1,h3⟩|h1
  ·rw[h3] at hkj
   obtain⟨rfl,hb⟩:=kW_ot hkj
   rw[h40 h1] at hx
   obtain rfl:=Oi (show some (sAV (t:=zBatch) (path 42) false a'.bs)=some x from hx)
   exact idB_oth (S:=[path 42]) (fun id hid=>by rw[List.mem_singleton.1 hid];exact f42 hb) (fun id hid=>by rw[List.mem_singleton.1 hid,unpath_path];omega) (sAV_idB (by simp))
  ·rw[h41 h1] at hx
   rw[h3] at hkj
   have hj:j<156:=by rw[←jsL_len (c1:=c1) (c2:=c2) (c3:=c3) (a:=a')];exact(List.getElem?_eq_some_iff.1 hx).1
   exact idB_oth (fsl _ om om (ot_job hk hkj hj)) (slots_lt om om) (jsL_get hx)
  ·rcases h1 _ (List.mem_of_getElem? hkj) with h|⟨t,h⟩<;>cases h
 ·intro i b hi hci
  rw[hlen]
  rw[Cn_get] at hci
  split at hci
  ·rcases pre_get i _ hci with h3|⟨_,h3⟩
   ·obtain rfl:=Oi h3;exact⟨rfl,trivial⟩
   ·obtain rfl:=Oi h3
    have hz:∀y∈zW_,idB [] y:=fun y hy=>by
     unfold zW_ at hy
     simp only[List.mem_cons,List.not_mem_nil,or_false] at hy
     rcases hy with rfl|rfl|rfl|rfl|rfl|rfl|rfl|rfl|rfl|rfl<;>trivial
    refine⟨?_,avOkL_all fun y hy=>idB_avOk (S:=[]) (fun _ h=>by cases h) (hz y hy)⟩
    show Blk.cs 39 (AV.renL _ zW_) false=_
    congr 1
  ·rename_i h40
   rcases C12_get a' _ _ hci with ⟨h4,h3⟩|⟨h4,h3⟩|⟨_,t,el,f,xs,hp,h3⟩
   ·obtain rfl:i=40:=om
    rw[at40 0] at hi;cases hi
   ·obtain rfl:i=41:=om
    rw[at40 1] at hi;cases hi
   ·obtain rfl:=Oi h3
    exact⟨sBk_ren hp _,sBk_ok hp _⟩
 ·intro i hi hci
  rw[Cn_get] at hci
  split at hci
  ·rcases pre_get i _ hci with h3|⟨_,h3⟩<;>cases h3
  ·rcases C12_get a' _ _ hci with ⟨_,h3⟩|⟨_,h3⟩|⟨_,t,el,f,xs,_,h3⟩<;>cases h3
theorem step_end {k:Nat}{b:Bool} (hk:k=0∨k=1∨k=2∨k=3){r:R}{v:AV}{a':WS} (h:sumR k b r=some (v,Cn c1 c2 c3 a')):∃h2,r=.ok v h2∧EndW (Cn c1 c2 c3 a') h2:=by
 obtain⟨h2,g1,g2⟩:=step_endQ hk h
 exact⟨h2,g1,fun L fr hL hf=>let⟨_,_,_,_,g⟩:=g2 L fr hL hf;g.zero⟩
end
section
variable {Bn:Nat} [BOk Bn]{f:Nat}{fn:Func}{h h2:H}{args:List AV}{v:AV}
theorem At.bodyS {b:Code} (hf:PP.funcs[f]? =some fn) (hb:fn.body=some b) (hok:fOk [] fn args.length=true)
 (hsat:S Bn fn.ntmps b (argsFrom args 0 .e) h (fun ex fr' h'=>(ex=.normal∨ex=.ret)∧resOf (resF fn) fr' h'=some [v]∧sameH h h')) (hv:avOkB 0 v=true):At Bn f h args v h:=by
 obtain⟨h1,h2⟩:=cd_true hok
 obtain⟨h2,h3⟩:=cd_true h2
 obtain⟨h3,h4⟩:=cd_true h3
 obtain⟨h4,h5⟩:=cd_true h4
 obtain⟨res,hr⟩:=isSm_eq h2
 have e2:resF fn=res:=by unfold resF;rw[hr]
 rw[e2] at hsat
 have hle:=Nb h3
 have hle:args.length≤fn.ntmps:=by simpa using hle
 intro e vs he hs hg hrel
 subst he
 right
 have hname':¬fn.name= "runtime.NumGoroutine" :=by simpa using h5
 refine⟨by simp[callFunc,hf,hname',hb],?_⟩
 have hvl:=hrel.len
 refine calls_of_wp hf hb (hsat _ e _ rfl hs (args_rel hrel _) hg (by simp;omega) (fun ex fr' h' hq=>?_))
 obtain⟨hex,hro,hsame⟩:=hq
 intro a' e' he' hs' hx' hf' _ hd'
 subst he'
 have hfin:a'.defers=[]∧∃cv,(results fn a'.tmps).run PP e'.w=.ok cv e'.w∧∃v',Ending.returned cv=.returned v'∧∃e2,e2.w=e'.w∧e2.h=e.h∧St e2∧Ext e e2∧Rel e2 v v':=by
  obtain⟨h2,cv,h3,h4⟩:=results_sound (fn:=fn) (r:=v) (h':=e'.h) hs' hf' hr hro rfl
  obtain⟨e3,g1,g2,g3,g4,g5⟩:=shrinkN hs hs' hx' (fun id hid=>hsame id hid)
  exact⟨hd',cv,h3,cv,rfl,e3,g1,g2,g3,g4,g5 v cv (avOk_le (Nz _) v (avOk_of v hv)) h4⟩
 rcases hex with rfl|rfl
 ·exact hfin
 ·exact hfin
def isNor (r:CR):Bool:=CR.rec false (fun e _ _=>Ex.rec true (fun _=>false) false e) r
def isRet (r:CR):Bool:=CR.rec false (fun e _ _=>Ex.rec false (fun _=>false) true e) r
def frZ (r:CR):T AV:=CR.rec .e (fun _ fr _=>fr) r
def hZ (r:CR):H:=CR.rec H0 (fun _ _ h=>h) r
def cZ (Bn:Nat) (call:CallF) (nt:Nat) (c:Code) (fr:T AV) (h:H):CR:=evC call (compC PP (GG Bn) nt c) fr h
theorem isNor_eq {r:CR} (h:isNor r=true):r=.ok .normal (frZ r) (hZ r):=by
 cases r with
 |no=>cases h
 |ok e fr h'=>cases e<;>first|rfl|cases h
theorem isRet_eq {r:CR} (h:isRet r=true):r=.ok .ret (frZ r) (hZ r):=by
 cases r with
 |no=>cases h
 |ok e fr h'=>cases e<;>first|rfl|cases h
def hR (r:R):H:=R.rec H0 (fun _ h=>h) r
theorem At.evS {call:CallF} (hk:CallOK PP (GG Bn) call) (hr:okR (call f args h)=some v) (hs:heapL (hR (call f args h)) h.next=heapL h h.next) (hv:avOkB 0 v=true):At Bn f h args v h:=by
 cases hc:call f args h with
 |no=>rw[hc] at hr;cases hr
 |ok v' h'=>
  rw[hc] at hr hs
  obtain rfl:=Oi (show some v'=some v from hr)
  exact At.shrink (At.ev hk hc) hv (sameH_of hs)
def cargs (o:AO) (fr:T AV):List AV:=Option.rec [] (fun q=>q.2) (viewC o fr)
def cfun (o:AO) (fr:T AV):Option Nat:=Option.rec none (fun q=>some q.1) (viewC o fr)
theorem viewC_eq {o:AO}{fr:T AV} (h:cfun o fr=some f):viewC o fr=some (f,cargs o fr):=by
 unfold cfun at h;unfold cargs
 cases hv:viewC o fr with
 |none=>rw[hv] at h;cases h
 |some q=>rw[hv] at h;obtain rfl:=Oi (show some q.1=some f from h);rfl
theorem callAt_pure:CallPure (callAt f h args v h):=by
 intro f' args' h1 v' h' hr
 unfold callAt at hr
 split at hr
 ·rename_i hh
  injection hr with _ h2
  rw[←h2,hh.2.2]
 ·cases hr
variable {call:CallF}{nt:Nat}{fr:T AV}{x y:Code}{Q:Ex→T AV→H→Prop}
def dPre (Bn:Nat) (call:CallF) (nt:Nat) (ops:Array Oper) (k:Nat) (fr:T AV) (h:H):Bool:=
 cd (stOk call h.next (regL PP (GG Bn) nt ops) fr h k) (cd (Nat.blt k (regL PP (GG Bn) nt ops).length) (isT (wanted (opA (regL PP (GG Bn) nt ops) k).g (stF call h.next (regL PP (GG Bn) nt ops) fr h k))) false) false
def dFr (Bn:Nat) (call:CallF) (nt:Nat) (ops:Array Oper) (k:Nat) (fr:T AV) (h:H):T AV:=stF call h.next (regL PP (GG Bn) nt ops) fr h k
def dOp (Bn:Nat) (nt:Nat) (ops:Array Oper) (k:Nat):AO:=opA (regL PP (GG Bn) nt ops) k
def dRest (Bn:Nat) (call:CallF) (nt:Nat) (ops:Array Oper) (k:Nat) (fr:T AV) (h:H) (v:AV):FR:=
 evOps call h.next ((regL PP (GG Bn) nt ops).drop (k+1)) (setD (dOp Bn nt ops k).dst v (dFr Bn call nt ops k fr h)) h
theorem atDreg {rid:Nat}{ops:Array Oper} (k:Nat) (f:Nat) (v:AV) (hd:dregOk PP (GG Bn) nt ops=true) (hf:cfun (dOp Bn nt ops k) (dFr Bn noCall nt ops k fr h)=some f)
 (ha:At Bn f h (cargs (dOp Bn nt ops k) (dFr Bn noCall nt ops k fr h)) v h)
 (hpre:dPre Bn noCall nt ops k fr h=true) (hsame:(dFr Bn (callAt f h (cargs (dOp Bn nt ops k) (dFr Bn noCall nt ops k fr h)) v h) nt ops k fr h,stH (callAt f h (cargs (dOp Bn nt ops k) (dFr Bn noCall nt ops k fr h)) v h) h.next (regL PP (GG Bn) nt ops) fr h k)=(dFr Bn noCall nt ops k fr h,h))
 (hok:dPre Bn (callAt f h (cargs (dOp Bn nt ops k) (dFr Bn noCall nt ops k fr h)) v h) nt ops k fr h=true)
 (hr:isOkF (dRest Bn (callAt f h (cargs (dOp Bn nt ops k) (dFr Bn noCall nt ops k fr h)) v h) nt ops k fr h v)=true)
 (hq:Q .normal (frOf (dRest Bn (callAt f h (cargs (dOp Bn nt ops k) (dFr Bn noCall nt ops k fr h)) v h) nt ops k fr h v)) (hOf (dRest Bn (callAt f h (cargs (dOp Bn nt ops k) (dFr Bn noCall nt ops k fr h)) v h) nt ops k fr h v))):
 S Bn nt (.region rid ops true) fr h Q:=by
 injection hsame with g1 g2
 obtain⟨h1,h2⟩:=cd_true hok
 obtain⟨h2,h3⟩:=cd_true h2
 refine Sat.dreg hmix (callAt_ok ha) callAt_pure hd (RunOps.callH (f:=f) (v:=v) (h2:=h) k h1 h2 (isT_eq h3) (viewC_eq ?_) ?_ ?_)
 ·show cfun (dOp Bn nt ops k) (dFr Bn (callAt f h _ v h) nt ops k fr h)=some f
  rw[g1];exact hf
 ·rw[g2]
  show callAt f h _ v h f (cargs (dOp Bn nt ops k) (dFr Bn (callAt f h _ v h) nt ops k fr h)) h=_
  rw[g1];exact callAt_eq
 ·exact RunOps.fin hr hq
theorem sDreg {rid:Nat}{ops:Array Oper} (hd:dregOk PP (GG Bn) nt ops=true) (hok:isOkF (evOps (callOf []) h.next (regL PP (GG Bn) nt ops) fr h)=true)
 (hq:Q .normal (frOf (evOps (callOf []) h.next (regL PP (GG Bn) nt ops) fr h)) (hOf (evOps (callOf []) h.next (regL PP (GG Bn) nt ops) fr h))):S Bn nt (.region rid ops true) fr h Q:=
 Sat.dreg hmix (callOf_ok (G:=GG Bn) (BOk.lo (B:=Bn)) ok0) (callOf_pure []) hd (RunOps.fin hok hq)
theorem sRun (hk:CallOK PP (GG Bn) call) (hok:isNor (cZ Bn call nt x fr h)=true) (hy:S Bn nt y (frZ (cZ Bn call nt x fr h)) (hZ (cZ Bn call nt x fr h)) Q):S Bn nt (.seq x y) fr h Q:=
 Sat.seq (Sat.ev hmix hk (isNor_eq hok) hy)
theorem sEnd (hk:CallOK PP (GG Bn) call) (hok:isRet (cZ Bn call nt x fr h)=true) (hy:Q .ret (frZ (cZ Bn call nt x fr h)) (hZ (cZ Bn call nt x fr h))):S Bn nt x fr h Q:=
 Sat.ev hmix hk (isRet_eq hok) hy
theorem sCond {c:Operand}{b:Bool} (hb:evO (GG Bn) c fr=.b b) (hf:b=false) (hy:S Bn nt y fr h Q):S Bn nt (.cond c x y) fr h Q:=
 Sat.cond b hb (fun h=>by rw[hf] at h;cases h) (fun _=>hy)
theorem sCondT {c:Operand}{b:Bool} (hb:evO (GG Bn) c fr=.b b) (hf:b=true) (hy:S Bn nt x fr h Q):S Bn nt (.cond c x y) fr h Q:=
 Sat.cond b hb (fun _=>hy) (fun h=>by rw[hf] at h;cases h)
end
def wLx (t:Nat) (bx:AV):List AV:=[.i .i64 (N t),.isl zIns prg_.1,.isl zEntry prg_.2,.isl zTrigger [],.isl zNode tr_,.isl zLock [],.isl zLock [],.sl (path 41) 0 52 3 3 false,.i .i64 (N 0),bx]
def HX (X1 X2 X3:Nat→AV) (B:Nat→Blk) (t:Nat) (bx:AV):H:=
 hpH 53 (cat (cat pre_ (some (.cs 39 (wLx t bx) false)::some (.cs 87 (cat (cells52 X1) (cat (cells52 X2) (cells52 X3))) false)::[some (B 2),some (B 3),some (B 4),some (B 5),some (B 6),some (B 7),some (B 8),some (B 9),some (B 10),some (B 11)])) [some .dead])
def runX (k st:Nat) (X:Nat→AV) (i:Nat):AV:=cd (Nat.beq i 0) (.i .i64 (N k)) (cd (Nat.beq i 1) (.i .i64 (N st)) (cd (Nat.beq i 49) (.i .i64 (N 0)) (X i)))
def idX (k:Nat) (X:Nat→AV) (i:Nat):AV:=cd (Nat.beq i 0) (.i .i64 (N k)) (X i)
def EV (Bn:Nat) (n:Nat):CallF:=evF (tblR Bn [] EX) n
theorem EV_ok {Bn:Nat} [BOk Bn] (n:Nat):CallOK PP (GG Bn) (EV Bn n):=evF_sound hmix (tblR_ok ok0 EX_ok) n
theorem sR {Bn:Nat} [BOk Bn] {nt:Nat} {x y:Code} {fr:T AV} {h:H} {Q:Ex→T AV→H→Prop} (a:isNor (cZ Bn (EV Bn 60) nt x fr h)=true) (b:S Bn nt y (frZ (cZ Bn (EV Bn 60) nt x fr h)) (hZ (cZ Bn (EV Bn 60) nt x fr h)) Q):S Bn nt (.seq x y) fr h Q:=sRun (call:=EV Bn 60) (EV_ok 60) a b
theorem sE {Bn:Nat} [BOk Bn] {nt:Nat} {x:Code} {fr:T AV} {h:H} {Q:Ex→T AV→H→Prop} (a:isRet (cZ Bn (EV Bn 60) nt x fr h)=true) (b:Q .ret (frZ (cZ Bn (EV Bn 60) nt x fr h)) (hZ (cZ Bn (EV Bn 60) nt x fr h))):S Bn nt x fr h Q:=sEnd (call:=EV Bn 60) (EV_ok 60) a b
theorem sV {Bn:Nat} [BOk Bn] {nt:Nat} {x:Code} {fr:T AV} {h:H} {Q:Ex→T AV→H→Prop} (a:isNor (cZ Bn (EV Bn 60) nt x fr h)=true) (b:Q .normal (frZ (cZ Bn (EV Bn 60) nt x fr h)) (hZ (cZ Bn (EV Bn 60) nt x fr h))):S Bn nt x fr h Q:=Sat.ev (call:=EV Bn 60) hmix (EV_ok 60) (isNor_eq a) b
variable {Bn:Nat} [BOk Bn]
theorem iLe0 (t:Nat):(!(iLe (N 0) (N t)))=false:=by rw[iLe_eq];simp
theorem iLe400 {n:Nat} (h:n<400):iLe (N 400) (N n)=false:=by rw[iLe_eq];simp;omega
theorem readyem1 (X1 X2 X3:Nat→AV) (B:Nat→Blk) (t:Nat):At Bn 67 (HX (runX 1 1 X1) X2 X3 B t .em) [.p (path 40) 0,.i .i64 (N 1)] (.i .i64 (N 0)) (HX (runX 1 1 X1) X2 X3 B t .em):=by
 refine At.bodyS Tryz.func67 rfl kr ?_ kr
 refine sR kr ?_
 refine sR kr ?_
 refine sR kr ?_
 refine sR kr ?_
 refine sR kr ?_
 refine Sat.seq (Sat.block (Sat.seq ?_))
 refine atDreg 2 44 (.b false) kr kr (At.evS (EV_ok 20) kr kr kr) kr kr kr kr ?_
 refine sCond (b:= !(iLe (N 0) (N t))) kr (iLe0 t) ?_
 refine sR kr ?_
 refine sCond (b:=false) kr rfl ?_
 refine Sat.seq (sDreg kr kr ?_)
 refine sCond (b:=false) kr rfl ?_
 refine sR kr ?_
 refine sCond (b:=false) kr rfl ?_
 refine Sat.skip ?_
 refine sR kr ?_
 exact Sat.ret ⟨.inr rfl,kr,sameH_of kr⟩
theorem readysl1 (X1 X2 X3:Nat→AV) (B:Nat→Blk) (t n:Nat) (hn:n<400):At Bn 67 (HX (runX 1 1 X1) X2 X3 B t (.sl (path 42) 0 2 n n false)) [.p (path 40) 0,.i .i64 (N 1)] (.i .i64 (N 0)) (HX (runX 1 1 X1) X2 X3 B t (.sl (path 42) 0 2 n n false)):=by
 refine At.bodyS Tryz.func67 rfl kr ?_ kr
 refine sR kr ?_
 refine sR kr ?_
 refine sR kr ?_
 refine sR kr ?_
 refine sR kr ?_
 refine Sat.seq (Sat.block (Sat.seq ?_))
 refine atDreg 2 44 (.b false) kr kr (At.evS (EV_ok 20) kr kr kr) kr kr kr kr ?_
 refine sCond (b:= !(iLe (N 0) (N t))) kr (iLe0 t) ?_
 refine sR kr ?_
 refine sCond (b:=false) kr rfl ?_
 refine Sat.seq (sDreg kr kr ?_)
 refine sCond (b:=false) kr rfl ?_
 refine sR kr ?_
 refine sCond (b:=iLe (N 400) (N n)) kr (iLe400 hn) ?_
 refine Sat.skip ?_
 refine sR kr ?_
 exact Sat.ret ⟨.inr rfl,kr,sameH_of kr⟩
theorem ended1 (X1 X2 X3:Nat→AV) (B:Nat→Blk) (t:Nat) (bx:AV):At Bn 67 (HX (runX 1 3 X1) X2 X3 B t bx) [.p (path 40) 0,.i .i64 (N 1)] (.i .i64 (N 5)) (HX (runX 1 3 X1) X2 X3 B t bx):=by
 refine At.bodyS Tryz.func67 rfl kr ?_ kr
 refine sR kr ?_
 refine sR kr ?_
 refine sR kr ?_
 refine sR kr ?_
 refine sR kr ?_
 refine Sat.seq (Sat.block (Sat.seq ?_))
 refine atDreg 2 44 (.b true) kr kr (At.evS (EV_ok 20) kr kr kr) kr kr kr kr ?_
 refine sCondT (b:=true) kr rfl ?_
 refine sR kr ?_
 exact Sat.ret ⟨.inr rfl,kr,sameH_of kr⟩
theorem readyem2 (X1 X2 X3:Nat→AV) (B:Nat→Blk) (t:Nat):At Bn 67 (HX (idX 1 X1) (runX 2 1 X2) X3 B t .em) [.p (path 40) 0,.i .i64 (N 2)] (.i .i64 (N 0)) (HX (idX 1 X1) (runX 2 1 X2) X3 B t .em):=by
 refine At.bodyS Tryz.func67 rfl kr ?_ kr
 refine sR kr ?_
 refine sR kr ?_
 refine sR kr ?_
 refine sR kr ?_
 refine sR kr ?_
 refine Sat.seq (Sat.block (Sat.seq ?_))
 refine atDreg 2 44 (.b false) kr kr (At.evS (EV_ok 20) kr kr kr) kr kr kr kr ?_
 refine sCond (b:= !(iLe (N 0) (N t))) kr (iLe0 t) ?_
 refine sR kr ?_
 refine sCond (b:=false) kr rfl ?_
 refine Sat.seq (sDreg kr kr ?_)
 refine sCond (b:=false) kr rfl ?_
 refine sR kr ?_
 refine sCond (b:=false) kr rfl ?_
 refine Sat.skip ?_
 refine sR kr ?_
 exact Sat.ret ⟨.inr rfl,kr,sameH_of kr⟩
theorem readysl2 (X1 X2 X3:Nat→AV) (B:Nat→Blk) (t n:Nat) (hn:n<400):At Bn 67 (HX (idX 1 X1) (runX 2 1 X2) X3 B t (.sl (path 42) 0 2 n n false)) [.p (path 40) 0,.i .i64 (N 2)] (.i .i64 (N 0)) (HX (idX 1 X1) (runX 2 1 X2) X3 B t (.sl (path 42) 0 2 n n false)):=by
 refine At.bodyS Tryz.func67 rfl kr ?_ kr
 refine sR kr ?_
 refine sR kr ?_
 refine sR kr ?_
 refine sR kr ?_
 refine sR kr ?_
 refine Sat.seq (Sat.block (Sat.seq ?_))
 refine atDreg 2 44 (.b false) kr kr (At.evS (EV_ok 20) kr kr kr) kr kr kr kr ?_
 refine sCond (b:= !(iLe (N 0) (N t))) kr (iLe0 t) ?_
 refine sR kr ?_
 refine sCond (b:=false) kr rfl ?_
 refine Sat.seq (sDreg kr kr ?_)
 refine sCond (b:=false) kr rfl ?_
 refine sR kr ?_
 refine sCond (b:=iLe (N 400) (N n)) kr (iLe400 hn) ?_
 refine Sat.skip ?_
 refine sR kr ?_
 exact Sat.ret ⟨.inr rfl,kr,sameH_of kr⟩
theorem ended2 (X1 X2 X3:Nat→AV) (B:Nat→Blk) (t:Nat) (bx:AV):At Bn 67 (HX (idX 1 X1) (runX 2 3 X2) X3 B t bx) [.p (path 40) 0,.i .i64 (N 2)] (.i .i64 (N 5)) (HX (idX 1 X1) (runX 2 3 X2) X3 B t bx):=by
 refine At.bodyS Tryz.func67 rfl kr ?_ kr
 refine sR kr ?_
 refine sR kr ?_
 refine sR kr ?_
 refine sR kr ?_
 refine sR kr ?_
 refine Sat.seq (Sat.block (Sat.seq ?_))
 refine atDreg 2 44 (.b true) kr kr (At.evS (EV_ok 20) kr kr kr) kr kr kr kr ?_
 refine sCondT (b:=true) kr rfl ?_
 refine sR kr ?_
 exact Sat.ret ⟨.inr rfl,kr,sameH_of kr⟩
theorem readyem3 (X1 X2 X3:Nat→AV) (B:Nat→Blk) (t:Nat):At Bn 67 (HX (idX 1 X1) (idX 2 X2) (runX 3 1 X3) B t .em) [.p (path 40) 0,.i .i64 (N 3)] (.i .i64 (N 0)) (HX (idX 1 X1) (idX 2 X2) (runX 3 1 X3) B t .em):=by
 refine At.bodyS Tryz.func67 rfl kr ?_ kr
 refine sR kr ?_
 refine sR kr ?_
 refine sR kr ?_
 refine sR kr ?_
 refine sR kr ?_
 refine Sat.seq (Sat.block (Sat.seq ?_))
 refine atDreg 2 44 (.b false) kr kr (At.evS (EV_ok 20) kr kr kr) kr kr kr kr ?_
 refine sCond (b:= !(iLe (N 0) (N t))) kr (iLe0 t) ?_
 refine sR kr ?_
 refine sCond (b:=false) kr rfl ?_
 refine Sat.seq (sDreg kr kr ?_)
 refine sCond (b:=false) kr rfl ?_
 refine sR kr ?_
 refine sCond (b:=false) kr rfl ?_
 refine Sat.skip ?_
 refine sR kr ?_
 exact Sat.ret ⟨.inr rfl,kr,sameH_of kr⟩
theorem readysl3 (X1 X2 X3:Nat→AV) (B:Nat→Blk) (t n:Nat) (hn:n<400):At Bn 67 (HX (idX 1 X1) (idX 2 X2) (runX 3 1 X3) B t (.sl (path 42) 0 2 n n false)) [.p (path 40) 0,.i .i64 (N 3)] (.i .i64 (N 0)) (HX (idX 1 X1) (idX 2 X2) (runX 3 1 X3) B t (.sl (path 42) 0 2 n n false)):=by
 refine At.bodyS Tryz.func67 rfl kr ?_ kr
 refine sR kr ?_
 refine sR kr ?_
 refine sR kr ?_
 refine sR kr ?_
 refine sR kr ?_
 refine Sat.seq (Sat.block (Sat.seq ?_))
 refine atDreg 2 44 (.b false) kr kr (At.evS (EV_ok 20) kr kr kr) kr kr kr kr ?_
 refine sCond (b:= !(iLe (N 0) (N t))) kr (iLe0 t) ?_
 refine sR kr ?_
 refine sCond (b:=false) kr rfl ?_
 refine Sat.seq (sDreg kr kr ?_)
 refine sCond (b:=false) kr rfl ?_
 refine sR kr ?_
 refine sCond (b:=iLe (N 400) (N n)) kr (iLe400 hn) ?_
 refine Sat.skip ?_
 refine sR kr ?_
 exact Sat.ret ⟨.inr rfl,kr,sameH_of kr⟩
theorem ended3 (X1 X2 X3:Nat→AV) (B:Nat→Blk) (t:Nat) (bx:AV):At Bn 67 (HX (idX 1 X1) (idX 2 X2) (runX 3 3 X3) B t bx) [.p (path 40) 0,.i .i64 (N 3)] (.i .i64 (N 5)) (HX (idX 1 X1) (idX 2 X2) (runX 3 3 X3) B t bx):=by
 refine At.bodyS Tryz.func67 rfl kr ?_ kr
 refine sR kr ?_
 refine sR kr ?_
 refine sR kr ?_
 refine sR kr ?_
 refine sR kr ?_
 refine Sat.seq (Sat.block (Sat.seq ?_))
 refine atDreg 2 44 (.b true) kr kr (At.evS (EV_ok 20) kr kr kr) kr kr kr kr ?_
 refine sCondT (b:=true) kr rfl ?_
 refine sR kr ?_
 exact Sat.ret ⟨.inr rfl,kr,sameH_of kr⟩
section
variable {Bn:Nat} [BOk Bn]{f:Nat}{fn:Func}{h hz:H}{args:List AV}{v:AV}
theorem At.bodyG {b:Code} (hf:PP.funcs[f]? =some fn) (hb:fn.body=some b) (hok:fOk [] fn args.length=true)
 (hsat:S Bn fn.ntmps b (argsFrom args 0 .e) h (fun ex fr' h'=>(ex=.normal∨ex=.ret)∧resOf (resF fn) fr' h'=some [v]∧h'=hz)):At Bn f h args v hz:=by
 obtain⟨h1,h2⟩:=cd_true hok
 obtain⟨h2,h3⟩:=cd_true h2
 obtain⟨h3,h4⟩:=cd_true h3
 obtain⟨h4,h5⟩:=cd_true h4
 obtain⟨res,hr⟩:=isSm_eq h2
 have e2:resF fn=res:=by unfold resF;rw[hr]
 rw[e2] at hsat
 have hle:=Nb h3
 have hle:args.length≤fn.ntmps:=by simpa using hle
 intro e vs he hs hg hrel
 subst he
 right
 have hname':¬fn.name= "runtime.NumGoroutine" :=by simpa using h5
 refine⟨by simp[callFunc,hf,hname',hb],?_⟩
 have hvl:=hrel.len
 refine calls_of_wp hf hb (hsat _ e _ rfl hs (args_rel hrel _) hg (by simp;omega) (fun ex fr' h' hq=>?_))
 obtain⟨hex,hro,hsame⟩:=hq
 intro a' e' he' hs' hx' hf' _ hd'
 subst he'
 have hfin:a'.defers=[]∧∃cv,(results fn a'.tmps).run PP e'.w=.ok cv e'.w∧∃v',Ending.returned cv=.returned v'∧∃e2,e2.w=e'.w∧e2.h=hz∧St e2∧Ext e e2∧Rel e2 v v':=by
  obtain⟨_,cv,h3,h4⟩:=results_sound (fn:=fn) (r:=v) (h':=e'.h) hs' hf' hr hro rfl
  exact⟨hd',cv,h3,cv,rfl,e',rfl,hsame,hs',hx',h4⟩
 rcases hex with rfl|rfl
 ·exact hfin
 ·exact hfin
end
def sndC (c:Code):Code:=match c with
 |.seq _ y=>y
 |_=>.skip
noncomputable def b28:Code:=Option.getD Tryz.f28.body .skip
def rest28:Code:=sndC (sndC b28)
def fr28 (k:Nat):List (List Bool×AV):=[(path 0,.p (path 40) 0),(path 1,.i .i64 (N k)),(path 4,.i .i64 (N 0))]
def one1 (l:Option (List AV)):Option AV:=Option.rec none (fun l=>List.rec none (fun v r _=>List.rec (some v) (fun _ _ _=>none) r) l) l
theorem one1_eq {l:Option (List AV)}{v:AV} (h:one1 l=some v):l=some [v]:=by
 cases l with
 |none=>cases h
 |some l=>cases l with
  |nil=>cases h
  |cons x r=>cases r with
   |nil=>obtain rfl:=Oi (show some x=some v from h);rfl
   |cons y r=>cases h
def sumC (k:Nat) (b:Bool) (fn:Func) (r:CR):Option (AV×List (Option Blk)):=CR.rec none (fun ex fr h=>Ex.rec none (fun _=>none) (Option.rec none (fun v=>sumR k b (.ok v h)) (one1 (resOf (resF fn) fr h))) ex) r
theorem sumC_eq {k:Nat}{b:Bool}{fn:Func}{r:CR}{q:AV×List (Option Blk)} (h:sumC k b fn r=some q):∃fr h2 v,r=.ok .ret fr h2∧resOf (resF fn) fr h2=some [v]∧sumR k b (.ok v h2)=some q:=by
 cases r with
 |no=>cases h
 |ok ex fr h2=>
  cases ex with
  |normal=>cases h
  |exit n=>cases h
  |ret=>
   have h:(Option.rec none (fun v=>sumR k b (.ok v h2)) (one1 (resOf (resF fn) fr h2)):Option (AV×List (Option Blk)))=some q:=h
   cases ho:one1 (resOf (resF fn) fr h2) with
   |none=>rw[ho] at h;cases h
   |some v=>rw[ho] at h;exact⟨fr,h2,v,rfl,one1_eq ho,h⟩
theorem isOkF_eq' {r:FR} (h:isOkF r=true):r=.ok (frOf r) (hOf r):=by
 cases r with
 |no=>cases h
 |ok fr h'=>rfl
section
variable {Bn:Nat} [BOk Bn]{c1 c2 c3:Nat}
def gFr (Bn k:Nat) (fr:T AV) (hh:H) (ops:Array Oper) (v:AV) (call:CallF):FR:=
 evOps call hh.next ((regL PP (GG Bn) 114 ops).drop (k+1)) (setD (opA (regL PP (GG Bn) 114 ops) k).dst v (stF call hh.next (regL PP (GG Bn) 114 ops) fr ⟨Nat.add hh.next (regN PP (GG Bn) 114 ops),hh.t⟩ k)) hh
theorem atRegS {rid:Nat}{ops:Array Oper}{fr:T AV}{hh:H}{Q:Ex→T AV→H→Prop} (k:Nat){f:Nat}{args:List AV}{v:AV} (ha:At Bn f hh args v hh)
 (hpre:cd (stOk (callAt f hh args v hh) hh.next (regL PP (GG Bn) 114 ops) fr ⟨Nat.add hh.next (regN PP (GG Bn) 114 ops),hh.t⟩ k) (cd (Nat.blt k (regL PP (GG Bn) 114 ops).length)
  (cd (isT (wanted (opA (regL PP (GG Bn) 114 ops) k).g (stF (callAt f hh args v hh) hh.next (regL PP (GG Bn) 114 ops) fr ⟨Nat.add hh.next (regN PP (GG Bn) 114 ops),hh.t⟩ k))) true false) false) false=true)
 (hv:(viewC (opA (regL PP (GG Bn) 114 ops) k) (stF (callAt f hh args v hh) hh.next (regL PP (GG Bn) 114 ops) fr ⟨Nat.add hh.next (regN PP (GG Bn) 114 ops),hh.t⟩ k),stH (callAt f hh args v hh) hh.next (regL PP (GG Bn) 114 ops) fr ⟨Nat.add hh.next (regN PP (GG Bn) 114 ops),hh.t⟩ k)=(some (f,args),hh))
 (hr:isOkF (gFr Bn k fr hh ops v (callAt f hh args v hh))=true)
 (hq:Q .normal (frOf (gFr Bn k fr hh ops v (callAt f hh args v hh))) (hOf (gFr Bn k fr hh ops v (callAt f hh args v hh)))):S Bn 114 (.region rid ops false) fr hh Q:=
 atReg k ha hpre hv (isOkF_eq' hr) hq
theorem S_eq {n n':Nat}{c c':Code}{fr:T AV}{h h':H}{Q:Ex→T AV→H→Prop} (hn:n=n') (hc:c=c') (hh:h=h') (hs:S Bn n' c' fr h' Q):S Bn n c fr h Q:=by
 subst hn hc hh;exact hs
theorem ready28 (k:Nat){hz:H}{v:AV}{X1 X2 X3:Nat→AV}{B:Nat→Blk}{t:Nat}{bx:AV}
 (hr:At Bn 67 (HX X1 X2 X3 B t bx) [.p (path 40) 0,.i .i64 (N k)] (.i .i64 (N 0)) (HX X1 X2 X3 B t bx))
 (hs:S Bn 114 rest28 (mkFr (fr28 k)) (HX X1 X2 X3 B t bx) (fun ex fr' h'=>(ex=.normal∨ex=.ret)∧resOf (resF Tryz.f28) fr' h'=some [v]∧h'=hz)):At Bn 28 (HX X1 X2 X3 B t bx) [.p (path 40) 0,.i .i64 (N k)] v hz:=by
 refine At.bodyG Tryz.func28 rfl (b:=b28) kr ?_
 refine sR kr ?_
 refine Sat.seq (Sat.seq ?_)
 refine atRegS 2 hr kr kr kr ?_
 refine sR kr ?_
 refine sCond (b:=false) kr rfl ?_
 refine Sat.skip ?_
 refine Sat.keepL (fr28 k) ⟨kr,kr,kr,trivial⟩ ?_
 exact S_eq kr kr kr hs
theorem step_at {k:Nat}{b:Bool} (hk:k=0∨k=1∨k=2∨k=3){call:CallF} (hL:CallOK PP (GG Bn) call){v:AV}{a':WS}{h:H}{X1 X2 X3:Nat→AV}{B:Nat→Blk}{t:Nat}{bx:AV} (hh:h=HX X1 X2 X3 B t bx)
 (hr:At Bn 67 (HX X1 X2 X3 B t bx) [.p (path 40) 0,.i .i64 (N k)] (.i .i64 (N 0)) (HX X1 X2 X3 B t bx))
 (hs:sumC k b Tryz.f28 (cZ Bn call 114 rest28 (mkFr (fr28 k)) h)=some (v,Cn c1 c2 c3 a')):∃h2,At Bn 28 h [.p (path 40) 0,.i .i64 (N k)] v h2∧EndW (Cn c1 c2 c3 a') h2:=by
 subst hh
 obtain⟨fr,hz,v',h1,h2,h3⟩:=sumC_eq hs
 obtain⟨h4,h5,h6⟩:=step_end hk h3
 injection h5 with h7 h8
 subst h7 h8
 exact⟨hz,ready28 k hr (Sat.ev hmix hL h1 ⟨.inr rfl,h2,rfl⟩),h6⟩
end
section
variable {P:Program}
def flatO (ops:Array Oper):Prop:=∀o∈ops.toList,∀c,o.op≠.defer c
def isDef (o:Op):Bool:=match o with
 |.defer _=>true
 |_=>false
def noDef (ops:Array Oper):Bool:=List.rec true (fun o _ r=>cd (isDef o.op) false r) ops.toList
theorem noDef_ok {ops:Array Oper} (h:noDef ops=true):flatO ops:=by
 unfold noDef at h;unfold flatO
 generalize ops.toList=l at h⊢
 induction l with
 |nil=>intro o ho;cases ho
 |cons x l ih=>
  have h:cd (isDef x.op) false (List.rec true (fun o _ r=>cd (isDef o.op) false r) l)=true:=h
  cases hx:isDef x.op with
  |true=>rw[hx] at h;cases h
  |false=>
   rw[hx] at h
   have ih2:=ih h
   intro o ho c
   rcases List.mem_cons.1 ho with rfl|ho
   ·intro e;rw[e] at hx;cases hx
   ·exact ih2 o ho c
theorem upon_in {l n:Nat}{o:Oper}{a:Act}{next next':Act→World→Prop}{K:Exit→Act→World→Prop} (hn:∀a w,next a w→next' a w) (r:Result Next) (h:o.upon P a next K r):
 o.uponIn (Fence.wide.inRound l) n P a next' K r:=by
 unfold Oper.upon at h
 split at h
 ·exact hn _ _ h
 ·exact hn _ _ h
 ·exact hn _ _ h
 ·refine⟨fun hd=>(by cases hd),?_⟩
  have h2:CallsIn Fence.wide (n - 1) P _ _ _ _:=callsIn_wide.2 h
  refine CallsIn.mono (F:=Fence.wide.inRound l) h2 ?_
  intro e w' he
  cases e with
  |returned v=>exact hn _ _ he
  |panicked c=>exact he
  |outgrown=>exact he
 ·refine⟨fun hd=>(by cases hd),?_⟩
  intro c cs _
  obtain⟨v,w',h1,h2⟩:=h c cs
  exact⟨v,w',hn _ _ h1,stepsIn_wide.2 h2⟩
 ·exact h
 ·exact h.elim
theorem wpOps_in {ops:Array Oper} (hfl:flatO ops) {K:Exit→Act→World→Prop} (hK:¬LetsOut K) (l n:Nat):∀(is:List Nat) (a:Act) (w:World),wpOps P ops K is a w→wpOpsIn (Fence.wide.inRound l) n P ops K is a w
 |[],a,w,h=>h
 |i::is,a,w,h=>by
  simp only[wpOps] at h
  simp only[wpOpsIn]
  cases ho:ops[i]? with
  |none=>rw[ho] at h;exact wpOps_in hfl hK l n is a w h
  |some o=>
   rw[ho] at h
   simp only at h⊢
   by_cases hw:Region.wanted o (yielded ops a.tmps)=true
   ·rw[if_pos hw] at h⊢
    rcases h with h|⟨_,h⟩
    ·refine⟨fun _ _=>trivial,?_⟩
     rw[Oper.semAt_eq _ _ _ (hfl o (by rw[Array.mem_toList_iff];exact Array.mem_of_getElem? ho))]
     exact upon_in (fun a w=>wpOps_in hfl hK l n is a w) _ h
    ·exact absurd h hK
   ·rw[if_neg hw] at h⊢
    exact⟨fun _ _=>trivial,wpOps_in hfl hK l n is _ w h⟩
end
def SatR (P:Program) (G:Gs) (nt:Nat) (c:Code) (fr:T AV) (h:H) (Q:Ex→T AV→H→Prop):Prop:=
 ∀(l n:Nat) (K:Exit→Act→World→Prop) (e:Env) (a:Act),¬LetsOut K→e.h=h→St e→FrRel e fr a.tmps→GRel G e→a.tmps.size=nt→
  (∀ex fr' h',Q ex fr' h'→Post nt K e a ex fr' h')→c.wpIn (Fence.wide.inRound l) n P K a e.w
section
variable {P:Program}{G:Gs}{nt:Nat}{call:CallF}{fr:T AV}{h:H}{Q:Ex→T AV→H→Prop}
theorem SatR.block {id:Nat}{b:Code} (hb:SatR P G nt b fr h (blkQ id Q)):SatR P G nt (.block id b) fr h Q:=by
 intro l n K e a hK he hs hf hg hsz hp
 refine wpIn_block (hb l n _ e a (fun⟨a',w',ho⟩=>hK ⟨a',w',ho⟩) he hs hf hg hsz (fun ex fr1 h1 hq=>?_))
 intro a1 e1 he1 hs1 hx1 hf1 hsz1 hd1
 cases ex with
 |normal=>exact hp .normal fr1 h1 hq a1 e1 he1 hs1 hx1 hf1 hsz1 hd1
 |exit j=>
  show(if j=id then K .normal a1 e1.w else K (.exit j) a1 e1.w)
  have hq:(if j=id then Q .normal fr1 h1 else Q (.exit j) fr1 h1):=hq
  by_cases hj:j=id
  ·rw[if_pos hj] at hq⊢
   exact hp .normal fr1 h1 hq a1 e1 he1 hs1 hx1 hf1 hsz1 hd1
  ·rw[if_neg hj] at hq⊢
   exact hp (.exit j) fr1 h1 hq a1 e1 he1 hs1 hx1 hf1 hsz1 hd1
 |ret=>exact hp .ret fr1 h1 hq a1 e1 he1 hs1 hx1 hf1 hsz1 hd1
theorem SatR.reg (hk:CallOK P G call) {rid:Nat}{ops:Array Oper} (hfl:noDef ops=true)
 (hr:RunOps call h.next (regL P G nt ops) fr ⟨Nat.add h.next (regN P G nt ops),h.t⟩ (Q .normal)):SatR P G nt (.region rid ops false) fr h Q:=by
 unfold RunOps at hr
 obtain⟨fr',h',hev,hq⟩:=hr
 intro l n K e a hK he hs hf hg hsz hp
 subst he
 unfold regL regN at hev
 obtain⟨hlen,hnum⟩:=number_spec (ops.toList.map (compO P G nt ops)) 0
 generalize hln:number (ops.toList.map (compO P G nt ops)) 0=q at hev hlen hnum
 obtain⟨ll,na⟩:=q
 simp only at hev hlen hnum
 have hlen':ll.length=ops.size:=by rw[hlen];simp
 have hio:∀(i:Nat) (ao:AO),ll[i]? =some ao→∃o,ops[i]? =some o∧IsO P G nt ops ao o:=by
  intro i ao hi
  obtain⟨o',k',h1,h2⟩:=hnum i ao hi
  rw[List.getElem?_map] at h1
  cases ho:ops.toList[i]? with
  |none=>rw[ho] at h1;cases h1
  |some o=>
   rw[ho] at h1
   simp only[Option.map_some,Oj] at h1
   subst h1
   exact⟨o,by simpa using ho,k',h2⟩
 refine wpIn_region (wpOps_in (noDef_ok hfl) hK l n _ a e.w ?_)
 refine evOps_sound hk K ll (List.range ops.size) (by simp[hlen']) (fun q ao i h1 h2=>?_) e.h.next fr (e.bump na) a fr' h' hev (bump_st hs na) hs.lo (hf.ext (bump_ext e na)) (hg.ext (bump_ext e na)) hsz ?_
 ·have hq:q<ops.size:=by rw[←hlen'];exact(List.getElem?_eq_some_iff.1 h1).1
  rw[List.getElem?_range hq] at h2
  obtain rfl:=Oi h2
  exact hio q ao h1
 ·intro a' e' h1 h2 h3 h4 h5 h6
  exact hp .normal fr' h' hq a' e' h1 h2 ((bump_ext e na).trans h3) h4 h5 h6
end
def flatT1 (t:Ty):Bool:=Ty.rec (motive:=fun _=>Bool) (fun _=>true) true true true (fun _ _ a b=>cd a b false) (fun _ _=>false) (fun _ _=>false) (fun _ _ _=>false) t
def fvT (t:Ty):den t→List Value:=Ty.rec (motive:=fun t=>den t→List Value) (fun k n=>[.int k n]) (fun b=>[.bool b]) (fun s=>[.string (strOf s)]) (fun _=>[]) (fun _ _ ia ib x=>ia x.1++ib x.2) (fun _ _ _=>[]) (fun _ _ _=>[]) (fun _ _ _ _=>[]) t
theorem relT_val {m:Mm}{w:World}:∀(t:Ty) (x:den t) (vs:List Value),flatT1 t=true→relT m w t x vs→vs=fvT t x
 |.int _,_,_,_,h=>h
 |.bool,_,_,_,h=>h
 |.str,_,_,_,h=>h.1
 |.unit,_,_,_,h=>h
 |.pair a b,x,vs,hf,h=>by
  obtain⟨us,ws,h1,h2,h3⟩:=h
  obtain⟨f1,f2⟩:=cd_true (show cd (flatT1 a) (flatT1 b) false=true from hf)
  rw[h1,relT_val a _ _ f1 h2,relT_val b _ _ f2 h3];rfl
 |.sl _,_,_,hf,_=>by cases hf
 |.ptr _,_,_,hf,_=>by cases hf
 |.clo _ _,_,_,hf,_=>by cases hf
theorem fvT_len:∀(t:Ty) (x:den t),flatT1 t=true→(fvT t x).length=wd t
 |.int _,_,_=>rfl
 |.bool,_,_=>rfl
 |.str,_,_=>rfl
 |.unit,_,_=>rfl
 |.pair a b,x,hf=>by
  obtain⟨f1,f2⟩:=cd_true (show cd (flatT1 a) (flatT1 b) false=true from hf)
  show(fvT a x.1++fvT b x.2).length=wd a+wd b
  rw[La,fvT_len a _ f1,fvT_len b _ f2]
 |.sl _,_,hf=>by cases hf
 |.ptr _,_,hf=>by cases hf
 |.clo _ _,_,hf=>by cases hf
def KcS (vs:List Value) (k:Nat) (p:Addr) (W:World):Prop:=∃b off cap,W.cell? p=some (.slice (some ⟨b,off,none⟩) k cap)∧CellsAt W b off vs
theorem KcS.keep {vs:List Value}{k:Nat}{p:Addr}{W W':World} (hk:∀a v,W.cell? a=some v→W'.cell? a=some v):KcS vs k p W→KcS vs k p W':=fun⟨b,off,cap,h1,h2⟩=>
 ⟨b,off,cap,hk _ _ h1,fun j v hv=>hk _ _ (h2 j v hv)⟩
theorem cells_flat {W:World}{t:Ty} (hf:flatT1 t=true) {m:Mm}{b:Nat}:∀(ys:List (den t)) (off:Nat),(∀(i:Nat) (y:den t),ys[i]? =some y→∃us,CellsAt W b (off+i*wd t) us∧relT m W t y us)→
 CellsAt W b off (ys.flatMap (fvT t))
 |[],off,_=>fun j v hv=>by simp at hv
 |y::ys,off,h=>fun j v hv=>by
  obtain⟨us,h1,h2⟩:=h 0 y rfl
  rw[relT_val t y us hf h2] at h1
  simp only[List.flatMap_cons] at hv
  have hl:=fvT_len t y hf
  by_cases hj:j<(fvT t y).length
  ·rw[List.getElem?_append_left hj] at hv
   simpa using h1 j v hv
  ·rw[List.getElem?_append_right om] at hv
   have ih:=cells_flat hf ys (off+wd t) (fun i y hy=>by
    obtain⟨us,g1,g2⟩:=h (i+1) y (by simpa using hy)
    exact⟨us,by rw[show off+wd t+i*wd t=off+(i+1)*wd t by rw[Nat.add_mul];omega];exact g1,g2⟩)
   have:=ih (j - (fvT t y).length) v hv
   rw[hl] at this
   rw[show off+wd t+(j - wd t)=off+j by rw[hl] at hj;omega] at this
   exact this
theorem kc_sl {e:Env}{t:Ty}{ys:List (den t)}{v:Value} (hf:flatT1 t=true) (hne:ys≠[]) (hr:Rel e (.isl t ys) v):∃b off cap,Imm e b∧v=.slice (some ⟨b,off,none⟩) ys.length cap∧CellsAt e.w b off (ys.flatMap (fvT t)):=by
 rcases rel_isl.1 hr with ⟨h6,_⟩|⟨a,cap,h6,_,_,h7|⟨h7,h8,h9⟩⟩
 ·exact absurd h6 hne
 ·exact absurd h7 hne
 ·obtain⟨b,off,sp⟩:=a
  simp only at h7 h8 h9
  subst h7
  exact⟨b,off,cap,h8,h6,cells_flat hf ys off h9⟩
theorem kc_isl {e:Env} (hs:St e) {box:Id}{u:Value} (hr:Rel e (.p box 0) u) {el:TypeId}{t:Ty}{ys:List (den t)}{fz:Bool} (hf:flatT1 t=true) (hne:ys≠[]) (hb:e.h.get box=some (.cs el [.isl t ys] fz)):
 ∃B o b off cap,u=.pointer (some ⟨B,o,none⟩)∧Imm e b∧e.w.cell? ⟨B,o,none⟩=some (.slice (some ⟨b,off,none⟩) ys.length cap)∧CellsAt e.w b off (ys.flatMap (fvT t)):=by
 obtain⟨c,fr,h1,h2,h3,h4,h5⟩:=hs.blk box _ hb
 obtain⟨_,v,hv,hrel⟩:=h3 0 _ rfl
 simp only[Rel] at hr
 obtain⟨_,hp⟩:=hr
 obtain⟨b,off,cap,h6,h7,h8⟩:=kc_sl hf hne hrel
 refine⟨_,_,b,off,cap,hp,h6,?_,h8⟩
 rw[h5] at hv⊢
 simp only[World.cell?,h1]
 simpa[h7] using hv
def KcE (w0:World) (vs:List Value) (k B o:Nat) (W:World):Prop:=(∃b off cap,w0.cell? ⟨B,o,none⟩=some (.slice (some ⟨b,off,none⟩) k cap)∧CellsAt W b off vs)∧KcS vs k ⟨B,o,none⟩ W
theorem KcE.keep {w0:World}{vs:List Value}{k B o:Nat}{W W':World} (hk:∀a v,W.cell? a=some v→W'.cell? a=some v):KcE w0 vs k B o W→KcE w0 vs k B o W':=fun⟨⟨b,off,cap,h1,h2⟩,h3⟩=>
 ⟨⟨b,off,cap,h1,fun j v hv=>hk _ _ (h2 j v hv)⟩,h3.keep hk⟩
def BxOk (h0:List (Option Blk)) (bx:AV) (vs:List Value) (k:Nat) (h1:List (Option Blk)):Prop:=
 ∀(e e1:Env) (u:Value),St e→e.h=hpH h0.length h0→St e1→Ext e e1→e1.h=hpH h1.length h1→Rel e bx u→∃B o,u=.pointer (some ⟨B,o,none⟩)∧KcE e.w vs k B o e1.w
theorem bx_p {h0 h1:List (Option Blk)}{box:Id}{t:Ty}{ys:List (den t)} (hf:flatT1 t=true) (hne:ys≠[]) {el el1:TypeId}{fz fz1:Bool} (hb:(h0[unpath box]?).join=some (Blk.cs el [.isl t ys] fz)) (hb1:(h1[unpath box]?).join=some (Blk.cs el1 [.isl t ys] fz1)):
 BxOk h0 (.p box 0) (ys.flatMap (fvT t)) ys.length h1:=by
 intro e e1 u hs he hs1 hx he1 hr
 have g0:e.h.get box=some (.cs el [.isl t ys] fz):=by rw[he,←unpath_bij box,hpH_get];exact hb
 have g1:e1.h.get box=some (.cs el1 [.isl t ys] fz1):=by rw[he1,←unpath_bij box,hpH_get];exact hb1
 obtain⟨B,o,b,off,cap,h2,h3,h4,h5⟩:=kc_isl hs hr hf hne g0
 obtain⟨B',o',b',off',cap',h6,h7,h8,h9⟩:=kc_isl hs1 (Rel.ext hx _ _ hr) hf hne g1
 rw[h2] at h6
 injection h6 with h6;injection h6 with h6;injection h6 with h10 h11
 subst h10 h11
 exact⟨B,o,h2,⟨b,off,cap,h4,fun j v hv=>by rw[h3.cell hx];exact h5 j v hv⟩,b',off',cap',h8,h9⟩
end Go.Ev
end
