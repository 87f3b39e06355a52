/- A part of the proof that FnActWords returns true for every input and leaves its argument as it was; no condition. -/
import Derived.Test.YtccagicppnmelaaGreatDoorQo
import Derived.Test.YtccagicppnmelaaGreatDoorQa
set_option linter.all false
open List renaming length→U
open Int renaming ofNat→J,toNat→Jn
open Go.Ev
attribute [local irreducible] GC RJ KC KM cAt cOn runC stp brC bodyC cvC rsC rdC regC loopC endC skpC extC retC evJ RS.at RS.put RS.okS RS.okR RS.all RS.fst endV endVM grpA grpB grpR grpD grpO RunOps RunD bodyF resF argsFrom cArg
noncomputable section
namespace Go.Ev
open Go.Proofs
set_option maxRecDepth 100000
set_option maxHeartbeats 2000000
variable {Bn:Nat} [BOk Bn]
def c33 (a0:List Nat):denL [⟨true,y28⟩,⟨false,.bool⟩]:=(cd (iEq (J (U (c62 a0).1)) (J 0)) (((J 0),(J 0),((J 0),(J 0),([]:List Nat),([]:List Nat),[],[],[])),false,()) (cd (cd (!(c11 ((c63 ((c62 a0).1)).1)).1) true (!sEq (c25 ((c26 ((c63 ((c62 a0).1)).1)).1)).1 a0)) (((J 0),(J 0),((J 0),(J 0),([]:List Nat),([]:List Nat),[],[],[])),false,()) ((c63 ((c62 a0).1)).1,true,())))
open Classical in
def k33:Con:=⟨33,[⟨false,.str⟩],[⟨true,y28⟩,⟨false,.bool⟩],fun x=>if U (α:=Nat) x.1≤1000∧U (c103 x.1).1≤2000∧((1<U (c62 x.1).1→inT tNu (gt .str (c62 x.1).1 1,())=true))∧((iEq (wr .i64 ((c105 [([106,111,98]:List Nat),([115,116,101,112]:List Nat),([116,105,99,107]:List Nat),([102,108,117,115,104]:List Nat),([112,97,103,101,115]:List Nat),([99,104,101,99,107]:List Nat),([99,114,97,115,104]:List Nat)] (gt .str (c62 x.1).1 0)).1+(J 1))) (J 1)=true→inJ (c62 x.1).1=true))∧((2<U (c62 x.1).1→iEq (wr .i64 ((c105 [([106,111,98]:List Nat),([115,116,101,112]:List Nat),([116,105,99,107]:List Nat),([102,108,117,115,104]:List Nat),([112,97,103,101,115]:List Nat),([99,104,101,99,107]:List Nat),([99,114,97,115,104]:List Nat)] (gt .str (c62 x.1).1 0)).1+(J 1))) (J 7)=true→allT tNu (List.drop 2 (List.take (U (c62 x.1).1) (c62 x.1).1))=true))∧(U (c62 x.1).1≤1000)∧((!(c11 (c63 (c62 x.1).1).1).1)=false→(allT tPl (c63 (c62 x.1).1).1.2.2.2.2.2.2.1=true∧allT tPl (c63 (c62 x.1).1).1.2.2.2.2.2.2.2.1=true∧U (c63 (c62 x.1).1).1.2.2.2.2.2.2.1≤1000∧U (c63 (c62 x.1).1).1.2.2.2.2.2.2.2.1≤1000∧U (c63 (c62 x.1).1).1.2.2.2.2.2.2.2.2≤1000∧inT tDe ((c63 (c62 x.1).1).1.2.2.2.1,())=true∧allI tDe (c63 (c62 x.1).1).1.2.2.2.2.2.2.2.2=true∧U (c97 (c63 (c62 x.1).1).1.2.2.2.2.2.2.1).1≤2000∧U (c97 (c63 (c62 x.1).1).1.2.2.2.2.2.2.2.1).1≤2000∧inT tDe ((c63 (c62 x.1).1).1.2.1,())=true)∧allE (c26 (c63 (c62 x.1).1).1).1=true∧U (c26 (c63 (c62 x.1).1).1).1≤1000) then some (c33 x.1) else none⟩
theorem t33 (a0:List Nat) (r0:U (α:=Nat) a0≤1000) (r1:U (c103 a0).1≤2000) (r2:((1<U (c62 a0).1→inT tNu (gt .str (c62 a0).1 1,())=true))) (r3:((iEq (wr .i64 ((c105 [([106,111,98]:List Nat),([115,116,101,112]:List Nat),([116,105,99,107]:List Nat),([102,108,117,115,104]:List Nat),([112,97,103,101,115]:List Nat),([99,104,101,99,107]:List Nat),([99,114,97,115,104]:List Nat)] (gt .str (c62 a0).1 0)).1+(J 1))) (J 1)=true→inJ (c62 a0).1=true))) (r4:((2<U (c62 a0).1→iEq (wr .i64 ((c105 [([106,111,98]:List Nat),([115,116,101,112]:List Nat),([116,105,99,107]:List Nat),([102,108,117,115,104]:List Nat),([112,97,103,101,115]:List Nat),([99,104,101,99,107]:List Nat),([99,114,97,115,104]:List Nat)] (gt .str (c62 a0).1 0)).1+(J 1))) (J 7)=true→allT tNu (List.drop 2 (List.take (U (c62 a0).1) (c62 a0).1))=true))) (r5:(U (c62 a0).1≤1000)) (r6:((!(c11 (c63 (c62 a0).1).1).1)=false→(allT tPl (c63 (c62 a0).1).1.2.2.2.2.2.2.1=true∧allT tPl (c63 (c62 a0).1).1.2.2.2.2.2.2.2.1=true∧U (c63 (c62 a0).1).1.2.2.2.2.2.2.1≤1000∧U (c63 (c62 a0).1).1.2.2.2.2.2.2.2.1≤1000∧U (c63 (c62 a0).1).1.2.2.2.2.2.2.2.2≤1000∧inT tDe ((c63 (c62 a0).1).1.2.2.2.1,())=true∧allI tDe (c63 (c62 a0).1).1.2.2.2.2.2.2.2.2=true∧U (c97 (c63 (c62 a0).1).1.2.2.2.2.2.2.1).1≤2000∧U (c97 (c63 (c62 a0).1).1.2.2.2.2.2.2.2.1).1≤2000∧inT tDe ((c63 (c62 a0).1).1.2.1,())=true)∧allE (c26 (c63 (c62 a0).1).1).1=true∧U (c26 (c63 (c62 a0).1).1).1≤1000)):KC Bn k33 (a0,()) (c33 a0):=by
 refine xI (uL [k11,k25,k26,k62,k63] (okC o11 (okC o25 (okC o26 (okC o62 (okC o63 ok0)))))) Tryz.func33 fun hbd hB=>?_
 refine xr 4 ?_
 have b1:U (α:=Nat) a0≤1152921504606846976:=hbd.1
 refine ycl 1 k62 (a0,()) (c62 a0) (p62 ⟨fo1,fo1⟩) ?_
 refine yf ?_
 refine xc 5 (fun h2=>?_) fun h2=>?_
 exact xe 4
 refine xr 2 ?_
 have g3:=ne_of_ieq h2
 refine ycl 1 k63 ((c62 a0).1,()) (c63 ((c62 a0).1)) (p63 ⟨fo1,fo1,fo1,fo1,fo1⟩) ?_
 refine yf ?_
 refine xr 3 ?_
 refine yg 4 17 false (!(c11 ((c63 ((c62 a0).1)).1)).1) (!sEq (c25 ((c26 ((c63 ((c62 a0).1)).1)).1)).1 a0) (fun h4=>?_) ?_
 refine ycl 1 k26 ((c63 ((c62 a0).1)).1,()) (c26 ((c63 ((c62 a0).1)).1)) (p26 ((r6 (by assumption)).1)) ?_
 refine ycl 0 k25 ((c26 ((c63 ((c62 a0).1)).1)).1,()) (c25 ((c26 ((c63 ((c62 a0).1)).1)).1)) (p25 ((r6 (by assumption)).2)) ?_
 exact ya
 refine yf ?_
 refine xc 1 (fun h5=>?_) fun h5=>?_
 exact xe 4
 exact xe 4
theorem p33 {a0:List Nat} (h:U (α:=Nat) a0≤1000∧U (c103 a0).1≤2000∧((1<U (c62 a0).1→inT tNu (gt .str (c62 a0).1 1,())=true))∧((iEq (wr .i64 ((c105 [([106,111,98]:List Nat),([115,116,101,112]:List Nat),([116,105,99,107]:List Nat),([102,108,117,115,104]:List Nat),([112,97,103,101,115]:List Nat),([99,104,101,99,107]:List Nat),([99,114,97,115,104]:List Nat)] (gt .str (c62 a0).1 0)).1+(J 1))) (J 1)=true→inJ (c62 a0).1=true))∧((2<U (c62 a0).1→iEq (wr .i64 ((c105 [([106,111,98]:List Nat),([115,116,101,112]:List Nat),([116,105,99,107]:List Nat),([102,108,117,115,104]:List Nat),([112,97,103,101,115]:List Nat),([99,104,101,99,107]:List Nat),([99,114,97,115,104]:List Nat)] (gt .str (c62 a0).1 0)).1+(J 1))) (J 7)=true→allT tNu (List.drop 2 (List.take (U (c62 a0).1) (c62 a0).1))=true))∧(U (c62 a0).1≤1000)∧((!(c11 (c63 (c62 a0).1).1).1)=false→(allT tPl (c63 (c62 a0).1).1.2.2.2.2.2.2.1=true∧allT tPl (c63 (c62 a0).1).1.2.2.2.2.2.2.2.1=true∧U (c63 (c62 a0).1).1.2.2.2.2.2.2.1≤1000∧U (c63 (c62 a0).1).1.2.2.2.2.2.2.2.1≤1000∧U (c63 (c62 a0).1).1.2.2.2.2.2.2.2.2≤1000∧inT tDe ((c63 (c62 a0).1).1.2.2.2.1,())=true∧allI tDe (c63 (c62 a0).1).1.2.2.2.2.2.2.2.2=true∧U (c97 (c63 (c62 a0).1).1.2.2.2.2.2.2.1).1≤2000∧U (c97 (c63 (c62 a0).1).1.2.2.2.2.2.2.2.1).1≤2000∧inT tDe ((c63 (c62 a0).1).1.2.1,())=true)∧allE (c26 (c63 (c62 a0).1).1).1=true∧U (c26 (c63 (c62 a0).1).1).1≤1000)):k33.F (a0,())=some (c33 a0):=if_pos h
theorem o33:OK Bn k33:=xOp fun x (hp:U (α:=Nat) x.1≤1000∧U (c103 x.1).1≤2000∧((1<U (c62 x.1).1→inT tNu (gt .str (c62 x.1).1 1,())=true))∧((iEq (wr .i64 ((c105 [([106,111,98]:List Nat),([115,116,101,112]:List Nat),([116,105,99,107]:List Nat),([102,108,117,115,104]:List Nat),([112,97,103,101,115]:List Nat),([99,104,101,99,107]:List Nat),([99,114,97,115,104]:List Nat)] (gt .str (c62 x.1).1 0)).1+(J 1))) (J 1)=true→inJ (c62 x.1).1=true))∧((2<U (c62 x.1).1→iEq (wr .i64 ((c105 [([106,111,98]:List Nat),([115,116,101,112]:List Nat),([116,105,99,107]:List Nat),([102,108,117,115,104]:List Nat),([112,97,103,101,115]:List Nat),([99,104,101,99,107]:List Nat),([99,114,97,115,104]:List Nat)] (gt .str (c62 x.1).1 0)).1+(J 1))) (J 7)=true→allT tNu (List.drop 2 (List.take (U (c62 x.1).1) (c62 x.1).1))=true))∧(U (c62 x.1).1≤1000)∧((!(c11 (c63 (c62 x.1).1).1).1)=false→(allT tPl (c63 (c62 x.1).1).1.2.2.2.2.2.2.1=true∧allT tPl (c63 (c62 x.1).1).1.2.2.2.2.2.2.2.1=true∧U (c63 (c62 x.1).1).1.2.2.2.2.2.2.1≤1000∧U (c63 (c62 x.1).1).1.2.2.2.2.2.2.2.1≤1000∧U (c63 (c62 x.1).1).1.2.2.2.2.2.2.2.2≤1000∧inT tDe ((c63 (c62 x.1).1).1.2.2.2.1,())=true∧allI tDe (c63 (c62 x.1).1).1.2.2.2.2.2.2.2.2=true∧U (c97 (c63 (c62 x.1).1).1.2.2.2.2.2.2.1).1≤2000∧U (c97 (c63 (c62 x.1).1).1.2.2.2.2.2.2.2.1).1≤2000∧inT tDe ((c63 (c62 x.1).1).1.2.1,())=true)∧allE (c26 (c63 (c62 x.1).1).1).1=true∧U (c26 (c63 (c62 x.1).1).1).1≤1000))=>t33 _ hp.1 hp.2.1 hp.2.2.1 hp.2.2.2.1 hp.2.2.2.2.1 hp.2.2.2.2.2.1 hp.2.2.2.2.2.2
def c10 (a0:List Nat):denL [⟨true,y28⟩,⟨false,.bool⟩]:=(cd (!iLe (J (U (α:=Nat) a0)) (J 6000)) (((J 0),(J 0),((J 0),(J 0),([]:List Nat),([]:List Nat),[],[],[])),false,()) ((c33 a0).1,(c33 a0).2.1,()))
open Classical in
def k10:Con:=⟨10,[⟨false,.str⟩],[⟨true,y28⟩,⟨false,.bool⟩],fun x=>if U (α:=Nat) x.1≤1000∧U (c103 x.1).1≤2000∧((1<U (c62 x.1).1→inT tNu (gt .str (c62 x.1).1 1,())=true))∧((iEq (wr .i64 ((c105 [([106,111,98]:List Nat),([115,116,101,112]:List Nat),([116,105,99,107]:List Nat),([102,108,117,115,104]:List Nat),([112,97,103,101,115]:List Nat),([99,104,101,99,107]:List Nat),([99,114,97,115,104]:List Nat)] (gt .str (c62 x.1).1 0)).1+(J 1))) (J 1)=true→inJ (c62 x.1).1=true))∧((2<U (c62 x.1).1→iEq (wr .i64 ((c105 [([106,111,98]:List Nat),([115,116,101,112]:List Nat),([116,105,99,107]:List Nat),([102,108,117,115,104]:List Nat),([112,97,103,101,115]:List Nat),([99,104,101,99,107]:List Nat),([99,114,97,115,104]:List Nat)] (gt .str (c62 x.1).1 0)).1+(J 1))) (J 7)=true→allT tNu (List.drop 2 (List.take (U (c62 x.1).1) (c62 x.1).1))=true))∧(U (c62 x.1).1≤1000)∧((!(c11 (c63 (c62 x.1).1).1).1)=false→(allT tPl (c63 (c62 x.1).1).1.2.2.2.2.2.2.1=true∧allT tPl (c63 (c62 x.1).1).1.2.2.2.2.2.2.2.1=true∧U (c63 (c62 x.1).1).1.2.2.2.2.2.2.1≤1000∧U (c63 (c62 x.1).1).1.2.2.2.2.2.2.2.1≤1000∧U (c63 (c62 x.1).1).1.2.2.2.2.2.2.2.2≤1000∧inT tDe ((c63 (c62 x.1).1).1.2.2.2.1,())=true∧allI tDe (c63 (c62 x.1).1).1.2.2.2.2.2.2.2.2=true∧U (c97 (c63 (c62 x.1).1).1.2.2.2.2.2.2.1).1≤2000∧U (c97 (c63 (c62 x.1).1).1.2.2.2.2.2.2.2.1).1≤2000∧inT tDe ((c63 (c62 x.1).1).1.2.1,())=true)∧allE (c26 (c63 (c62 x.1).1).1).1=true∧U (c26 (c63 (c62 x.1).1).1).1≤1000) then some (c10 x.1) else none⟩
theorem t10 (a0:List Nat) (r0:U (α:=Nat) a0≤1000) (r1:U (c103 a0).1≤2000) (r2:((1<U (c62 a0).1→inT tNu (gt .str (c62 a0).1 1,())=true))) (r3:((iEq (wr .i64 ((c105 [([106,111,98]:List Nat),([115,116,101,112]:List Nat),([116,105,99,107]:List Nat),([102,108,117,115,104]:List Nat),([112,97,103,101,115]:List Nat),([99,104,101,99,107]:List Nat),([99,114,97,115,104]:List Nat)] (gt .str (c62 a0).1 0)).1+(J 1))) (J 1)=true→inJ (c62 a0).1=true))) (r4:((2<U (c62 a0).1→iEq (wr .i64 ((c105 [([106,111,98]:List Nat),([115,116,101,112]:List Nat),([116,105,99,107]:List Nat),([102,108,117,115,104]:List Nat),([112,97,103,101,115]:List Nat),([99,104,101,99,107]:List Nat),([99,114,97,115,104]:List Nat)] (gt .str (c62 a0).1 0)).1+(J 1))) (J 7)=true→allT tNu (List.drop 2 (List.take (U (c62 a0).1) (c62 a0).1))=true))) (r5:(U (c62 a0).1≤1000)) (r6:((!(c11 (c63 (c62 a0).1).1).1)=false→(allT tPl (c63 (c62 a0).1).1.2.2.2.2.2.2.1=true∧allT tPl (c63 (c62 a0).1).1.2.2.2.2.2.2.2.1=true∧U (c63 (c62 a0).1).1.2.2.2.2.2.2.1≤1000∧U (c63 (c62 a0).1).1.2.2.2.2.2.2.2.1≤1000∧U (c63 (c62 a0).1).1.2.2.2.2.2.2.2.2≤1000∧inT tDe ((c63 (c62 a0).1).1.2.2.2.1,())=true∧allI tDe (c63 (c62 a0).1).1.2.2.2.2.2.2.2.2=true∧U (c97 (c63 (c62 a0).1).1.2.2.2.2.2.2.1).1≤2000∧U (c97 (c63 (c62 a0).1).1.2.2.2.2.2.2.2.1).1≤2000∧inT tDe ((c63 (c62 a0).1).1.2.1,())=true)∧allE (c26 (c63 (c62 a0).1).1).1=true∧U (c26 (c63 (c62 a0).1).1).1≤1000)):KC Bn k10 (a0,()) (c10 a0):=by
 refine xI (uL [k33] (okC o33 ok0)) Tryz.func10 fun hbd hB=>?_
 refine xc 7 (fun h1=>?_) fun h1=>?_
 exact xe 4
 refine xr 2 ?_
 have g2:=le_of_nle h1
 have b3:U (α:=Nat) a0≤1152921504606846976:=hbd.1
 refine ycl 1 k33 (a0,()) (c33 a0) (p33 ⟨fo1,fo1,fo1,fo1,fo1,fo1,fo1⟩) ?_
 refine yf ?_
 exact xe 1
theorem p10 {a0:List Nat} (h:U (α:=Nat) a0≤1000∧U (c103 a0).1≤2000∧((1<U (c62 a0).1→inT tNu (gt .str (c62 a0).1 1,())=true))∧((iEq (wr .i64 ((c105 [([106,111,98]:List Nat),([115,116,101,112]:List Nat),([116,105,99,107]:List Nat),([102,108,117,115,104]:List Nat),([112,97,103,101,115]:List Nat),([99,104,101,99,107]:List Nat),([99,114,97,115,104]:List Nat)] (gt .str (c62 a0).1 0)).1+(J 1))) (J 1)=true→inJ (c62 a0).1=true))∧((2<U (c62 a0).1→iEq (wr .i64 ((c105 [([106,111,98]:List Nat),([115,116,101,112]:List Nat),([116,105,99,107]:List Nat),([102,108,117,115,104]:List Nat),([112,97,103,101,115]:List Nat),([99,104,101,99,107]:List Nat),([99,114,97,115,104]:List Nat)] (gt .str (c62 a0).1 0)).1+(J 1))) (J 7)=true→allT tNu (List.drop 2 (List.take (U (c62 a0).1) (c62 a0).1))=true))∧(U (c62 a0).1≤1000)∧((!(c11 (c63 (c62 a0).1).1).1)=false→(allT tPl (c63 (c62 a0).1).1.2.2.2.2.2.2.1=true∧allT tPl (c63 (c62 a0).1).1.2.2.2.2.2.2.2.1=true∧U (c63 (c62 a0).1).1.2.2.2.2.2.2.1≤1000∧U (c63 (c62 a0).1).1.2.2.2.2.2.2.2.1≤1000∧U (c63 (c62 a0).1).1.2.2.2.2.2.2.2.2≤1000∧inT tDe ((c63 (c62 a0).1).1.2.2.2.1,())=true∧allI tDe (c63 (c62 a0).1).1.2.2.2.2.2.2.2.2=true∧U (c97 (c63 (c62 a0).1).1.2.2.2.2.2.2.1).1≤2000∧U (c97 (c63 (c62 a0).1).1.2.2.2.2.2.2.2.1).1≤2000∧inT tDe ((c63 (c62 a0).1).1.2.1,())=true)∧allE (c26 (c63 (c62 a0).1).1).1=true∧U (c26 (c63 (c62 a0).1).1).1≤1000)):k10.F (a0,())=some (c10 a0):=if_pos h
theorem o10:OK Bn k10:=xOp fun x (hp:U (α:=Nat) x.1≤1000∧U (c103 x.1).1≤2000∧((1<U (c62 x.1).1→inT tNu (gt .str (c62 x.1).1 1,())=true))∧((iEq (wr .i64 ((c105 [([106,111,98]:List Nat),([115,116,101,112]:List Nat),([116,105,99,107]:List Nat),([102,108,117,115,104]:List Nat),([112,97,103,101,115]:List Nat),([99,104,101,99,107]:List Nat),([99,114,97,115,104]:List Nat)] (gt .str (c62 x.1).1 0)).1+(J 1))) (J 1)=true→inJ (c62 x.1).1=true))∧((2<U (c62 x.1).1→iEq (wr .i64 ((c105 [([106,111,98]:List Nat),([115,116,101,112]:List Nat),([116,105,99,107]:List Nat),([102,108,117,115,104]:List Nat),([112,97,103,101,115]:List Nat),([99,104,101,99,107]:List Nat),([99,114,97,115,104]:List Nat)] (gt .str (c62 x.1).1 0)).1+(J 1))) (J 7)=true→allT tNu (List.drop 2 (List.take (U (c62 x.1).1) (c62 x.1).1))=true))∧(U (c62 x.1).1≤1000)∧((!(c11 (c63 (c62 x.1).1).1).1)=false→(allT tPl (c63 (c62 x.1).1).1.2.2.2.2.2.2.1=true∧allT tPl (c63 (c62 x.1).1).1.2.2.2.2.2.2.2.1=true∧U (c63 (c62 x.1).1).1.2.2.2.2.2.2.1≤1000∧U (c63 (c62 x.1).1).1.2.2.2.2.2.2.2.1≤1000∧U (c63 (c62 x.1).1).1.2.2.2.2.2.2.2.2≤1000∧inT tDe ((c63 (c62 x.1).1).1.2.2.2.1,())=true∧allI tDe (c63 (c62 x.1).1).1.2.2.2.2.2.2.2.2=true∧U (c97 (c63 (c62 x.1).1).1.2.2.2.2.2.2.1).1≤2000∧U (c97 (c63 (c62 x.1).1).1.2.2.2.2.2.2.2.1).1≤2000∧inT tDe ((c63 (c62 x.1).1).1.2.1,())=true)∧allE (c26 (c63 (c62 x.1).1).1).1=true∧U (c26 (c63 (c62 x.1).1).1).1≤1000))=>t10 _ hp.1 hp.2.1 hp.2.2.1 hp.2.2.2.1 hp.2.2.2.2.1 hp.2.2.2.2.2.1 hp.2.2.2.2.2.2
end Go.Ev
end
noncomputable section
namespace Go.Ev
open Go.Proofs
set_option maxRecDepth 100000
def andL (l:List Bool):Bool:=List.rec true (fun b _ ih=>cd b ih false) l
theorem andL_c {b:Bool}{l:List Bool} (h:andL (b::l)=true):b=true∧andL l=true:=cd_true (show cd b (andL l) false=true from h)
theorem iLe_tt {a b:Int} (h:iLe a b=true):@LE.le Int _ a b:=by rw[iLe_eq] at h;simpa using h
theorem ble_t {a b:Nat} (h:Nat.ble a b=true):a≤b:=Nb h
abbrev i64a:Int:= -9223372036854775808
abbrev i64b:Int:=9223372036854775807
def okActB (b:den y26):Bool:=andL [allT tPl b.2.2.2.2.1,allT tPl b.2.2.2.2.2.1,Nat.ble (U b.2.2.2.2.1) 1000,Nat.ble (U b.2.2.2.2.2.1) 1000,Nat.ble (U b.2.2.2.2.2.2) 1000,Nat.ble (U (c48 b).1) 3000,Nat.ble 1 (U (c48 b).1),iLe i64a b.2.1,iLe b.2.1 i64b,allR ([b.2.1]++b.2.2.2.2.2.2),Nat.ble (U (c18 b).1) 1000000,Nat.ble (U (α:=Nat) (joinN [32] (c18 b).1)) 1099511627776,allLn (c18 b).1]
theorem okActB_t {b:den y26} (h:okActB b=true):okAct b:=by
 obtain⟨h1,h⟩:=andL_c h
 obtain⟨h2,h⟩:=andL_c h
 obtain⟨h3,h⟩:=andL_c h
 obtain⟨h4,h⟩:=andL_c h
 obtain⟨h5,h⟩:=andL_c h
 obtain⟨h6,h⟩:=andL_c h
 obtain⟨h7,h⟩:=andL_c h
 obtain⟨h8,h⟩:=andL_c h
 obtain⟨h9,h⟩:=andL_c h
 obtain⟨h10,h⟩:=andL_c h
 obtain⟨h11,h⟩:=andL_c h
 obtain⟨h12,h⟩:=andL_c h
 obtain⟨h13,h⟩:=andL_c h
 exact⟨h1,h2,ble_t h3,ble_t h4,ble_t h5,ble_t h6,ble_t h7,iLe_tt h8,iLe_tt h9,h10,ble_t h11,ble_t h12,h13⟩
def pre6B (a:den y28):Bool:=andL [okActB a.2.2,iLe i64a a.2.1,iLe a.2.1 i64b]
abbrev pSa:List Par:=[⟨true,y28⟩]
abbrev pTx:List Par:=[⟨false,.str⟩]
abbrev pRd:List Par:=[⟨true,y28⟩,⟨false,.bool⟩]
abbrev pBl:List Par:=[⟨false,.bool⟩]
section
variable {Bn:Nat} [BOk Bn]
theorem kok6 {a:den y28} (h:pre6B a=true):KOk PP (GG Bn) 6 pSa pTx (a,()) (c6 a):=by
 obtain⟨h1,h⟩:=andL_c h
 obtain⟨h2,h⟩:=andL_c h
 obtain⟨h3,h⟩:=andL_c h
 have h1:=okActB_t h1
 exact(o6 (Bn:=Bn)).2 (a,()) (c6 a) (p6 (okSA (k:=a.1) (t:=a.2.1) h1 (iLe_tt h2) (iLe_tt h3)))
def pre7B (x:den y28):Bool:=andL [allT tPl x.2.2.2.2.2.2.1,allT tPl x.2.2.2.2.2.2.2.1,Nat.ble (U x.2.2.2.2.2.2.1) 1000,Nat.ble (U x.2.2.2.2.2.2.2.1) 1000,Nat.ble (U x.2.2.2.2.2.2.2.2) 1000,inT tDe (x.2.2.2.1,()),allI tDe x.2.2.2.2.2.2.2.2,Nat.ble (U (c97 x.2.2.2.2.2.2.1).1) 2000,Nat.ble (U (c97 x.2.2.2.2.2.2.2.1).1) 2000,inT tDe (x.2.1,()),allE (c26 x).1,Nat.ble (U (c26 x).1) 1000]
theorem kok7 {a:den y28} (h:pre7B a=true):KOk PP (GG Bn) 7 pSa pTx (a,()) (c7 a):=by
 obtain⟨h1,h⟩:=andL_c h
 obtain⟨h2,h⟩:=andL_c h
 obtain⟨h3,h⟩:=andL_c h
 obtain⟨h4,h⟩:=andL_c h
 obtain⟨h5,h⟩:=andL_c h
 obtain⟨h6,h⟩:=andL_c h
 obtain⟨h7,h⟩:=andL_c h
 obtain⟨h8,h⟩:=andL_c h
 obtain⟨h9,h⟩:=andL_c h
 obtain⟨h10,h⟩:=andL_c h
 obtain⟨h11,h⟩:=andL_c h
 obtain⟨h12,h⟩:=andL_c h
 exact(o7 (Bn:=Bn)).2 (a,()) (c7 a) (p7 ⟨h1,h2,ble_t h3,ble_t h4,ble_t h5,h6,h7,ble_t h8,ble_t h9,h10,h11,ble_t h12⟩)
theorem kok6n {a:den y28} (h:(c17 a).1=false):KOk PP (GG Bn) 6 pSa pTx (a,()) ([],()):=by
 have t:KC Bn k6 (a,()) (cd (!(c17 a).1) (([]:List Nat),()) (([]:List Nat),())):=by
  refine xI (uL [k21_22,k17,k18,k19,k20,k24] (okC o21_22 (okC o17 (okC o18 (okC o19 (okC o20 (okC o24 ok0))))))) Tryz.func6 fun hbd hB=>?_
  refine xc 7 (fun h1=>?_) fun h1=>?_
  exact xe 4
  rw[h] at h1;cases h1
 unfold KC at t
 have t2:KOk PP (GG Bn) 6 pSa pTx (a,()) (cd (!(c17 a).1) (([]:List Nat),()) (([]:List Nat),()):denL pTx):=t
 have e:∀b,b=false→(cd (!b) (([]:List Nat),()) (([]:List Nat),()):denL pTx)=([],()):=fun b h=>by subst h;kernel_rfl
 exact(e _ h)▸t2
theorem kok7n {a:den y28} (h:(c11 a).1=false):KOk PP (GG Bn) 7 pSa pTx (a,()) ([],()):=by
 have t:KC Bn k7 (a,()) (cd (!(c11 a).1) (([]:List Nat),()) (([]:List Nat),())):=by
  refine xI (uL [k11,k25,k26] (okC o11 (okC o25 (okC o26 ok0)))) Tryz.func7 fun hbd hB=>?_
  refine xc 7 (fun h1=>?_) fun h1=>?_
  exact xe 4
  rw[h] at h1;cases h1
 unfold KC at t
 have t2:KOk PP (GG Bn) 7 pSa pTx (a,()) (cd (!(c11 a).1) (([]:List Nat),()) (([]:List Nat),()):denL pTx):=t
 have e:∀b,b=false→(cd (!b) (([]:List Nat),()) (([]:List Nat),()):denL pTx)=([],()):=fun b h=>by subst h;kernel_rfl
 exact(e _ h)▸t2
end
def b7 (f:Nat→Bool):Bool:=andL [f 1,f 2,f 3,f 4,f 5,f 6,f 7]
theorem b7_t {f:Nat→Bool} (h:b7 f=true) (k:Nat) (h1:1≤k) (h7:k≤7):f k=true:=by
 obtain⟨e1,h⟩:=andL_c h
 obtain⟨e2,h⟩:=andL_c h
 obtain⟨e3,h⟩:=andL_c h
 obtain⟨e4,h⟩:=andL_c h
 obtain⟨e5,h⟩:=andL_c h
 obtain⟨e6,h⟩:=andL_c h
 obtain⟨e7,h⟩:=andL_c h
 rcases(show k=1∨k=2∨k=3∨k=4∨k=5∨k=6∨k=7 by omega) with rfl|rfl|rfl|rfl|rfl|rfl|rfl<;>assumption
def tlW (t:List Nat):List (List Nat):=List.drop 1 (List.take (U (c27 t).1) (c27 t).1)
def pre8k (t:List Nat) (k:Nat):Bool:=cd (sEq (c28 (J k)).1 (gt .str (c27 t).1 0)) (andL [cd (Nat.beq k 1) (allT tRp (List.drop 2 (tlW t))) (allT tRi (tlW t)),Nat.ble (U (tlW t)) 1000,okActB (c29 (J k) (tlW t)).1]) true
def pre8j (t:List Nat) (k:Nat):Bool:=cd (sEq (c19 (J k)).1 (gt .str (c27 t).1 0)) (cd (Nat.blt 1 (U (c27 t).1)) (inT tRi (gt .str (c27 t).1 1,())) true) true
def pre8B (t:List Nat):Bool:=andL [asB t,b7 (pre8k t),b7 (pre8j t)]
section
variable {Bn:Nat} [BOk Bn]
theorem kok8 {t:List Nat} (h:pre8B t=true):KOk PP (GG Bn) 8 pTx pRd (t,()) (c8 t):=by
 obtain⟨h1,h⟩:=andL_c h
 obtain⟨h2,h⟩:=andL_c h
 obtain⟨h3,h⟩:=andL_c h
 refine(o8 (Bn:=Bn)).2 (t,()) (c8 t) (p8 ⟨h1,fun k k1 k7 hs=>?_,fun k k1 k7 hs hl=>?_⟩)
 ·have g:=b7_t h2 k k1 k7
  unfold pre8k at g
  rw[hs] at g
  obtain⟨g1,g⟩:=andL_c (show andL [cd (Nat.beq k 1) (allT tRp (List.drop 2 (tlW t))) (allT tRi (tlW t)),Nat.ble (U (tlW t)) 1000,okActB (c29 (J k) (tlW t)).1]=true from g)
  obtain⟨g2,g⟩:=andL_c g
  obtain⟨g3,g⟩:=andL_c g
  refine⟨⟨fun hk=>?_,fun hk=>?_,ble_t g2⟩,okActB_t g3⟩
  ·have hk:k=1:=by have:((k:Nat):Int)=1:=hk;omega
   subst hk
   exact g1
  ·have hb:Nat.beq k 1=false:=by
    cases hb:Nat.beq k 1 with
    |false=>rfl
    |true=>have:=Nq hb;subst this;exact absurd rfl hk
   exact(show cd false (allT tRp (List.drop 2 (tlW t))) (allT tRi (tlW t))=true by rw[←hb];exact g1)
 ·have g:=b7_t h3 k om k7
  unfold pre8j at g
  rw[hs] at g
  have hb:Nat.blt 1 (U (c27 t).1)=true:=Nc hl
  rw[show cd true (cd (Nat.blt 1 (U (c27 t).1)) (inT tRi (gt .str (c27 t).1 1,())) true) true=cd (Nat.blt 1 (U (c27 t).1)) (inT tRi (gt .str (c27 t).1 1,())) true from rfl,hb] at g
  exact g
end
abbrev w_mains:List (List Nat):=[([106,111,98]:List Nat),([115,116,101,112]:List Nat),([116,105,99,107]:List Nat),([102,108,117,115,104]:List Nat),([112,97,103,101,115]:List Nat),([99,104,101,99,107]:List Nat),([99,114,97,115,104]:List Nat)]
def kdB (t:List Nat) (k:Int):Bool:=iEq (wr .i64 ((c105 w_mains (gt .str (c62 t).1 0)).1+(J 1))) k
def gsB (t:List Nat):den y28:=(c63 (c62 t).1).1
def pre10B (t:List Nat):Bool:=andL [Nat.ble (U (α:=Nat) t) 1000,Nat.ble (U (c103 t).1) 2000,cd (Nat.blt 1 (U (c62 t).1)) (inT tNu (gt .str (c62 t).1 1,())) true,cd (kdB t (J 1)) (inJ (c62 t).1) true,
 cd (Nat.blt 2 (U (c62 t).1)) (cd (kdB t (J 7)) (allT tNu (List.drop 2 (List.take (U (c62 t).1) (c62 t).1))) true) true,Nat.ble (U (c62 t).1) 1000,cd (c11 (gsB t)).1 (pre7B (gsB t)) true]
theorem cdi {b c:Bool} (h:cd b c true=true) (hb:b=true):c=true:=by subst hb;exact h
theorem blt_of {a b:Nat} (h:a<b):Nat.blt a b=true:=Nc h
section
variable {Bn:Nat} [BOk Bn]
theorem kok10 {t:List Nat} (h:pre10B t=true):KOk PP (GG Bn) 10 pTx pRd (t,()) (c10 t):=by
 obtain⟨h1,h⟩:=andL_c h
 obtain⟨h2,h⟩:=andL_c h
 obtain⟨h3,h⟩:=andL_c h
 obtain⟨h4,h⟩:=andL_c h
 obtain⟨h5,h⟩:=andL_c h
 obtain⟨h6,h⟩:=andL_c h
 obtain⟨h7,h⟩:=andL_c h
 refine(o10 (Bn:=Bn)).2 (t,()) (c10 t) (p10 ⟨ble_t h1,ble_t h2,fun hl=>cdi h3 (blt_of hl),fun hk=>cdi h4 hk,fun hl hk=>cdi (cdi h5 (blt_of hl)) hk,ble_t h6,fun hc=>?_⟩)
 have g:=cdi h7 (show(c11 (c63 (c62 t).1).1).1=true by simpa using hc)
 obtain⟨g1,g⟩:=andL_c g
 obtain⟨g2,g⟩:=andL_c g
 obtain⟨g3,g⟩:=andL_c g
 obtain⟨g4,g⟩:=andL_c g
 obtain⟨g5,g⟩:=andL_c g
 obtain⟨g6,g⟩:=andL_c g
 obtain⟨g7,g⟩:=andL_c g
 obtain⟨g8,g⟩:=andL_c g
 obtain⟨g9,g⟩:=andL_c g
 obtain⟨g10,g⟩:=andL_c g
 obtain⟨g11,g⟩:=andL_c g
 obtain⟨g12,g⟩:=andL_c g
 exact⟨⟨g1,g2,ble_t g3,ble_t g4,ble_t g5,g6,g7,ble_t g8,ble_t g9,g10⟩,g11,ble_t g12⟩
end
def isNilB (s:List Nat):Bool:=List.rec true (fun _ _ _=>false) s
def good1B (a:den y28):Bool:=andL [pre6B a,pre7B a,sEq (c6 a).1 (c7 a).1,pre8B (c6 a).1,cd (isNilB (c6 a).1) (!(c8 (c6 a).1).2.1) (andL [(c8 (c6 a).1).2.1,pre6B (c8 (c6 a).1).1,sEq (c6 (c8 (c6 a).1).1).1 (c6 a).1,iEq (c8 (c6 a).1).1.1 a.1])]
def good2B (t:List Nat):Bool:=andL [pre8B t,pre10B t,cd (c8 t).2.1 (cd (c10 t).2.1 (andL [pre6B (c8 t).1,sEq (c6 (c8 t).1).1 t,(c11 (c8 t).1).1]) false) (!(c10 t).2.1)]
def Good1 (Bn:Nat) (a:den y28):Prop:=KOk PP (GG Bn) 6 pSa pTx (a,()) (c6 a)∧KOk PP (GG Bn) 7 pSa pTx (a,()) (c7 a)∧(c6 a).1=(c7 a).1∧KOk PP (GG Bn) 8 pTx pRd ((c6 a).1,()) (c8 (c6 a).1)∧
 ((isNilB (c6 a).1=true∧(c8 (c6 a).1).2.1=false)∨(isNilB (c6 a).1=false∧(c8 (c6 a).1).2.1=true∧KOk PP (GG Bn) 6 pSa pTx ((c8 (c6 a).1).1,()) (c6 (c8 (c6 a).1).1)∧(c6 (c8 (c6 a).1).1).1=(c6 a).1∧(c8 (c6 a).1).1.1=a.1))
def Good2 (Bn:Nat) (t:List Nat):Prop:=KOk PP (GG Bn) 8 pTx pRd (t,()) (c8 t)∧KOk PP (GG Bn) 10 pTx pRd (t,()) (c10 t)∧(c8 t).2.1=(c10 t).2.1∧
 ((c8 t).2.1=true→KOk PP (GG Bn) 6 pSa pTx ((c8 t).1,()) (c6 (c8 t).1)∧(c6 (c8 t).1).1=t∧(c11 (c8 t).1).1=true)
theorem sEq_t {a b:List Nat} (h:sEq a b=true):a=b:=by rw[sEq_eq] at h;simpa using h
theorem iEq_t {a b:Int} (h:iEq a b=true):a=b:=by rw[iEq_eq] at h;simpa using h
end Go.Ev
end
