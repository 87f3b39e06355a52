/- A part of the proof that FnActWords returns true for every input and leaves its argument as it was; no condition. -/
import Derived.Test.YtccagicppnmelaaGreatDoorQn
import Derived.Test.YtccagicppnmelaaGreatDoorQa
set_option linter.all false
open List renaming length→U
open Int renaming ofNat→J,toNat→Jn
open Go.Ev
attribute [local irreducible] GC RJ KC KM cAt cOn runC stp brC bodyC cvC rsC rdC regC loopC endC skpC extC retC evJ RS.at RS.put RS.okS RS.okR RS.all RS.fst endV endVM grpA grpB grpR grpD grpO RunOps RunD bodyF resF argsFrom cArg
noncomputable section
namespace Go.Ev
open Go.Proofs
set_option maxRecDepth 100000
set_option maxHeartbeats 2000000
variable {Bn:Nat} [BOk Bn]
def c8_L2 (a0:List Nat) (s1:Bool×Nat×Int×Int×Int×List Nat×List Nat×List (den .str)×List (den .str)×List (den (.int .i64))):(Bool×Nat×Int×Int)→Out (Bool×Nat×Int×Int) (denL [⟨true,y28⟩,⟨false,.bool⟩]):=fun s2=>(cd (iLe (J s2.2.1) (J 7)) (cd (sEq (c19 (J s2.2.1)).1 (gt .str ((c27 a0).1) 0)) (cd (!iLe (J (U (c27 a0).1)) (J 1)) (.go ((c30 (gt .str ((c27 a0).1) 1)).2.1,s2.2.1+1,(J s2.2.1),(c30 (gt .str ((c27 a0).1) 1)).1)) (.go (s2.1,s2.2.1+1,(J s2.2.1),s2.2.2.2))) (.go (s2.1,s2.2.1+1,s2.2.2.1,s2.2.2.2))) (.brk s2))
def c8_L1 (a0:List Nat):(Bool×Nat×Int×Int×Int×List Nat×List Nat×List (den .str)×List (den .str)×List (den (.int .i64)))→Out (Bool×Nat×Int×Int×Int×List Nat×List Nat×List (den .str)×List (den .str)×List (den (.int .i64))) (denL [⟨true,y28⟩,⟨false,.bool⟩]):=fun s1=>(cd (iLe (J s1.2.1) (J 7)) (cd (sEq (c28 (J s1.2.1)).1 (gt .str ((c27 a0).1) 0)) (.go ((c29 (J s1.2.1) (List.drop 1 (List.take (U ((c27 a0).1)) ((c27 a0).1)))).2.1,s1.2.1+1,(J 1),(c29 (J s1.2.1) (List.drop 1 (List.take (U ((c27 a0).1)) ((c27 a0).1)))).1.1,(c29 (J s1.2.1) (List.drop 1 (List.take (U ((c27 a0).1)) ((c27 a0).1)))).1.2.1,(c29 (J s1.2.1) (List.drop 1 (List.take (U ((c27 a0).1)) ((c27 a0).1)))).1.2.2.1,(c29 (J s1.2.1) (List.drop 1 (List.take (U ((c27 a0).1)) ((c27 a0).1)))).1.2.2.2.1,(c29 (J s1.2.1) (List.drop 1 (List.take (U ((c27 a0).1)) ((c27 a0).1)))).1.2.2.2.2.1,(c29 (J s1.2.1) (List.drop 1 (List.take (U ((c27 a0).1)) ((c27 a0).1)))).1.2.2.2.2.2.1,(c29 (J s1.2.1) (List.drop 1 (List.take (U ((c27 a0).1)) ((c27 a0).1)))).1.2.2.2.2.2.2)) (.go (s1.1,s1.2.1+1,s1.2.2.1,s1.2.2.2.1,s1.2.2.2.2.1,s1.2.2.2.2.2.1,s1.2.2.2.2.2.2.1,s1.2.2.2.2.2.2.2.1,s1.2.2.2.2.2.2.2.2.1,s1.2.2.2.2.2.2.2.2.2))) (.brk s1))
def c8 (a0:List Nat):denL [⟨true,y28⟩,⟨false,.bool⟩]:=(cd (iEq (J (U (c27 a0).1)) (J 0)) (((J 0),(J 0),((J 0),(J 0),([]:List Nat),([]:List Nat),[],[],[])),false,()) (outE (dfR _) (fun s1=>(outE (dfR _) (fun s2=>(cd (cd (!s2.1) true (!sEq (c6 (s2.2.2.1,s2.2.2.2,s1.2.2.2)).1 a0)) (((J 0),(J 0),((J 0),(J 0),([]:List Nat),([]:List Nat),[],[],[])),false,()) ((s2.2.2.1,s2.2.2.2,s1.2.2.2),true,()))) (fun r=>r) (scan (c8_L2 a0 s1) ((fun(s2:Bool×Nat×Int×Int)=>8 - s2.2.1) (s1.1,2,s1.2.2.1,(J 0))+1) (s1.1,2,s1.2.2.1,(J 0))))) (fun r=>r) (scan (c8_L1 a0) ((fun(s1:Bool×Nat×Int×Int×Int×List Nat×List Nat×List (den .str)×List (den .str)×List (den (.int .i64)))=>8 - s1.2.1) (true,1,(J 0),(J 0),(J 0),([]:List Nat),([]:List Nat),[],[],[])+1) (true,1,(J 0),(J 0),(J 0),([]:List Nat),([]:List Nat),[],[],[]))))
open Classical in
def k8:Con:=⟨8,[⟨false,.str⟩],[⟨true,y28⟩,⟨false,.bool⟩],fun x=>if asB x.1=true∧((∀k:Nat,1≤k→k≤7→sEq (c28 (J k)).1 (gt .str ((c27 x.1).1) 0)=true→((@Eq Int (J k) 1→allT tRp (List.drop 2 (List.drop 1 (List.take (U ((c27 x.1).1)) ((c27 x.1).1))))=true)∧(@Ne Int (J k) 1→allT tRi (List.drop 1 (List.take (U ((c27 x.1).1)) ((c27 x.1).1)))=true)∧U (List.drop 1 (List.take (U ((c27 x.1).1)) ((c27 x.1).1)))≤1000)∧okAct (c29 (J k) (List.drop 1 (List.take (U ((c27 x.1).1)) ((c27 x.1).1)))).1))∧((∀k:Nat,2≤k→k≤7→sEq (c19 (J k)).1 (gt .str ((c27 x.1).1) 0)=true→1<U (c27 x.1).1→inT tRi (gt .str ((c27 x.1).1) 1,())=true)) then some (c8 x.1) else none⟩
theorem t8 (a0:List Nat) (r0:asB a0=true) (r1:((∀k:Nat,1≤k→k≤7→sEq (c28 (J k)).1 (gt .str ((c27 a0).1) 0)=true→((@Eq Int (J k) 1→allT tRp (List.drop 2 (List.drop 1 (List.take (U ((c27 a0).1)) ((c27 a0).1))))=true)∧(@Ne Int (J k) 1→allT tRi (List.drop 1 (List.take (U ((c27 a0).1)) ((c27 a0).1)))=true)∧U (List.drop 1 (List.take (U ((c27 a0).1)) ((c27 a0).1)))≤1000)∧okAct (c29 (J k) (List.drop 1 (List.take (U ((c27 a0).1)) ((c27 a0).1)))).1))) (r2:((∀k:Nat,2≤k→k≤7→sEq (c19 (J k)).1 (gt .str ((c27 a0).1) 0)=true→1<U (c27 a0).1→inT tRi (gt .str ((c27 a0).1) 1,())=true))):KC Bn k8 (a0,()) (c8 a0):=by
 refine xI (uL [k19,k27,k28,k29,k30,k6] (okC o19 (okC o27 (okC o28 (okC o29 (okC o30 (okC o6 ok0))))))) Tryz.func8 fun hbd hB=>?_
 refine xr 4 ?_
 have b1:U (α:=Nat) a0≤1152921504606846976:=hbd.1
 refine ycl 1 k27 (a0,()) (c27 a0) (p27 fo1) ?_
 refine yf ?_
 refine xc 5 (fun h2=>?_) fun h2=>?_
 exact xe 4
 have g3:=ne_of_ieq h2
 refine xnlB 9 1 29 [(.i .i64 (J 0)),(.i .i64 (J 0)),(.i .i64 (J 0)),(.i .i64 (J 0)),(.s 0 []),(.s 0 []),(.v (.slice none 0 0)),(.v (.slice none 0 0)),(.v (.slice none 0 0))] [(.i .i64 (J 0)),(.i .i64 (J 0)),(.i .i64 (J 0)),(.i .i64 (J 0)),(.s 0 []),(.s 0 []),(.isl .str []),(.isl .str []),(.isl (.int .i64) [])] ⟨.inl rfl,.inl rfl,.inl rfl,.inl rfl,.inl rfl,.inl rfl,.inr ⟨rfl,_,rfl⟩,.inr ⟨rfl,_,rfl⟩,.inr ⟨rfl,_,rfl⟩,trivial⟩ ?_
 refine xl 0 2 (fun(s1:Bool×Nat×Int×Int×Int×List Nat×List Nat×List (den .str)×List (den .str)×List (den (.int .i64)))=>[(path 0,(.s (U (α:=Nat) a0) a0)),(path 2,(.p (path 0) 0)),(path 3,(.b false)),(path 4,(.isl .str (c27 a0).1)),(path 5,(.p (path 1) 0)),(path 6,(.b s1.1)),(path 7,(.i .i64 (J s1.2.1)))]) (fun s1=>[some (.cs 29 [(.i .i64 (J 0)),(.i .i64 (J 0)),(.i .i64 (J 0)),(.i .i64 (J 0)),(.s 0 []),(.s 0 []),(.v (.slice none 0 0)),(.v (.slice none 0 0)),(.v (.slice none 0 0))] false),some (.cs 29 [(.i .i64 s1.2.2.1),(.i .i64 (J 0)),(.i .i64 s1.2.2.2.1),(.i .i64 s1.2.2.2.2.1),(.s (U (α:=Nat) s1.2.2.2.2.2.1) s1.2.2.2.2.2.1),(.s (U (α:=Nat) s1.2.2.2.2.2.2.1) s1.2.2.2.2.2.2.1),(.isl .str s1.2.2.2.2.2.2.2.1),(.isl .str s1.2.2.2.2.2.2.2.2.1),(.isl (.int .i64) s1.2.2.2.2.2.2.2.2.2)] false)]) (fun s1=>(1≤s1.2.1∧s1.2.1≤8)∧(@LE.le Int _ 0 s1.2.2.1∧@LE.le Int _ s1.2.2.1 7)∧okAct s1.2.2.2) (fun(s1:Bool×Nat×Int×Int×Int×List Nat×List Nat×List (den .str)×List (den .str)×List (den (.int .i64)))=>8 - s1.2.1) ⟨by decide,by decide,okAct0⟩ (by dsimp only;omega) hK fun s1 i1=>?_
 obtain⟨hk1,hK1,ha1⟩:=i1
 refine xc 4 (fun h4=>?_) fun h4=>?_
 refine xd 4 ?_
 have g5:=le_of_ile h4
 refine ycl 1 k28 ((J s1.2.1),()) (c28 (J s1.2.1)) (p28 (by first|exact sw_in om om|(refine sw_in ?_ ?_<;>(simp only[Io];omega)))) ?_
 refine yi 1 .str ((c27 a0).1) 0 fo2 ?_
 refine yf ?_
 refine xc 1 (fun h6=>?_) fun h6=>?_
 refine xr 3 ?_
 refine yl 2 .str ((c27 a0).1) (some 1) none (Nr _) (by show 1≤(U ((c27 a0).1));omega) ?_
 have b7:U (List.drop 1 (List.take (U ((c27 a0).1)) ((c27 a0).1)))=min (U ((c27 a0).1)) (U ((c27 a0).1)) - 1:=by simp only[Tk,Ld]
 refine ycl 0 k29 ((J s1.2.1),(List.drop 1 (List.take (U ((c27 a0).1)) ((c27 a0).1))),()) (c29 (J s1.2.1) (List.drop 1 (List.take (U ((c27 a0).1)) ((c27 a0).1)))) (p29 ((r1 s1.2.1 om om h6).1)) ?_
 refine yf ?_
 exact xg 3 ⟨⟨by dsimp only;omega,by first|exact hK1|exact⟨by show @LE.le Int _ 0 (J 1);decide,by show @LE.le Int _ (J 1) 7;decide⟩,by first|exact ha1|exact(r1 s1.2.1 om om h6).2⟩,by dsimp only;omega⟩ (hN 6 s1.2.1 om)
 exact xg 3 ⟨⟨by dsimp only;omega,by first|exact hK1|exact⟨by show @LE.le Int _ 0 (J 1);decide,by show @LE.le Int _ (J 1) 7;decide⟩,by first|exact ha1|exact(r1 s1.2.1 om om h6).2⟩,by dsimp only;omega⟩ (hN 6 s1.2.1 om)
 refine xb 1 ?_
 have g5:=lt_of_ile h4
 refine xl 7 2 (fun(s2:Bool×Nat×Int×Int)=>[(path 0,(.s (U (α:=Nat) a0) a0)),(path 2,(.p (path 0) 0)),(path 3,(.b false)),(path 4,(.isl .str (c27 a0).1)),(path 5,(.p (path 1) 0)),(path 6,(.b s2.1)),(path 8,(.i .i64 (J s2.2.1)))]) (fun s2=>[some (.cs 29 [(.i .i64 (J 0)),(.i .i64 (J 0)),(.i .i64 (J 0)),(.i .i64 (J 0)),(.s 0 []),(.s 0 []),(.v (.slice none 0 0)),(.v (.slice none 0 0)),(.v (.slice none 0 0))] false),some (.cs 29 [(.i .i64 s2.2.2.1),(.i .i64 s2.2.2.2),(.i .i64 s1.2.2.2.1),(.i .i64 s1.2.2.2.2.1),(.s (U (α:=Nat) s1.2.2.2.2.2.1) s1.2.2.2.2.2.1),(.s (U (α:=Nat) s1.2.2.2.2.2.2.1) s1.2.2.2.2.2.2.1),(.isl .str s1.2.2.2.2.2.2.2.1),(.isl .str s1.2.2.2.2.2.2.2.2.1),(.isl (.int .i64) s1.2.2.2.2.2.2.2.2.2)] false)]) (fun s2=>(2≤s2.2.1∧s2.2.1≤8)∧(@LE.le Int _ 0 s2.2.2.1∧@LE.le Int _ s2.2.2.1 7)∧(@LE.le Int _ (-9223372036854775808) s2.2.2.2∧@LE.le Int _ s2.2.2.2 9223372036854775807)) (fun(s2:Bool×Nat×Int×Int)=>8 - s2.2.1) ⟨⟨by show 2≤2;decide,by show 2≤8;decide⟩,hK1,⟨by show @LE.le Int _ (-9223372036854775808) (J 0);decide,by show @LE.le Int _ (J 0) 9223372036854775807;decide⟩⟩ (by dsimp only;omega) hK fun s2 i2=>?_
 obtain⟨hk2,hK2,ht2⟩:=i2
 refine xc 4 (fun h6=>?_) fun h6=>?_
 refine xd 4 ?_
 have g7:=le_of_ile h6
 refine ycl 1 k19 ((J s2.2.1),()) (c19 (J s2.2.1)) (p19 (by first|exact ss_in om om|(refine ss_in ?_ ?_<;>(simp only[Io];omega)))) ?_
 refine yi 1 .str ((c27 a0).1) 0 fo2 ?_
 refine yf ?_
 refine xc 1 (fun h8=>?_) fun h8=>?_
 refine xc 6 (fun h9=>?_) fun h9=>?_
 refine xr 0 ?_
 have g10:=lt_of_nle h9
 refine yi 1 .str ((c27 a0).1) 1 fo2 ?_
 refine ycl 1 k30 ((gt .str ((c27 a0).1) 1),()) (c30 (gt .str ((c27 a0).1) 1)) (p30 (r2 s2.2.1 om om h8 om)) ?_
 refine yf ?_
 exact xg 3 ⟨⟨by dsimp only;omega,by first|exact hK2|(dsimp only;simp only[Io];omega),by first|exact ht2|exact c30_r _⟩,by dsimp only;omega⟩ (hN 6 s2.2.1 om)
 have g10:=le_of_nle h9
 exact xg 3 ⟨⟨by dsimp only;omega,by first|exact hK2|(dsimp only;simp only[Io];omega),by first|exact ht2|exact c30_r _⟩,by dsimp only;omega⟩ (hN 6 s2.2.1 om)
 exact xg 3 ⟨⟨by dsimp only;omega,by first|exact hK2|(dsimp only;simp only[Io];omega),by first|exact ht2|exact c30_r _⟩,by dsimp only;omega⟩ (hN 6 s2.2.1 om)
 refine xb 1 ?_
 refine xr 4 ?_
 refine yg 3 60 false (!s2.1) (!sEq (c6 (s2.2.2.1,s2.2.2.2,s1.2.2.2)).1 a0) (fun h7=>?_) ?_
 have g8:=lt_of_ile h6
 refine ycl 1 k6 ((s2.2.2.1,s2.2.2.2,s1.2.2.2),()) (c6 (s2.2.2.1,s2.2.2.2,s1.2.2.2)) (p6 (okSA ha1 ht2.1 ht2.2)) ?_
 exact ya
 refine yf ?_
 refine xc 1 (fun h9=>?_) fun h9=>?_
 exact xe 4
 exact xe 4
theorem p8 {a0:List Nat} (h:asB a0=true∧((∀k:Nat,1≤k→k≤7→sEq (c28 (J k)).1 (gt .str ((c27 a0).1) 0)=true→((@Eq Int (J k) 1→allT tRp (List.drop 2 (List.drop 1 (List.take (U ((c27 a0).1)) ((c27 a0).1))))=true)∧(@Ne Int (J k) 1→allT tRi (List.drop 1 (List.take (U ((c27 a0).1)) ((c27 a0).1)))=true)∧U (List.drop 1 (List.take (U ((c27 a0).1)) ((c27 a0).1)))≤1000)∧okAct (c29 (J k) (List.drop 1 (List.take (U ((c27 a0).1)) ((c27 a0).1)))).1))∧((∀k:Nat,2≤k→k≤7→sEq (c19 (J k)).1 (gt .str ((c27 a0).1) 0)=true→1<U (c27 a0).1→inT tRi (gt .str ((c27 a0).1) 1,())=true))):k8.F (a0,())=some (c8 a0):=if_pos h
theorem o8:OK Bn k8:=xOp fun x (hp:asB x.1=true∧((∀k:Nat,1≤k→k≤7→sEq (c28 (J k)).1 (gt .str ((c27 x.1).1) 0)=true→((@Eq Int (J k) 1→allT tRp (List.drop 2 (List.drop 1 (List.take (U ((c27 x.1).1)) ((c27 x.1).1))))=true)∧(@Ne Int (J k) 1→allT tRi (List.drop 1 (List.take (U ((c27 x.1).1)) ((c27 x.1).1)))=true)∧U (List.drop 1 (List.take (U ((c27 x.1).1)) ((c27 x.1).1)))≤1000)∧okAct (c29 (J k) (List.drop 1 (List.take (U ((c27 x.1).1)) ((c27 x.1).1)))).1))∧((∀k:Nat,2≤k→k≤7→sEq (c19 (J k)).1 (gt .str ((c27 x.1).1) 0)=true→1<U (c27 x.1).1→inT tRi (gt .str ((c27 x.1).1) 1,())=true)))=>t8 _ hp.1 hp.2.1 hp.2.2
def c166 (a0:Int):denL [⟨false,.bool⟩]:=((cd (cd (iLe (J 97) a0) (iLe a0 (J 122)) false) true (cd (iLe (J 65) a0) (iLe a0 (J 90)) false)),())
def k166:Con:=⟨166,[⟨false,(.int .u8)⟩],[⟨false,.bool⟩],fun x=>some (c166 x.1)⟩
theorem t166 (a0:Int):KC Bn k166 (a0,()) (c166 a0):=by
 refine xI (uL [] ok0) Tryz.func166 fun hbd hB=>?_
 exact xe 6
theorem o166:OK Bn k166:=xO fun x=>t166 _
def c167 (a0:Int):denL [⟨false,.bool⟩]:=((cd (iLe (J 48) a0) (iLe a0 (J 57)) false),())
def k167:Con:=⟨167,[⟨false,(.int .u8)⟩],[⟨false,.bool⟩],fun x=>some (c167 x.1)⟩
theorem t167 (a0:Int):KC Bn k167 (a0,()) (c167 a0):=by
 refine xI (uL [] ok0) Tryz.func167 fun hbd hB=>?_
 exact xe 6
theorem o167:OK Bn k167:=xO fun x=>t167 _
def c108_L1 (a0:List Nat):(Bool×Nat)→Out (Bool×Nat) (denL [⟨false,.bool⟩]):=fun s1=>(cd (!iLe (J (U (α:=Nat) a0)) (J s1.2)) (cd (cd (!(c166 (J (gc a0 s1.2))).1) (!(c167 (J (gc a0 s1.2))).1) false) (.ret (false,())) (.go (s1.1,s1.2+1))) (.brk s1))
def c108 (a0:List Nat):denL [⟨false,.bool⟩]:=(cd (cd (cd (!iLe (J 1) (J (U (α:=Nat) a0))) true (!iLe (J (U (α:=Nat) a0)) (J 8))) true (cd (!(c166 (J (gc a0 0))).1) (!iEq (J (gc a0 0)) (J 37)) false)) (false,()) (outE (dfR _) (fun s1=>(true,())) (fun r=>r) (scan (c108_L1 a0) ((fun(s1:Bool×Nat)=>(U (α:=Nat) a0) - s1.2) (false,1)+1) (false,1))))
def k108:Con:=⟨108,[⟨false,.str⟩],[⟨false,.bool⟩],fun x=>some (c108 x.1)⟩
theorem t108 (a0:List Nat):KC Bn k108 (a0,()) (c108 a0):=by
 refine xI (uL [k166,k167] (okC o166 (okC o167 ok0))) Tryz.func108 fun hbd hB=>?_
 refine xr 5 ?_
 refine yg 9 12 false (cd (!iLe (J 1) (J (U (α:=Nat) a0))) true (!iLe (J (U (α:=Nat) a0)) (J 8))) (cd (!(c166 (J (gc a0 0))).1) (!iEq (J (gc a0 0)) (J 37)) false) (fun h1=>?_) ?_
 have g2:=le_of_nle (oF h1).1
 have g3:=le_of_nle (oF h1).2
 have b4:U (α:=Nat) a0≤1152921504606846976:=hbd.1
 refine yx 1 a0 0 fo2 ?_
 refine yg 3 17 true (!(c166 (J (gc a0 0))).1) (!iEq (J (gc a0 0)) (J 37)) (fun h5=>?_) ?_
 refine yx 1 a0 0 fo2 ?_
 exact ya
 exact ya
 refine yf ?_
 refine xc 1 (fun h6=>?_) fun h6=>?_
 exact xe 4
 have g7:=le_of_nle (oF (oF h6).1).1
 have g8:=le_of_nle (oF (oF h6).1).2
 have b9:U (α:=Nat) a0≤1152921504606846976:=hbd.1
 refine xl 6 0 (fun(s1:Bool×Nat)=>[(path 0,(.s (U (α:=Nat) a0) a0)),(path 2,(.b s1.1)),(path 3,(.i .i64 (J s1.2)))]) (fun _=>[]) (fun s1=>1≤s1.2∧(s1.2≤(U (α:=Nat) a0)∨s1.2=1)) (fun(s1:Bool×Nat)=>(U (α:=Nat) a0) - s1.2) (by first|exact Nz _|omega|(dsimp only;omega)) fo6 hK fun s1 (i1:1≤s1.2∧(s1.2≤(U (α:=Nat) a0)∨s1.2=1))=>?_
 refine xc 4 (fun h10=>?_) fun h10=>?_
 refine xr 4 ?_
 have g11:=lt_of_nle h10
 refine yx 2 a0 s1.2 fo2 ?_
 refine yg 3 34 true (!(c166 (J (gc a0 s1.2))).1) (!(c167 (J (gc a0 s1.2))).1) (fun h12=>?_) ?_
 refine yx 2 a0 s1.2 fo2 ?_
 exact ya
 refine yf ?_
 refine xc 1 (fun h13=>?_) fun h13=>?_
 refine xt 5 ?_
 exact xe 0
 exact xg 3 ⟨fo6,fo6⟩ (hN 2 s1.2 om)
 refine xb 1 ?_
 exact xe 5
theorem o108:OK Bn k108:=xO fun x=>t108 _
def c64 (a0:List Nat):denL [⟨false,.bool⟩]:=((c108 a0).1,())
def k64:Con:=⟨64,[⟨false,.str⟩],[⟨false,.bool⟩],fun x=>some (c64 x.1)⟩
theorem t64 (a0:List Nat):KC Bn k64 (a0,()) (c64 a0):=by
 refine xI (uL [k108] (okC o108 ok0)) Tryz.func64 fun hbd hB=>?_
 exact xe 6
theorem o64:OK Bn k64:=xO fun x=>t64 _
def c65_L1 (a0:den (.sl .str)) (a1:Int):(Bool×Nat)→Out (Bool×Nat) (denL [⟨false,.bool⟩]):=fun s1=>(cd (!iLe (J (U a0)) (J s1.2)) (cd (!iLe (J (U (α:=Nat) (gt .str a0 s1.2))) (J 64)) (.ret (false,())) (.go (s1.1,s1.2+1))) (.brk s1))
def c65 (a0:den (.sl .str)) (a1:Int):denL [⟨false,.bool⟩]:=(cd (!iLe (J (U a0)) a1) (false,()) (outE (dfR _) (fun s1=>(true,())) (fun r=>r) (scan (c65_L1 a0 a1) ((U a0) - 0+1) (false,0))))
def k65:Con:=⟨65,[⟨false,(.sl .str)⟩,⟨false,(.int .i64)⟩],[⟨false,.bool⟩],fun x=>some (c65 x.1 x.2.1)⟩
theorem t65 (a0:den (.sl .str)) (a1:Int):KC Bn k65 (a0,a1,()) (c65 a0 a1):=by
 refine xI (uL [] ok0) Tryz.func65 fun hbd hB=>?_
 refine xc 7 (fun h1=>?_) fun h1=>?_
 exact xe 4
 have b2:U a0≤Bn:=hbd.1.1
 refine xlc 6 0 (fun(s1:Bool×Nat)=>[(path 0,(.isl .str a0)),(path 4,(.b s1.1)),(path 5,(.i .i64 (J s1.2)))]) (fun _=>[]) (fun s1=>s1.2) (U a0) om fun s1 (i1:s1.2≤(U a0))=>?_
 refine xc 4 (fun h3=>?_) fun h3=>?_
 refine xr 4 ?_
 have g4:=lt_of_nle h3
 have x5:s1.2<U a0:=fo2
 refine yi 2 .str a0 s1.2 x5 ?_
 refine yf ?_
 refine xc 1 (fun h6=>?_) fun h6=>?_
 refine xt 5 ?_
 exact xe 0
 exact xg 3 (gI om) (hN 2 s1.2 om)
 refine xb 1 ?_
 exact xe 5
theorem o65:OK Bn k65:=xO fun x=>t65 _ _
def c66_L1 (a0:den (.sl .str)):(Bool×Nat)→Out (Bool×Nat) (denL [⟨false,.bool⟩]):=fun s1=>(cd (!iLe (J (U a0)) (J s1.2)) (cd (!iLe (J (U (α:=Nat) (gt .str a0 s1.2))) (J 64)) (.ret (false,())) (.go (s1.1,s1.2+1))) (.brk s1))
def c66 (a0:den (.sl .str)):denL [⟨false,.bool⟩]:=(cd (!iLe (J (U a0)) (J 8)) (false,()) (outE (dfR _) (fun s1=>(true,())) (fun r=>r) (scan (c66_L1 a0) ((U a0) - 0+1) (false,0))))
def k66:Con:=⟨66,[⟨false,(.sl .str)⟩],[⟨false,.bool⟩],fun x=>some (c66 x.1)⟩
theorem t66 (a0:den (.sl .str)):KC Bn k66 (a0,()) (c66 a0):=by
 refine xI (uL [] ok0) Tryz.func66 fun hbd hB=>?_
 refine xc 7 (fun h1=>?_) fun h1=>?_
 exact xe 4
 have b2:U a0≤Bn:=hbd.1.1
 refine xlc 6 0 (fun(s1:Bool×Nat)=>[(path 0,(.isl .str a0)),(path 2,(.b s1.1)),(path 3,(.i .i64 (J s1.2)))]) (fun _=>[]) (fun s1=>s1.2) (U a0) om fun s1 (i1:s1.2≤(U a0))=>?_
 refine xc 4 (fun h3=>?_) fun h3=>?_
 refine xr 4 ?_
 have g4:=le_of_nle h1
 have g5:=lt_of_nle h3
 have x6:s1.2<U a0:=fo2
 refine yi 2 .str a0 s1.2 x6 ?_
 refine yf ?_
 refine xc 1 (fun h7=>?_) fun h7=>?_
 refine xt 5 ?_
 exact xe 0
 exact xg 3 (gI om) (hN 2 s1.2 om)
 refine xb 1 ?_
 exact xe 5
theorem o66:OK Bn k66:=xO fun x=>t66 _
def c35 (a0:Int) (a1:Int) (a2:Int):denL [⟨false,.bool⟩]:=((cd (iLe a1 a0) (iLe a0 a2) false),())
def k35:Con:=⟨35,[⟨false,(.int .i64)⟩,⟨false,(.int .i64)⟩,⟨false,(.int .i64)⟩],[⟨false,.bool⟩],fun x=>some (c35 x.1 x.2.1 x.2.2.1)⟩
theorem t35 (a0:Int) (a1:Int) (a2:Int):KC Bn k35 (a0,a1,a2,()) (c35 a0 a1 a2):=by
 refine xI (uL [] ok0) Tryz.func35 fun hbd hB=>?_
 exact xe 6
theorem o35:OK Bn k35:=xO fun x=>t35 _ _ _
def c67 (a0:Int):denL [⟨false,.bool⟩]:=((c35 a0 (J 1) (J 4)).1,())
def k67:Con:=⟨67,[⟨false,(.int .i64)⟩],[⟨false,.bool⟩],fun x=>some (c67 x.1)⟩
theorem t67 (a0:Int):KC Bn k67 (a0,()) (c67 a0):=by
 refine xI (uL [k35] (okC o35 ok0)) Tryz.func67 fun hbd hB=>?_
 exact xe 6
theorem o67:OK Bn k67:=xO fun x=>t67 _
def c68_L1 (a0:den (.sl (.int .i64))):(Bool×Nat)→Out (Bool×Nat) (denL [⟨false,.bool⟩]):=fun s1=>(cd (cd (!iLe (J (U a0)) (J s1.2)) (iLe (J s1.2) (J 400)) false) (cd (cd (!iLe (J 0) (gt (.int .i64) a0 s1.2)) true (cd (!iLe (J s1.2) (J 0)) (iLe (gt (.int .i64) a0 s1.2) (gt (.int .i64) a0 (s1.2 - 1))) false)) (.ret (false,())) (.go (s1.1,s1.2+1))) (.brk s1))
def c68 (a0:den (.sl (.int .i64))):denL [⟨false,.bool⟩]:=(outE (dfR _) (fun s1=>((iLe (J (U a0)) (J 400)),())) (fun r=>r) (scan (c68_L1 a0) ((U a0) - 0+1) (false,0)))
def k68:Con:=⟨68,[⟨false,(.sl (.int .i64))⟩],[⟨false,.bool⟩],fun x=>some (c68 x.1)⟩
theorem t68 (a0:den (.sl (.int .i64))):KC Bn k68 (a0,()) (c68 a0):=by
 refine xI (uL [] ok0) Tryz.func68 fun hbd hB=>?_
 have b1:U a0≤Bn:=hbd.1.1
 refine xlc 8 0 (fun(s1:Bool×Nat)=>[(path 0,(.isl (.int .i64) a0)),(path 2,(.b s1.1)),(path 3,(.i .i64 (J s1.2)))]) (fun _=>[]) (fun s1=>s1.2) (U a0) om fun s1 (i1:s1.2≤(U a0))=>?_
 refine xc 4 (fun h2=>?_) fun h2=>?_
 refine xd 4 ?_
 have g3:=lt_of_nle (aT h2).1
 have g4:=le_of_ile (aT h2).2
 have x5:s1.2<U a0:=fo2
 refine yi 2 (.int .i64) a0 s1.2 x5 ?_
 refine yg 3 19 false (!iLe (J 0) (gt (.int .i64) a0 s1.2)) (cd (!iLe (J s1.2) (J 0)) (iLe (gt (.int .i64) a0 s1.2) (gt (.int .i64) a0 (s1.2 - 1))) false) (fun h6=>?_) ?_
 refine yg 3 22 true (!iLe (J s1.2) (J 0)) (iLe (gt (.int .i64) a0 s1.2) (gt (.int .i64) a0 (s1.2 - 1))) (fun h7=>?_) ?_
 have g8:=lt_of_nle h7
 refine yv 3 25 (.i .i64 (wr .i64 ((J s1.2) - (J 1)))) (.i .i64 (J (s1.2 - 1))) (wr_dec om om) ?_
 have x9:(s1.2 - 1)<U a0:=fo2
 refine yi 0 (.int .i64) a0 (s1.2 - 1) x9 ?_
 have x10:s1.2<U a0:=fo2
 refine yi 3 (.int .i64) a0 s1.2 x10 ?_
 exact ya
 exact ya
 refine yf ?_
 refine xc 1 (fun h11=>?_) fun h11=>?_
 refine xt 5 ?_
 exact xe 0
 exact xg 3 (gI om) (hN 2 s1.2 om)
 refine xb 1 ?_
 exact xe 5
theorem o68:OK Bn k68:=xO fun x=>t68 _
def c34 (a0:den y26):denL [⟨false,.bool⟩]:=(cd (cd (cd (!iEq a0.1 (J 1)) (cd (cd (cd (!sEq a0.2.2.1 ([]:List Nat)) true (!sEq a0.2.2.2.1 ([]:List Nat))) true (!iLe (J (U a0.2.2.2.2.1)) (J 0))) true (!iLe (J (U a0.2.2.2.2.2.1)) (J 0))) false) true (cd (!iEq a0.1 (J 7)) (!iLe (J (U a0.2.2.2.2.2.2)) (J 0)) false)) (false,()) (cd (iEq a0.1 (J 1)) ((cd (cd (cd (cd (iEq a0.2.1 (J 0)) (c64 a0.2.2.1).1 false) (c64 a0.2.2.2.1).1 false) (c65 a0.2.2.2.2.1 (J 5)).1 false) (c66 a0.2.2.2.2.2.1).1 false),()) (cd (iEq a0.1 (J 2)) ((c67 a0.2.1).1,()) (cd (iEq a0.1 (J 5)) ((c35 a0.2.1 (J 0) (J 64)).1,()) (cd (iEq a0.1 (J 7)) ((cd (c35 a0.2.1 (Int.negSucc 0) (J 1700)).1 (c68 a0.2.2.2.2.2.2).1 false),()) (cd (iEq a0.1 (J 3)) ((iEq a0.2.1 (J 0)),()) (cd (iEq a0.1 (J 4)) ((iEq a0.2.1 (J 0)),()) (cd (iEq a0.1 (J 6)) ((iEq a0.2.1 (J 0)),()) (false,())))))))))
def k34:Con:=⟨34,[⟨true,y26⟩],[⟨false,.bool⟩],fun x=>some (c34 x.1)⟩
theorem t34 (a0:den y26):KC Bn k34 (a0,()) (c34 a0):=by
 refine xI (uL [k35,k64,k65,k66,k67,k68] (okC o35 (okC o64 (okC o65 (okC o66 (okC o67 (okC o68 ok0))))))) Tryz.func34 fun hbd hB=>?_
 refine xc 7 (fun h1=>?_) fun h1=>?_
 exact xe 4
 refine xc 9 (fun h2=>?_) fun h2=>?_
 exact xe 5
 refine xc 3 (fun h3=>?_) fun h3=>?_
 exact xe 5
 refine xc 3 (fun h4=>?_) fun h4=>?_
 exact xe 5
 refine xc 3 (fun h5=>?_) fun h5=>?_
 exact xe 5
 refine xc 4 (fun h6=>?_) fun h6=>?_
 exact xe 7
 refine xc 3 (fun h7=>?_) fun h7=>?_
 exact xe 7
 refine xc 2 (fun h8=>?_) fun h8=>?_
 exact xe 5
 exact xe 5
theorem o34:OK Bn k34:=xO fun x=>t34 _
def c36 (a0:den y26):denL [⟨false,.bool⟩]:=((cd (cd (cd (cd (cd (cd (iEq a0.1 (J 0)) (iEq a0.2.1 (J 0)) false) (sEq a0.2.2.1 ([]:List Nat)) false) (sEq a0.2.2.2.1 ([]:List Nat)) false) (iEq (J (U a0.2.2.2.2.1)) (J 0)) false) (iEq (J (U a0.2.2.2.2.2.1)) (J 0)) false) (iEq (J (U a0.2.2.2.2.2.2)) (J 0)) false),())
def k36:Con:=⟨36,[⟨true,y26⟩],[⟨false,.bool⟩],fun x=>some (c36 x.1)⟩
theorem t36 (a0:den y26):KC Bn k36 (a0,()) (c36 a0):=by
 refine xI (uL [] ok0) Tryz.func36 fun hbd hB=>?_
 exact xe 6
theorem o36:OK Bn k36:=xO fun x=>t36 _
def c11 (a0:den y28):denL [⟨false,.bool⟩]:=(cd (iEq a0.1 (J 1)) ((cd (iEq a0.2.1 (J 0)) (c34 a0.2.2).1 false),()) (cd (iEq a0.1 (J 3)) ((cd (c35 a0.2.1 (J 0) (J 11)).1 (c36 a0.2.2).1 false),()) (cd (iEq a0.1 (J 4)) ((cd (c35 a0.2.1 (J 0) (J 11)).1 (c36 a0.2.2).1 false),()) (cd (iEq a0.1 (J 5)) ((cd (c35 a0.2.1 (J 0) (J 11)).1 (c36 a0.2.2).1 false),()) (cd (iEq a0.1 (J 2)) ((cd (iEq a0.2.1 (J 0)) (c36 a0.2.2).1 false),()) (cd (iEq a0.1 (J 6)) ((cd (iEq a0.2.1 (J 0)) (c36 a0.2.2).1 false),()) (cd (iEq a0.1 (J 7)) ((cd (iEq a0.2.1 (J 0)) (c36 a0.2.2).1 false),()) (false,()))))))))
def k11:Con:=⟨11,[⟨true,y28⟩],[⟨false,.bool⟩],fun x=>some (c11 x.1)⟩
theorem t11 (a0:den y28):KC Bn k11 (a0,()) (c11 a0):=by
 refine xI (uL [k34,k35,k36] (okC o34 (okC o35 (okC o36 ok0)))) Tryz.func11 fun hbd hB=>?_
 refine xc 11 (fun h1=>?_) fun h1=>?_
 exact xe 5
 refine xc 4 (fun h2=>?_) fun h2=>?_
 exact xe 7
 refine xc 3 (fun h3=>?_) fun h3=>?_
 exact xe 7
 refine xc 2 (fun h4=>?_) fun h4=>?_
 exact xe 5
 refine xc 4 (fun h5=>?_) fun h5=>?_
 exact xe 7
 refine xc 3 (fun h6=>?_) fun h6=>?_
 exact xe 7
 refine xc 2 (fun h7=>?_) fun h7=>?_
 exact xe 5
 exact xe 5
theorem o11:OK Bn k11:=xO fun x=>t11 _
def c97_L2 (a0:den (.sl .str)) (s1:Nat×List (den .str)):(Nat×List (den .str))→Out (Nat×List (den .str)) (denL [⟨false,(.sl .str)⟩,⟨false,.bool⟩]):=fun s2=>(cd (!iLe (J (U (α:=Nat) (c158 (gt .str a0 s1.1)).1)) (J s2.1)) (cd (iEq (J (gc ((c158 (gt .str a0 s1.1)).1) s2.1)) (J 32)) (.ret (s2.2,false,())) (.go (s2.1+1,s2.2))) (.brk s2))
def c97_L1 (a0:den (.sl .str)):(Nat×List (den .str))→Out (Nat×List (den .str)) (denL [⟨false,(.sl .str)⟩,⟨false,.bool⟩]):=fun s1=>(cd (!iLe (J (U a0)) (J s1.1)) (outE (.ret (dfR _)) (fun s2=>(.go (s1.1+1,(s2.2++[(c158 (gt .str a0 s1.1)).1])))) (fun r=>.ret r) (scan (c97_L2 a0 s1) ((fun(s2:Nat×List (den .str))=>U (α:=Nat) (c158 (gt .str a0 s1.1)).1 - s2.1) (0,s1.2)+1) (0,s1.2))) (.brk s1))
def c97 (a0:den (.sl .str)):denL [⟨false,(.sl .str)⟩,⟨false,.bool⟩]:=(outE (dfR _) (fun s1=>(s1.2,true,())) (fun r=>r) (scan (c97_L1 a0) ((fun(s1:Nat×List (den .str))=>U a0 - s1.1) (0,[])+1) (0,[])))
open Classical in
def k97:Con:=⟨97,[⟨false,(.sl .str)⟩],[⟨false,(.sl .str)⟩,⟨false,.bool⟩],fun x=>if allT tPl x.1=true∧U x.1≤1000 then some (c97 x.1) else none⟩
theorem t97 (a0:den (.sl .str)) (r0:allT tPl a0=true) (r1:U a0≤1000):KC Bn k97 (a0,()) (c97 a0):=by
 refine xI (uL [k158] (okC o158 ok0)) Tryz.func97 fun hbd hB=>?_
 have b1:U a0≤Bn:=hbd.1.1
 refine xlC 11 1 (fun v (s1:Nat×List (den .str))=>[(path 0,(.isl .str a0)),(path 2,(.v (.slice none 0 0))),(path 3,(.b false)),(path 4,v),(path 5,(.i .i64 (J s1.1)))]) (fun v (s1:Nat×List (den .str))=>[none]) (fun s1=>(apv .em (path 1) .str s1.2)) (fun s1=>(apb 9 .str s1.2)) (fun s1=>s1.1≤U a0∧U s1.2≤s1.1+0) (fun(s1:Nat×List (den .str))=>U a0 - s1.1) ⟨Nz _,fo3⟩ fo3 (rendD ⟨trivial,trivial⟩ kr kr kr) fun s1 i1=>?_
 obtain⟨hi1,hl1⟩:=i1
 refine xc 4 (fun h2=>?_) fun h2=>?_
 refine xr 4 ?_
 have g3:=lt_of_nle h2
 have b4:U a0≤Bn:=hbd.1.1
 have x5:s1.1<U a0:=fo2
 refine yi 2 .str a0 s1.1 x5 ?_
 have b6:U (α:=Nat) (gt .str a0 s1.1)≤1152921504606846976:=(bd_gt hbd.1 x5)
 refine ycl 1 k158 ((gt .str a0 s1.1),()) (c158 (gt .str a0 s1.1)) (p158 (by first|assumption|exact allT_get (by assumption) om)) ?_
 refine yf ?_
 have p7:U (α:=Nat) (c158 (gt .str a0 s1.1)).1≤1000:=c158_l (gt .str a0 s1.1)
 refine xlCi 6 2 (fun v (s2:Nat×List (den .str))=>[(path 0,(.isl .str a0)),(path 2,(.v (.slice none 0 0))),(path 3,(.b false)),(path 4,v),(path 5,(.i .i64 (J s1.1))),(path 6,(.s (U (α:=Nat) (c158 (gt .str a0 s1.1)).1) (c158 (gt .str a0 s1.1)).1)),(path 7,(.i .i64 (J s2.1)))]) (fun v (s2:Nat×List (den .str))=>[none,some .dead]) (fun s2=>(apv .em (path 2) .str s2.2)) (fun s2=>(apb 9 .str s2.2)) (fun s2=>s2.1≤U (α:=Nat) (c158 (gt .str a0 s1.1)).1∧U s2.2≤s1.1) (fun(s2:Nat×List (den .str))=>U (α:=Nat) (c158 (gt .str a0 s1.1)).1 - s2.1) ⟨Nz _,hl1⟩ fo3 1 (apv .em (path 1) .str s1.2) [false,false,false,true] (gA iv_em kr) ⟨bS trivial,bS trivial,trivial⟩ fun s2 i2=>?_
 obtain⟨hi2,hl2⟩:=i2
 refine xc 4 (fun h8=>?_) fun h8=>?_
 refine xr 4 ?_
 have g9:=lt_of_nle h8
 refine yx 2 ((c158 (gt .str a0 s1.1)).1) s2.1 fo2 ?_
 refine yf ?_
 refine xc 1 (fun h10=>?_) fun h10=>?_
 have g11:=eq_of_ieq h10
 refine xga 1 4 .em iv_em 2 9 .str s2.2 fo4 ?_
 refine xtC 4 ?_
 refine xtC 0 ?_
 exact xe 0
 have g11:=ne_of_ieq h10
 refine xsv 3 7 (.i .i64 (wr .i64 ((J s2.1)+(J 1)))) (.i .i64 (J s2.1+1)) (wr_inc om) ?_
 exact xgC 0 2 (apv .em (path 2) .str s2.2) [false,false,false,true] ⟨⟨fo3,fo3⟩,fo3⟩ (gA iv_em kr) ⟨bS trivial,bS trivial,trivial⟩
 refine xbC 1 ?_
 refine xr 2 ?_
 have g9:=le_of_nle h8
 refine zo 3 (zapp 0 4 9 16 .em iv_em 2 .str s2.2 ((c158 (gt .str a0 s1.1)).1) fo4 (zf ?_))
 refine yf ?_
 refine xsv 3 5 (.i .i64 (wr .i64 ((J s1.1)+(J 1)))) (.i .i64 (J s1.1+1)) (wr_inc om) ?_
 exact xgC 0 4 (.sl (path 4) 0 (wd .str) (U (s2.2++[(c158 (gt .str a0 s1.1)).1])) (U (s2.2++[(c158 (gt .str a0 s1.1)).1])) false) [false,false,false,true] ⟨⟨fo3,fo3⟩,fo3⟩ (gAn kr) ⟨bS trivial,trivial⟩
 refine xbC 1 ?_
 have g3:=le_of_nle h2
 refine xga 3 4 .em iv_em 1 9 .str s1.2 fo4 ?_
 exact xe 2
theorem p97 {a0:den (.sl .str)} (h:allT tPl a0=true∧U a0≤1000):k97.F (a0,())=some (c97 a0):=if_pos h
theorem o97:OK Bn k97:=xOp fun x (hp:allT tPl x.1=true∧U x.1≤1000)=>t97 _ hp.1 hp.2
def c55_L1 (a0:den y26):(Nat×List (den .str))→Out (Nat×List (den .str)) (denL [⟨false,(.sl .str)⟩]):=fun s1=>(cd (!iLe (J (U a0.2.2.2.2.2.2)) (J s1.1)) (.go (s1.1+1,(s1.2++[(c56 (gt (.int .i64) a0.2.2.2.2.2.2 s1.1)).1]))) (.brk s1))
def c55 (a0:den y26):denL [⟨false,(.sl .str)⟩]:=(cd (iEq a0.1 (J 1)) (cd (cd (!(c97 a0.2.2.2.2.1).2.1) true (!(c97 a0.2.2.2.2.2.1).2.1)) ([],()) (cd (nilB ((c97 a0.2.2.2.2.1).1)) (cd (!iLe (J (U (c97 a0.2.2.2.2.2.1).1)) (J 0)) (([([106,111,98]:List Nat),a0.2.2.1,a0.2.2.2.1,([105,110]:List Nat)]++(c97 a0.2.2.2.2.2.1).1),()) ([([106,111,98]:List Nat),a0.2.2.1,a0.2.2.2.1],())) (cd (!iLe (J (U (c97 a0.2.2.2.2.2.1).1)) (J 0)) (((([([106,111,98]:List Nat),a0.2.2.1,a0.2.2.2.1]++(c97 a0.2.2.2.2.1).1)++[([105,110]:List Nat)])++(c97 a0.2.2.2.2.2.1).1),()) (([([106,111,98]:List Nat),a0.2.2.1,a0.2.2.2.1]++(c97 a0.2.2.2.2.1).1),())))) (cd (iEq a0.1 (J 2)) ([([115,116,101,112]:List Nat),(c56 a0.2.1).1],()) (cd (iEq a0.1 (J 3)) ([([116,105,99,107]:List Nat)],()) (cd (iEq a0.1 (J 4)) ([([102,108,117,115,104]:List Nat)],()) (cd (iEq a0.1 (J 5)) ([([112,97,103,101,115]:List Nat),(c56 a0.2.1).1],()) (cd (iEq a0.1 (J 6)) ([([99,104,101,99,107]:List Nat)],()) (outE (dfR _) (fun s1=>(s1.2,())) (fun r=>r) (scan (c55_L1 a0) ((fun(s1:Nat×List (den .str))=>U a0.2.2.2.2.2.2 - s1.1) (0,[([99,114,97,115,104]:List Nat),(c56 a0.2.1).1])+1) (0,[([99,114,97,115,104]:List Nat),(c56 a0.2.1).1])))))))))
open Classical in
def k55:Con:=⟨55,[⟨true,y26⟩],[⟨false,(.sl .str)⟩],fun x=>if allT tPl x.1.2.2.2.2.1=true∧allT tPl x.1.2.2.2.2.2.1=true∧U x.1.2.2.2.2.1≤1000∧U x.1.2.2.2.2.2.1≤1000∧U x.1.2.2.2.2.2.2≤1000∧inT tDe (x.1.2.1,())=true∧allI tDe x.1.2.2.2.2.2.2=true∧U (c97 x.1.2.2.2.2.1).1≤2000∧U (c97 x.1.2.2.2.2.2.1).1≤2000 then some (c55 x.1) else none⟩
theorem t55 (a0:den y26) (r0:allT tPl a0.2.2.2.2.1=true) (r1:allT tPl a0.2.2.2.2.2.1=true) (r2:U a0.2.2.2.2.1≤1000) (r3:U a0.2.2.2.2.2.1≤1000) (r4:U a0.2.2.2.2.2.2≤1000) (r5:inT tDe (a0.2.1,())=true) (r6:allI tDe a0.2.2.2.2.2.2=true) (r7:U (c97 a0.2.2.2.2.1).1≤2000) (r8:U (c97 a0.2.2.2.2.2.1).1≤2000):KC Bn k55 (a0,()) (c55 a0):=by
 refine xI (uL [k56,k97] (okC o56 (okC o97 ok0))) Tryz.func55 fun hbd hB=>?_
 refine xc 11 (fun h1=>?_) fun h1=>?_
 refine xr 1 ?_
 have g2:@Eq Int a0.1 ((1:Nat):Int):=ieq_t h1
 have b3:U a0.2.2.2.2.1≤Bn:=hbd.1.2.2.2.2.1.1
 refine ycl 2 k97 (a0.2.2.2.2.1,()) (c97 a0.2.2.2.2.1) (p97 ⟨fo1,fo1⟩) ?_
 refine yf ?_
 refine xr 2 ?_
 have b4:U a0.2.2.2.2.2.1≤Bn:=hbd.1.2.2.2.2.2.1.1
 refine ycl 2 k97 (a0.2.2.2.2.2.1,()) (c97 a0.2.2.2.2.2.1) (p97 ⟨fo1,fo1⟩) ?_
 refine yf ?_
 refine xc 5 (fun h5=>?_) fun h5=>?_
 exact xe 6
 refine xsp (nilB ((c97 a0.2.2.2.2.1).1)) (fun h6=>?_) fun h6=>?_
 refine xsv 2 18 (.isl .str (c97 a0.2.2.2.2.1).1) (.isl .str []) (congrArg (AV.isl .str) (nilB_t h6)) ?_
 refine xsv 0 3 (.isl .str (c97 a0.2.2.2.2.1).1) (.isl .str []) (congrArg (AV.isl .str) (nilB_t h6)) ?_
 refine xc 6 (fun h7=>?_) fun h7=>?_
 refine xr 0 ?_
 have g8:=lt_of_nle h7
 refine zo 4 (zapnL 0 4 9 16 3 .str [([106,111,98]:List Nat),a0.2.2.1,a0.2.2.2.1,([105,110]:List Nat)] ((c97 a0.2.2.2.2.2.1).1) (by assumption) fo4 (zf ?_))
 refine yf ?_
 have b9:U ([([106,111,98]:List Nat),a0.2.2.1,a0.2.2.2.1,([105,110]:List Nat)]++(c97 a0.2.2.2.2.2.1).1)=U [([106,111,98]:List Nat),a0.2.2.1,a0.2.2.2.1,([105,110]:List Nat)]+U ((c97 a0.2.2.2.2.2.1).1):=La ..
 have b10:U [([106,111,98]:List Nat),a0.2.2.1,a0.2.2.2.1,([105,110]:List Nat)]=4:=rfl
 exact xeO 6 4 9 (U ([([106,111,98]:List Nat),a0.2.2.1,a0.2.2.2.1,([105,110]:List Nat)]++(c97 a0.2.2.2.2.2.1).1)) false false .str ([([106,111,98]:List Nat),a0.2.2.1,a0.2.2.2.1,([105,110]:List Nat)]++(c97 a0.2.2.2.2.2.1).1) fo4
 exact xe 6
 have z7:=nilB_f h6
 refine xr 2 ?_
 refine zo 6 (zapX 0 2 9 16 1 false .str [([106,111,98]:List Nat),a0.2.2.1,a0.2.2.2.1] ((c97 a0.2.2.2.2.1).1) (by assumption) fo4 (zf ?_))
 refine yf ?_
 refine xc 5 (fun h8=>?_) fun h8=>?_
 refine xr 0 ?_
 have g9:=lt_of_nle h8
 have b10:U ([([106,111,98]:List Nat),a0.2.2.1,a0.2.2.2.1]++(c97 a0.2.2.2.2.1).1)=U [([106,111,98]:List Nat),a0.2.2.1,a0.2.2.2.1]+U ((c97 a0.2.2.2.2.1).1):=La ..
 have b11:U [([106,111,98]:List Nat),a0.2.2.1,a0.2.2.2.1]=3:=rfl
 refine zo 2 (zapn 0 4 9 16 2 .str ([([106,111,98]:List Nat),a0.2.2.1,a0.2.2.2.1]++(c97 a0.2.2.2.2.1).1) ([105,110]:List Nat) fo4 (zf ?_))
 have b12:U (([([106,111,98]:List Nat),a0.2.2.1,a0.2.2.2.1]++(c97 a0.2.2.2.2.1).1)++[([105,110]:List Nat)])=U ([([106,111,98]:List Nat),a0.2.2.1,a0.2.2.2.1]++(c97 a0.2.2.2.2.1).1)+U [([105,110]:List Nat)]:=La ..
 have b13:U [([105,110]:List Nat)]=1:=rfl
 refine zo 1 (zapnL 0 5 9 16 4 .str (([([106,111,98]:List Nat),a0.2.2.1,a0.2.2.2.1]++(c97 a0.2.2.2.2.1).1)++[([105,110]:List Nat)]) ((c97 a0.2.2.2.2.2.1).1) (by assumption) fo4 (zf ?_))
 refine yf ?_
 have b14:U ((([([106,111,98]:List Nat),a0.2.2.1,a0.2.2.2.1]++(c97 a0.2.2.2.2.1).1)++[([105,110]:List Nat)])++(c97 a0.2.2.2.2.2.1).1)=U (([([106,111,98]:List Nat),a0.2.2.1,a0.2.2.2.1]++(c97 a0.2.2.2.2.1).1)++[([105,110]:List Nat)])+U ((c97 a0.2.2.2.2.2.1).1):=La ..
 exact xeO 6 5 9 (U ((([([106,111,98]:List Nat),a0.2.2.1,a0.2.2.2.1]++(c97 a0.2.2.2.2.1).1)++[([105,110]:List Nat)])++(c97 a0.2.2.2.2.2.1).1)) false false .str ((([([106,111,98]:List Nat),a0.2.2.1,a0.2.2.2.1]++(c97 a0.2.2.2.2.1).1)++[([105,110]:List Nat)])++(c97 a0.2.2.2.2.2.1).1) fo4
 have g9:=le_of_nle h8
 have b10:U ([([106,111,98]:List Nat),a0.2.2.1,a0.2.2.2.1]++(c97 a0.2.2.2.2.1).1)=U [([106,111,98]:List Nat),a0.2.2.1,a0.2.2.2.1]+U ((c97 a0.2.2.2.2.1).1):=La ..
 have b11:U [([106,111,98]:List Nat),a0.2.2.1,a0.2.2.2.1]=3:=rfl
 exact xeO 6 2 9 (U ([([106,111,98]:List Nat),a0.2.2.1,a0.2.2.2.1]++(c97 a0.2.2.2.2.1).1)) false false .str ([([106,111,98]:List Nat),a0.2.2.1,a0.2.2.2.1]++(c97 a0.2.2.2.2.1).1) fo4
 have g2:@Ne Int a0.1 ((1:Nat):Int):=ieq_f h1
 refine xc 3 (fun h3=>?_) fun h3=>?_
 refine xr 1 ?_
 have g4:@Eq Int a0.1 ((2:Nat):Int):=ieq_t h3
 refine ycl 2 k56 (a0.2.1,()) (c56 a0.2.1) (p56 (by first|assumption|exact allI_get (by assumption) om)) ?_
 refine yf ?_
 exact xe 3
 have g4:@Ne Int a0.1 ((2:Nat):Int):=ieq_f h3
 refine xc 3 (fun h5=>?_) fun h5=>?_
 exact xe 5
 have g6:@Ne Int a0.1 ((3:Nat):Int):=ieq_f h5
 refine xc 3 (fun h7=>?_) fun h7=>?_
 exact xe 5
 have g8:@Ne Int a0.1 ((4:Nat):Int):=ieq_f h7
 refine xc 3 (fun h9=>?_) fun h9=>?_
 refine xr 1 ?_
 have g10:@Eq Int a0.1 ((5:Nat):Int):=ieq_t h9
 refine ycl 2 k56 (a0.2.1,()) (c56 a0.2.1) (p56 (by first|assumption|exact allI_get (by assumption) om)) ?_
 refine yf ?_
 exact xe 3
 refine xc 3 (fun h10=>?_) fun h10=>?_
 exact xe 5
 refine xr 3 ?_
 have g11:@Ne Int a0.1 ((5:Nat):Int):=ieq_f h9
 have g12:@Ne Int a0.1 ((6:Nat):Int):=ieq_f h10
 refine ycl 2 k56 (a0.2.1,()) (c56 a0.2.1) (p56 (by first|assumption|exact allI_get (by assumption) om)) ?_
 refine yf ?_
 have b13:U a0.2.2.2.2.2.2≤Bn:=hbd.1.2.2.2.2.2.2.1
 refine xlCi 6 2 (fun v (s1:Nat×List (den .str))=>[(path 1,(.p (path 0) 0)),(path 2,(.v (.slice none 0 0))),(path 8,v),(path 9,(.i .i64 (J s1.1)))]) (fun v (s1:Nat×List (den .str))=>[some (.cs 27 [(.i .i64 a0.1),(.i .i64 a0.2.1),(.s (U (α:=Nat) a0.2.2.1) a0.2.2.1),(.s (U (α:=Nat) a0.2.2.2.1) a0.2.2.2.1),(.isl .str a0.2.2.2.2.1),(.isl .str a0.2.2.2.2.2.1),(.isl (.int .i64) a0.2.2.2.2.2.2)] false),some .dead]) (fun s1=>(.sl (path 2) 0 (wd .str) (U s1.2) (U s1.2) false)) (fun s1=>(.cs 9 (flatT .str s1.2) false)) (fun s1=>s1.1≤U a0.2.2.2.2.2.2∧U s1.2≤s1.1+2) (fun(s1:Nat×List (den .str))=>U a0.2.2.2.2.2.2 - s1.1) ⟨Nz _,fo3⟩ fo3 1 (.sl (path 1) 0 1 2 2 true) [false,false,true] (gN kr) ⟨bS bk1,bS trivial,trivial⟩ fun s1 i1=>?_
 obtain⟨hi1,hl1⟩:=i1
 refine xc 4 (fun h14=>?_) fun h14=>?_
 refine xr 3 ?_
 have g15:=lt_of_nle h14
 have b16:U a0.2.2.2.2.2.2≤Bn:=hbd.1.2.2.2.2.2.2.1
 have x17:s1.1<U a0.2.2.2.2.2.2:=fo2
 refine yi 4 (.int .i64) a0.2.2.2.2.2.2 s1.1 x17 ?_
 refine ycl 1 k56 ((gt (.int .i64) a0.2.2.2.2.2.2 s1.1),()) (c56 (gt (.int .i64) a0.2.2.2.2.2.2 s1.1)) (p56 (by first|assumption|exact allI_get (by assumption) om)) ?_
 refine zo 1 (zapn 0 4 9 16 2 .str s1.2 ((c56 (gt (.int .i64) a0.2.2.2.2.2.2 s1.1)).1) fo4 (zf ?_))
 refine yf ?_
 refine xsv 3 9 (.i .i64 (wr .i64 ((J s1.1)+(J 1)))) (.i .i64 (J s1.1+1)) (wr_inc om) ?_
 exact xgC 0 4 (.sl (path 4) 0 (wd .str) (U (s1.2++[(c56 (gt (.int .i64) a0.2.2.2.2.2.2 s1.1)).1])) (U (s1.2++[(c56 (gt (.int .i64) a0.2.2.2.2.2.2 s1.1)).1])) false) [false,false,true] ⟨⟨fo3,fo3⟩,fo3⟩ (gN kr) ⟨bS bk1,bS trivial,trivial⟩
 refine xbC 1 ?_
 have g15:=le_of_nle h14
 exact xeO 5 2 9 (U s1.2) false false .str s1.2 fo4
theorem p55 {a0:den y26} (h:allT tPl a0.2.2.2.2.1=true∧allT tPl a0.2.2.2.2.2.1=true∧U a0.2.2.2.2.1≤1000∧U a0.2.2.2.2.2.1≤1000∧U a0.2.2.2.2.2.2≤1000∧inT tDe (a0.2.1,())=true∧allI tDe a0.2.2.2.2.2.2=true∧U (c97 a0.2.2.2.2.1).1≤2000∧U (c97 a0.2.2.2.2.2.1).1≤2000):k55.F (a0,())=some (c55 a0):=if_pos h
theorem o55:OK Bn k55:=xOp fun x (hp:allT tPl x.1.2.2.2.2.1=true∧allT tPl x.1.2.2.2.2.2.1=true∧U x.1.2.2.2.2.1≤1000∧U x.1.2.2.2.2.2.1≤1000∧U x.1.2.2.2.2.2.2≤1000∧inT tDe (x.1.2.1,())=true∧allI tDe x.1.2.2.2.2.2.2=true∧U (c97 x.1.2.2.2.2.1).1≤2000∧U (c97 x.1.2.2.2.2.2.1).1≤2000)=>t55 _ hp.1 hp.2.1 hp.2.2.1 hp.2.2.2.1 hp.2.2.2.2.1 hp.2.2.2.2.2.1 hp.2.2.2.2.2.2.1 hp.2.2.2.2.2.2.2.1 hp.2.2.2.2.2.2.2.2
end Go.Ev
end
noncomputable section
namespace Go.Ev
open Go.Proofs
set_option maxRecDepth 100000
set_option maxHeartbeats 2000000
variable {Bn:Nat} [BOk Bn]
def c26 (a0:den y28):denL [⟨false,(.sl .str)⟩]:=(cd (iEq a0.1 (J 1)) ((c55 a0.2.2).1,()) (cd (iEq a0.1 (J 2)) ([([115,104,105,112]:List Nat)],()) (cd (iEq a0.1 (J 3)) ([([97,114,114,105,118,101]:List Nat),(c56 a0.2.1).1],()) (cd (iEq a0.1 (J 4)) ([([108,111,115,101]:List Nat),(c56 a0.2.1).1],()) (cd (iEq a0.1 (J 5)) ([([116,119,105,99,101]:List Nat),(c56 a0.2.1).1],()) (cd (iEq a0.1 (J 6)) ([([99,111,112,121]:List Nat)],()) ([([115,119,105,116,99,104]:List Nat)],())))))))
open Classical in
def k26:Con:=⟨26,[⟨true,y28⟩],[⟨false,(.sl .str)⟩],fun x=>if allT tPl x.1.2.2.2.2.2.2.1=true∧allT tPl x.1.2.2.2.2.2.2.2.1=true∧U x.1.2.2.2.2.2.2.1≤1000∧U x.1.2.2.2.2.2.2.2.1≤1000∧U x.1.2.2.2.2.2.2.2.2≤1000∧inT tDe (x.1.2.2.2.1,())=true∧allI tDe x.1.2.2.2.2.2.2.2.2=true∧U (c97 x.1.2.2.2.2.2.2.1).1≤2000∧U (c97 x.1.2.2.2.2.2.2.2.1).1≤2000∧inT tDe (x.1.2.1,())=true then some (c26 x.1) else none⟩
theorem t26 (a0:den y28) (r0:allT tPl a0.2.2.2.2.2.2.1=true) (r1:allT tPl a0.2.2.2.2.2.2.2.1=true) (r2:U a0.2.2.2.2.2.2.1≤1000) (r3:U a0.2.2.2.2.2.2.2.1≤1000) (r4:U a0.2.2.2.2.2.2.2.2≤1000) (r5:inT tDe (a0.2.2.2.1,())=true) (r6:allI tDe a0.2.2.2.2.2.2.2.2=true) (r7:U (c97 a0.2.2.2.2.2.2.1).1≤2000) (r8:U (c97 a0.2.2.2.2.2.2.2.1).1≤2000) (r9:inT tDe (a0.2.1,())=true):KC Bn k26 (a0,()) (c26 a0):=by
 refine xI (uL [k55,k56] (okC o55 (okC o56 ok0))) Tryz.func26 fun hbd hB=>?_
 refine xc 11 (fun h1=>?_) fun h1=>?_
 refine xr 1 ?_
 have g2:@Eq Int a0.1 ((1:Nat):Int):=ieq_t h1
 refine ycl 2 k55 (a0.2.2,()) (c55 a0.2.2) (p55 ⟨fo1,fo1,fo1,fo1,fo1,fo1,fo1,fo1,fo1⟩) ?_
 refine yf ?_
 exact xe 3
 have g2:@Ne Int a0.1 ((1:Nat):Int):=ieq_f h1
 refine xc 3 (fun h3=>?_) fun h3=>?_
 exact xe 5
 have g4:@Ne Int a0.1 ((2:Nat):Int):=ieq_f h3
 refine xc 3 (fun h5=>?_) fun h5=>?_
 refine xr 1 ?_
 have g6:@Eq Int a0.1 ((3:Nat):Int):=ieq_t h5
 refine ycl 2 k56 (a0.2.1,()) (c56 a0.2.1) (p56 (by first|assumption|exact allI_get (by assumption) om)) ?_
 refine yf ?_
 exact xe 3
 have g6:@Ne Int a0.1 ((3:Nat):Int):=ieq_f h5
 refine xc 3 (fun h7=>?_) fun h7=>?_
 refine xr 1 ?_
 have g8:@Eq Int a0.1 ((4:Nat):Int):=ieq_t h7
 refine ycl 2 k56 (a0.2.1,()) (c56 a0.2.1) (p56 (by first|assumption|exact allI_get (by assumption) om)) ?_
 refine yf ?_
 exact xe 3
 refine xc 3 (fun h8=>?_) fun h8=>?_
 refine xr 1 ?_
 have g9:@Ne Int a0.1 ((4:Nat):Int):=ieq_f h7
 have g10:@Eq Int a0.1 ((5:Nat):Int):=ieq_t h8
 refine ycl 2 k56 (a0.2.1,()) (c56 a0.2.1) (p56 (by first|assumption|exact allI_get (by assumption) om)) ?_
 refine yf ?_
 exact xe 3
 refine xc 3 (fun h9=>?_) fun h9=>?_
 exact xe 5
 exact xe 5
theorem p26 {a0:den y28} (h:allT tPl a0.2.2.2.2.2.2.1=true∧allT tPl a0.2.2.2.2.2.2.2.1=true∧U a0.2.2.2.2.2.2.1≤1000∧U a0.2.2.2.2.2.2.2.1≤1000∧U a0.2.2.2.2.2.2.2.2≤1000∧inT tDe (a0.2.2.2.1,())=true∧allI tDe a0.2.2.2.2.2.2.2.2=true∧U (c97 a0.2.2.2.2.2.2.1).1≤2000∧U (c97 a0.2.2.2.2.2.2.2.1).1≤2000∧inT tDe (a0.2.1,())=true):k26.F (a0,())=some (c26 a0):=if_pos h
theorem o26:OK Bn k26:=xOp fun x (hp:allT tPl x.1.2.2.2.2.2.2.1=true∧allT tPl x.1.2.2.2.2.2.2.2.1=true∧U x.1.2.2.2.2.2.2.1≤1000∧U x.1.2.2.2.2.2.2.2.1≤1000∧U x.1.2.2.2.2.2.2.2.2≤1000∧inT tDe (x.1.2.2.2.1,())=true∧allI tDe x.1.2.2.2.2.2.2.2.2=true∧U (c97 x.1.2.2.2.2.2.2.1).1≤2000∧U (c97 x.1.2.2.2.2.2.2.2.1).1≤2000∧inT tDe (x.1.2.1,())=true)=>t26 _ hp.1 hp.2.1 hp.2.2.1 hp.2.2.2.1 hp.2.2.2.2.1 hp.2.2.2.2.2.1 hp.2.2.2.2.2.2.1 hp.2.2.2.2.2.2.2.1 hp.2.2.2.2.2.2.2.2.1 hp.2.2.2.2.2.2.2.2.2
def c25_L1 (a0:den (.sl .str)):(Nat×List (den (.int .u8)))→Out (Nat×List (den (.int .u8))) (denL [⟨false,.str⟩]):=fun s1=>(cd (!iLe (J (U a0)) (J s1.1)) (cd (!iLe (J s1.1) (J 0)) (.go (s1.1+1,((s1.2++[(J 32)])++List.map J (gt .str a0 s1.1)))) (.go (s1.1+1,(s1.2++List.map J (gt .str a0 s1.1))))) (.brk s1))
def c25 (a0:den (.sl .str)):denL [⟨false,.str⟩]:=(outE (dfR _) (fun s1=>((List.map b8 s1.2),())) (fun r=>r) (scan (c25_L1 a0) ((fun(s1:Nat×List (den (.int .u8)))=>U a0 - s1.1) (0,[])+1) (0,[])))
open Classical in
def k25:Con:=⟨25,[⟨false,(.sl .str)⟩],[⟨false,.str⟩],fun x=>if allE x.1=true∧U x.1≤1000 then some (c25 x.1) else none⟩
theorem t25 (a0:den (.sl .str)) (r0:allE a0=true) (r1:U a0≤1000):KC Bn k25 (a0,()) (c25 a0):=by
 refine xI (uL [] ok0) Tryz.func25 fun hbd hB=>?_
 have b1:U a0≤Bn:=hbd.1.1
 refine xlC 11 1 (fun v (s1:Nat×List (den (.int .u8)))=>[(path 0,(.isl .str a0)),(path 2,(.s 0 [])),(path 3,v),(path 4,(.i .i64 (J s1.1)))]) (fun v (s1:Nat×List (den (.int .u8)))=>[none]) (fun s1=>(apv .em (path 1) (.int .u8) s1.2)) (fun s1=>(apb 5 (.int .u8) s1.2)) (fun s1=>s1.1≤U a0∧U (α:=Int) s1.2≤1001*s1.1) (fun(s1:Nat×List (den (.int .u8)))=>U a0 - s1.1) ⟨Nz _,fo3⟩ fo3 (rendD ⟨trivial,trivial⟩ kr kr kr) fun s1 i1=>?_
 obtain⟨hi1,hl1⟩:=i1
 refine xc 4 (fun h2=>?_) fun h2=>?_
 have g3:=lt_of_nle h2
 refine xc 7 (fun h4=>?_) fun h4=>?_
 refine xr 0 ?_
 have g5:=lt_of_nle h4
 refine zo 2 (zapp 0 3 5 1 .em iv_em 1 (.int .u8) s1.2 (J 32) fo4 (zf ?_))
 refine yf ?_
 refine xr 1 ?_
 have b6:U a0≤Bn:=hbd.1.1
 have x7:s1.1<U a0:=fo2
 refine yi 3 .str a0 s1.1 x7 ?_
 have e8:=allE_get r0 x7
 have b9:U (α:=Nat) (gt .str a0 s1.1)≤1152921504606846976:=(bd_gt hbd.1 x7)
 have b10:U (s1.2++[(J 32)])=U s1.2+U [(J 32)]:=La ..
 have b11:U [(J 32)]=1:=rfl
 refine zo 1 (zapSn 0 4 5 1 3 (s1.2++[(J 32)]) (gt .str a0 s1.1) (allE_get r0 om).1 fo4 (zf ?_))
 refine yf ?_
 refine xsv 3 4 (.i .i64 (wr .i64 ((J s1.1)+(J 1)))) (.i .i64 (J s1.1+1)) (wr_inc om) ?_
 exact xgC 0 4 (.sl (path 4) 0 (wd (.int .u8)) (U ((s1.2++[(J 32)])++List.map J (gt .str a0 s1.1))) (U ((s1.2++[(J 32)])++List.map J (gt .str a0 s1.1))) false) [false,false,true] ⟨⟨fo7,fo7⟩,fo7⟩ (gAm (by first|omega|(simp only[La,Lm,Lc,Ln];omega)) kr) ⟨bS trivial,trivial⟩
 refine xr 1 ?_
 have g5:=le_of_nle h4
 have b6:U a0≤Bn:=hbd.1.1
 have x7:s1.1<U a0:=fo2
 refine yi 3 .str a0 s1.1 x7 ?_
 have e8:=allE_get r0 x7
 have b9:U (α:=Nat) (gt .str a0 s1.1)≤1152921504606846976:=(bd_gt hbd.1 x7)
 refine zo 1 (zapS 0 2 5 1 .em iv_em 1 s1.2 (gt .str a0 s1.1) (allE_get r0 om).1 fo4 (zf ?_))
 refine yf ?_
 refine xsv 3 4 (.i .i64 (wr .i64 ((J s1.1)+(J 1)))) (.i .i64 (J s1.1+1)) (wr_inc om) ?_
 exact xgC 0 2 (.sl (path 2) 0 (wd (.int .u8)) (U (s1.2++List.map J (gt .str a0 s1.1))) (U (s1.2++List.map J (gt .str a0 s1.1))) false) [false,false,true] ⟨⟨fo7,fo7⟩,fo7⟩ (gAm (by first|omega|(simp only[La,Lm,Lc,Ln];omega)) kr) ⟨bS trivial,trivial⟩
 refine xbC 1 ?_
 have g3:=le_of_nle h2
 refine xga 3 3 .em iv_em 1 5 (.int .u8) s1.2 fo4 ?_
 refine xr 0 ?_
 refine zo 1 (zcs 0 s1.2 fo4 (zf ?_))
 refine yf ?_
 exact xe 1
theorem p25 {a0:den (.sl .str)} (h:allE a0=true∧U a0≤1000):k25.F (a0,())=some (c25 a0):=if_pos h
theorem o25:OK Bn k25:=xOp fun x (hp:allE x.1=true∧U x.1≤1000)=>t25 _ hp.1 hp.2
def c7 (a0:den y28):denL [⟨false,.str⟩]:=(cd (!(c11 a0).1) (([]:List Nat),()) ((c25 ((c26 a0).1)).1,()))
open Classical in
def k7:Con:=⟨7,[⟨true,y28⟩],[⟨false,.str⟩],fun x=>if allT tPl x.1.2.2.2.2.2.2.1=true∧allT tPl x.1.2.2.2.2.2.2.2.1=true∧U x.1.2.2.2.2.2.2.1≤1000∧U x.1.2.2.2.2.2.2.2.1≤1000∧U x.1.2.2.2.2.2.2.2.2≤1000∧inT tDe (x.1.2.2.2.1,())=true∧allI tDe x.1.2.2.2.2.2.2.2.2=true∧U (c97 x.1.2.2.2.2.2.2.1).1≤2000∧U (c97 x.1.2.2.2.2.2.2.2.1).1≤2000∧inT tDe (x.1.2.1,())=true∧allE (c26 x.1).1=true∧U (c26 x.1).1≤1000 then some (c7 x.1) else none⟩
theorem t7 (a0:den y28) (r0:allT tPl a0.2.2.2.2.2.2.1=true) (r1:allT tPl a0.2.2.2.2.2.2.2.1=true) (r2:U a0.2.2.2.2.2.2.1≤1000) (r3:U a0.2.2.2.2.2.2.2.1≤1000) (r4:U a0.2.2.2.2.2.2.2.2≤1000) (r5:inT tDe (a0.2.2.2.1,())=true) (r6:allI tDe a0.2.2.2.2.2.2.2.2=true) (r7:U (c97 a0.2.2.2.2.2.2.1).1≤2000) (r8:U (c97 a0.2.2.2.2.2.2.2.1).1≤2000) (r9:inT tDe (a0.2.1,())=true) (r10:allE (c26 a0).1=true) (r11:U (c26 a0).1≤1000):KC Bn k7 (a0,()) (c7 a0):=by
 refine xI (uL [k11,k25,k26] (okC o11 (okC o25 (okC o26 ok0)))) Tryz.func7 fun hbd hB=>?_
 refine xc 7 (fun h1=>?_) fun h1=>?_
 exact xe 4
 refine xr 2 ?_
 refine ycl 1 k26 (a0,()) (c26 a0) (p26 ⟨fo1,fo1,fo1,fo1,fo1,fo1,fo1,fo1,fo1,fo1⟩) ?_
 refine ycl 0 k25 ((c26 a0).1,()) (c25 ((c26 a0).1)) (p25 ⟨fo1,fo1⟩) ?_
 refine yf ?_
 exact xe 1
theorem p7 {a0:den y28} (h:allT tPl a0.2.2.2.2.2.2.1=true∧allT tPl a0.2.2.2.2.2.2.2.1=true∧U a0.2.2.2.2.2.2.1≤1000∧U a0.2.2.2.2.2.2.2.1≤1000∧U a0.2.2.2.2.2.2.2.2≤1000∧inT tDe (a0.2.2.2.1,())=true∧allI tDe a0.2.2.2.2.2.2.2.2=true∧U (c97 a0.2.2.2.2.2.2.1).1≤2000∧U (c97 a0.2.2.2.2.2.2.2.1).1≤2000∧inT tDe (a0.2.1,())=true∧allE (c26 a0).1=true∧U (c26 a0).1≤1000):k7.F (a0,())=some (c7 a0):=if_pos h
theorem o7:OK Bn k7:=xOp fun x (hp:allT tPl x.1.2.2.2.2.2.2.1=true∧allT tPl x.1.2.2.2.2.2.2.2.1=true∧U x.1.2.2.2.2.2.2.1≤1000∧U x.1.2.2.2.2.2.2.2.1≤1000∧U x.1.2.2.2.2.2.2.2.2≤1000∧inT tDe (x.1.2.2.2.1,())=true∧allI tDe x.1.2.2.2.2.2.2.2.2=true∧U (c97 x.1.2.2.2.2.2.2.1).1≤2000∧U (c97 x.1.2.2.2.2.2.2.2.1).1≤2000∧inT tDe (x.1.2.1,())=true∧allE (c26 x.1).1=true∧U (c26 x.1).1≤1000)=>t7 _ hp.1 hp.2.1 hp.2.2.1 hp.2.2.2.1 hp.2.2.2.2.1 hp.2.2.2.2.2.1 hp.2.2.2.2.2.2.1 hp.2.2.2.2.2.2.2.1 hp.2.2.2.2.2.2.2.2.1 hp.2.2.2.2.2.2.2.2.2.1 hp.2.2.2.2.2.2.2.2.2.2.1 hp.2.2.2.2.2.2.2.2.2.2.2
def c103_L1 (a0:List Nat):(Nat×Nat×List (den .str))→Out (Nat×Nat×List (den .str)) (denL [⟨false,(.sl .str)⟩]):=fun s1=>(cd (iLe (J s1.2.1) (J (U (α:=Nat) a0))) (cd (cd (iEq (J s1.2.1) (J (U (α:=Nat) a0))) true (iEq (J (gc a0 s1.2.1)) (J 32))) (.go ((s1.2.1+1),s1.2.1+1,(s1.2.2++[(List.take (s1.2.1 - s1.1) (List.drop s1.1 a0))]))) (.go (s1.1,s1.2.1+1,s1.2.2))) (.brk s1))
def c103 (a0:List Nat):denL [⟨false,(.sl .str)⟩]:=(outE (dfR _) (fun s1=>(s1.2.2,())) (fun r=>r) (scan (c103_L1 a0) ((fun(s1:Nat×Nat×List (den .str))=>U (α:=Nat) a0+1 - s1.2.1) (0,0,[])+1) (0,0,[])))
open Classical in
def k103:Con:=⟨103,[⟨false,.str⟩],[⟨false,(.sl .str)⟩],fun x=>if U (α:=Nat) x.1≤1000 then some (c103 x.1) else none⟩
theorem t103 (a0:List Nat) (r0:U (α:=Nat) a0≤1000):KC Bn k103 (a0,()) (c103 a0):=by
 refine xI (uL [] ok0) Tryz.func103 fun hbd hB=>?_
 refine xlC 14 1 (fun v (s1:Nat×Nat×List (den .str))=>[(path 0,(.s (U (α:=Nat) a0) a0)),(path 2,(.v (.slice none 0 0))),(path 3,v),(path 4,(.i .i64 (J s1.1))),(path 5,(.i .i64 (J s1.2.1)))]) (fun v (s1:Nat×Nat×List (den .str))=>[none]) (fun s1=>(apv .em (path 1) .str s1.2.2)) (fun s1=>(apb 9 .str s1.2.2)) (fun s1=>(s1.1≤s1.2.1∧s1.2.1≤U (α:=Nat) a0+1)∧U s1.2.2≤s1.2.1) (fun(s1:Nat×Nat×List (den .str))=>U (α:=Nat) a0+1 - s1.2.1) ⟨⟨Nr _,Nz _⟩,Nz _⟩ fo3 (rendD ⟨trivial,trivial⟩ kr kr kr) fun s1 i1=>?_
 obtain⟨⟨hf1,hi1⟩,hl1⟩:=i1
 refine xc 4 (fun h1=>?_) fun h1=>?_
 have g2:=le_of_ile h1
 refine xr 4 ?_
 refine yg 5 17 false (iEq (J s1.2.1) (J (U (α:=Nat) a0))) (iEq (J (gc a0 s1.2.1)) (J 32)) (fun h3=>?_) ?_
 have g4:=ne_of_ieq h3
 have b5:U (α:=Nat) a0≤1152921504606846976:=hbd.1
 refine yx 2 a0 s1.2.1 fo2 ?_
 exact ya
 refine yf ?_
 refine xc 1 (fun h6=>?_) fun h6=>?_
 refine xr 1 ?_
 have b7:U (α:=Nat) a0≤1152921504606846976:=hbd.1
 refine yls 4 a0 (some s1.1) (some s1.2.1) (by show s1.2.1≤(U (α:=Nat) a0);omega) (by show s1.1≤s1.2.1;omega) ?_
 refine zo 1 (zapp 0 3 9 16 .em iv_em 1 .str s1.2.2 (List.take (s1.2.1 - s1.1) (List.drop s1.1 a0)) fo4 (zf ?_))
 refine yf ?_
 refine xsv 5 4 (.i .i64 (wr .i64 ((J s1.2.1)+(J 1)))) (.i .i64 (J (s1.2.1+1))) (wr_inc om) ?_
 refine xsv 0 5 (.i .i64 (wr .i64 ((J s1.2.1)+(J 1)))) (.i .i64 (J s1.2.1+1)) (wr_inc om) ?_
 exact xgC 0 3 (.sl (path 3) 0 (wd .str) (U (s1.2.2++[(List.take (s1.2.1 - s1.1) (List.drop s1.1 a0))])) (U (s1.2.2++[(List.take (s1.2.1 - s1.1) (List.drop s1.1 a0))])) false) [false,false,true] ⟨⟨⟨fo3,fo3⟩,fo3⟩,fo3⟩ (gAn kr) ⟨bS trivial,trivial⟩
 have g7:=ne_of_ieq (oF h6).1
 have g8:=ne_of_ieq (oF h6).2
 refine xsv 3 5 (.i .i64 (wr .i64 ((J s1.2.1)+(J 1)))) (.i .i64 (J s1.2.1+1)) (wr_inc om) ?_
 exact xgC 0 1 (apv .em (path 1) .str s1.2.2) [false,false,true] ⟨⟨⟨fo3,fo3⟩,fo3⟩,fo3⟩ (gA iv_em kr) ⟨bS trivial,trivial⟩
 refine xbC 1 ?_
 have g2:=lt_of_ile h1
 exact xeOA 5 .em iv_em 1 9 .str s1.2.2 fo4
theorem p103 {a0:List Nat} (h:U (α:=Nat) a0≤1000):k103.F (a0,())=some (c103 a0):=if_pos h
theorem o103:OK Bn k103:=xOp fun x (hp:U (α:=Nat) x.1≤1000)=>t103 _ hp
def c62_L1 (a0:List Nat):(Nat×List (den .str))→Out (Nat×List (den .str)) (denL [⟨false,(.sl .str)⟩]):=fun s1=>(cd (!iLe (J (U (c103 a0).1)) (J s1.1)) (cd (!sEq (gt .str ((c103 a0).1) s1.1) ([]:List Nat)) (.go (s1.1+1,(s1.2++[(gt .str ((c103 a0).1) s1.1)]))) (.go (s1.1+1,s1.2))) (.brk s1))
def c62 (a0:List Nat):denL [⟨false,(.sl .str)⟩]:=(outE (dfR _) (fun s1=>(s1.2,())) (fun r=>r) (scan (c62_L1 a0) ((fun(s1:Nat×List (den .str))=>U (c103 a0).1 - s1.1) (0,[])+1) (0,[])))
open Classical in
def k62:Con:=⟨62,[⟨false,.str⟩],[⟨false,(.sl .str)⟩],fun x=>if U (α:=Nat) x.1≤1000∧U (c103 x.1).1≤2000 then some (c62 x.1) else none⟩
theorem t62 (a0:List Nat) (r0:U (α:=Nat) a0≤1000) (r1:U (c103 a0).1≤2000):KC Bn k62 (a0,()) (c62 a0):=by
 refine xI (uL [k103] (okC o103 ok0)) Tryz.func62 fun hbd hB=>?_
 refine xr 7 ?_
 have b1:U (α:=Nat) a0≤1152921504606846976:=hbd.1
 refine ycl 1 k103 (a0,()) (c103 a0) (p103 fo1) ?_
 refine yf ?_
 refine xlC 6 1 (fun v (s1:Nat×List (den .str))=>[(path 2,(.v (.slice none 0 0))),(path 3,v),(path 4,(.isl .str (c103 a0).1)),(path 5,(.i .i64 (J s1.1)))]) (fun v (s1:Nat×List (den .str))=>[none]) (fun s1=>(apv .em (path 1) .str s1.2)) (fun s1=>(apb 9 .str s1.2)) (fun s1=>s1.1≤U (c103 a0).1∧U s1.2≤s1.1+0) (fun(s1:Nat×List (den .str))=>U (c103 a0).1 - s1.1) ⟨Nz _,fo3⟩ fo3 (rendD ⟨trivial,trivial⟩ kr kr kr) fun s1 i1=>?_
 obtain⟨hi1,hl1⟩:=i1
 refine xc 4 (fun h2=>?_) fun h2=>?_
 refine xr 4 ?_
 have g3:=lt_of_nle h2
 refine yi 2 .str ((c103 a0).1) s1.1 fo2 ?_
 refine yf ?_
 refine xc 1 (fun h4=>?_) fun h4=>?_
 refine xr 0 ?_
 have g5:=len1_ofn h4
 refine yi 3 .str ((c103 a0).1) s1.1 fo2 ?_
 refine zo 2 (zapp 0 3 9 16 .em iv_em 1 .str s1.2 (gt .str ((c103 a0).1) s1.1) fo4 (zf ?_))
 refine yf ?_
 refine xsv 3 5 (.i .i64 (wr .i64 ((J s1.1)+(J 1)))) (.i .i64 (J s1.1+1)) (wr_inc om) ?_
 exact xgC 0 3 (.sl (path 3) 0 (wd .str) (U (s1.2++[(gt .str ((c103 a0).1) s1.1)])) (U (s1.2++[(gt .str ((c103 a0).1) s1.1)])) false) [false,true] ⟨⟨fo3,fo3⟩,fo3⟩ (gAn kr) ⟨bS trivial,trivial⟩
 have g5:=len0_ofn h4
 refine xsv 3 5 (.i .i64 (wr .i64 ((J s1.1)+(J 1)))) (.i .i64 (J s1.1+1)) (wr_inc om) ?_
 exact xgC 0 1 (apv .em (path 1) .str s1.2) [false,true] ⟨⟨fo3,fo3⟩,fo3⟩ (gA iv_em kr) ⟨bS trivial,trivial⟩
 refine xbC 1 ?_
 have g3:=le_of_nle h2
 exact xeOA 5 .em iv_em 1 9 .str s1.2 fo4
theorem p62 {a0:List Nat} (h:U (α:=Nat) a0≤1000∧U (c103 a0).1≤2000):k62.F (a0,())=some (c62 a0):=if_pos h
theorem o62:OK Bn k62:=xOp fun x (hp:U (α:=Nat) x.1≤1000∧U (c103 x.1).1≤2000)=>t62 _ hp.1 hp.2
def c105_L1 (a0:den (.sl .str)) (a1:List Nat):(Nat×Nat)→Out (Nat×Nat) (denL [⟨false,(.int .i64)⟩]):=fun s1=>(cd (!iLe (J (U a0)) (J s1.2)) (cd (sEq (gt .str a0 s1.2) a1) (.ret ((J s1.2),())) (.go (s1.1,s1.2+1))) (.brk s1))
def c105 (a0:den (.sl .str)) (a1:List Nat):denL [⟨false,(.int .i64)⟩]:=(outE (dfR _) (fun s1=>((Int.negSucc 0),())) (fun r=>r) (scan (c105_L1 a0 a1) ((U a0) - 0+1) (0,0)))
def k105:Con:=⟨105,[⟨false,(.sl .str)⟩,⟨false,.str⟩],[⟨false,(.int .i64)⟩],fun x=>some (c105 x.1 x.2.1)⟩
theorem t105 (a0:den (.sl .str)) (a1:List Nat):KC Bn k105 (a0,a1,()) (c105 a0 a1):=by
 refine xI (uL [] ok0) Tryz.func105 fun hbd hB=>?_
 have b1:U a0≤Bn:=hbd.1.1
 refine xlc 8 0 (fun(s1:Nat×Nat)=>[(path 0,(.isl .str a0)),(path 1,(.s (U (α:=Nat) a1) a1)),(path 4,(.i .i64 (J s1.1))),(path 5,(.i .i64 (J s1.2)))]) (fun _=>[]) (fun s1=>s1.2) (U a0) om fun s1 (i1:s1.2≤(U a0))=>?_
 refine xc 4 (fun h2=>?_) fun h2=>?_
 refine xr 4 ?_
 have g3:=lt_of_nle h2
 have x4:s1.2<U a0:=fo2
 refine yi 2 .str a0 s1.2 x4 ?_
 refine yf ?_
 refine xc 1 (fun h5=>?_) fun h5=>?_
 refine xt 5 ?_
 exact xe 0
 exact xg 3 (gI om) (hN 3 s1.2 om)
 refine xb 1 ?_
 exact xe 5
theorem o105:OK Bn k105:=xO fun x=>t105 _ _
def c107_L1 (a0:den (.sl .str)):(Nat×List (den (.int .i64)))→Out (Nat×List (den (.int .i64))) (denL [⟨false,(.sl (.int .i64))⟩]):=fun s1=>(cd (!iLe (J (U a0)) (J s1.1)) (cd (c104 (gt .str a0 s1.1)).2.1 (.go (s1.1+1,(s1.2++[(c104 (gt .str a0 s1.1)).1]))) (.go (s1.1+1,s1.2))) (.brk s1))
def c107 (a0:den (.sl .str)):denL [⟨false,(.sl (.int .i64))⟩]:=(outE (dfR _) (fun s1=>(s1.2,())) (fun r=>r) (scan (c107_L1 a0) ((fun(s1:Nat×List (den (.int .i64)))=>U a0 - s1.1) (0,[])+1) (0,[])))
open Classical in
def k107:Con:=⟨107,[⟨false,(.sl .str)⟩],[⟨false,(.sl (.int .i64))⟩],fun x=>if allT tNu x.1=true∧U x.1≤1000 then some (c107 x.1) else none⟩
theorem t107 (a0:den (.sl .str)) (r0:allT tNu a0=true) (r1:U a0≤1000):KC Bn k107 (a0,()) (c107 a0):=by
 refine xI (uL [k104] (okC o104 ok0)) Tryz.func107 fun hbd hB=>?_
 have b1:U a0≤Bn:=hbd.1.1
 refine xlC 11 1 (fun v (s1:Nat×List (den (.int .i64)))=>[(path 0,(.isl .str a0)),(path 2,(.v (.slice none 0 0))),(path 3,v),(path 4,(.i .i64 (J s1.1)))]) (fun v (s1:Nat×List (den (.int .i64)))=>[none]) (fun s1=>(apv .em (path 1) (.int .i64) s1.2)) (fun s1=>(apb 2 (.int .i64) s1.2)) (fun s1=>s1.1≤U a0∧U s1.2≤s1.1+0) (fun(s1:Nat×List (den (.int .i64)))=>U a0 - s1.1) ⟨Nz _,fo3⟩ fo3 (rendD ⟨trivial,trivial⟩ kr kr kr) fun s1 i1=>?_
 obtain⟨hi1,hl1⟩:=i1
 refine xc 4 (fun h2=>?_) fun h2=>?_
 refine xr 4 ?_
 have g3:=lt_of_nle h2
 have b4:U a0≤Bn:=hbd.1.1
 have x5:s1.1<U a0:=fo2
 refine yi 2 .str a0 s1.1 x5 ?_
 have b6:U (α:=Nat) (gt .str a0 s1.1)≤1152921504606846976:=(bd_gt hbd.1 x5)
 refine ycl 1 k104 ((gt .str a0 s1.1),()) (c104 (gt .str a0 s1.1)) (p104 (by first|assumption|exact allT_get (by assumption) om)) ?_
 refine yf ?_
 refine xc 4 (fun h7=>?_) fun h7=>?_
 refine xr 0 ?_
 refine zo 3 (zapp 0 3 2 8 .em iv_em 1 (.int .i64) s1.2 ((c104 (gt .str a0 s1.1)).1) fo4 (zf ?_))
 refine yf ?_
 refine xsv 3 4 (.i .i64 (wr .i64 ((J s1.1)+(J 1)))) (.i .i64 (J s1.1+1)) (wr_inc om) ?_
 exact xgC 0 3 (.sl (path 3) 0 (wd (.int .i64)) (U (s1.2++[(c104 (gt .str a0 s1.1)).1])) (U (s1.2++[(c104 (gt .str a0 s1.1)).1])) false) [false,false,true] ⟨⟨fo3,fo3⟩,fo3⟩ (gAn kr) ⟨bS trivial,trivial⟩
 refine xsv 3 4 (.i .i64 (wr .i64 ((J s1.1)+(J 1)))) (.i .i64 (J s1.1+1)) (wr_inc om) ?_
 exact xgC 0 1 (apv .em (path 1) (.int .i64) s1.2) [false,false,true] ⟨⟨fo3,fo3⟩,fo3⟩ (gA iv_em kr) ⟨bS trivial,trivial⟩
 refine xbC 1 ?_
 have g3:=le_of_nle h2
 exact xeOA 5 .em iv_em 1 2 (.int .i64) s1.2 fo4
theorem p107 {a0:den (.sl .str)} (h:allT tNu a0=true∧U a0≤1000):k107.F (a0,())=some (c107 a0):=if_pos h
theorem o107:OK Bn k107:=xOp fun x (hp:allT tNu x.1=true∧U x.1≤1000)=>t107 _ hp.1 hp.2
def c63 (a0:den (.sl .str)):denL [⟨true,y28⟩]:=(cd (!iLe (J (U a0)) (J 1)) (cd (iLe (J 0) (c105 [([106,111,98]:List Nat),([115,116,101,112]:List Nat),([116,105,99,107]:List Nat),([102,108,117,115,104]:List Nat),([112,97,103,101,115]:List Nat),([99,104,101,99,107]:List Nat),([99,114,97,115,104]:List Nat)] (gt .str a0 0)).1) (cd (iEq (wr .i64 ((c105 [([106,111,98]:List Nat),([115,116,101,112]:List Nat),([116,105,99,107]:List Nat),([102,108,117,115,104]:List Nat),([112,97,103,101,115]:List Nat),([99,104,101,99,107]:List Nat),([99,114,97,115,104]:List Nat)] (gt .str a0 0)).1+(J 1))) (J 1)) (((J 1),(J 0),(c106 a0).1),()) (cd (iEq (wr .i64 ((c105 [([106,111,98]:List Nat),([115,116,101,112]:List Nat),([116,105,99,107]:List Nat),([102,108,117,115,104]:List Nat),([112,97,103,101,115]:List Nat),([99,104,101,99,107]:List Nat),([99,114,97,115,104]:List Nat)] (gt .str a0 0)).1+(J 1))) (J 7)) (cd (!iLe (J (U a0)) (J 2)) (((J 1),(J 0),((wr .i64 ((c105 [([106,111,98]:List Nat),([115,116,101,112]:List Nat),([116,105,99,107]:List Nat),([102,108,117,115,104]:List Nat),([112,97,103,101,115]:List Nat),([99,104,101,99,107]:List Nat),([99,114,97,115,104]:List Nat)] (gt .str a0 0)).1+(J 1))),(c104 (gt .str a0 1)).1,([]:List Nat),([]:List Nat),[],[],(c107 (List.drop 2 (List.take (U a0) a0))).1)),()) (((J 1),(J 0),((wr .i64 ((c105 [([106,111,98]:List Nat),([115,116,101,112]:List Nat),([116,105,99,107]:List Nat),([102,108,117,115,104]:List Nat),([112,97,103,101,115]:List Nat),([99,104,101,99,107]:List Nat),([99,114,97,115,104]:List Nat)] (gt .str a0 0)).1+(J 1))),(c104 (gt .str a0 1)).1,([]:List Nat),([]:List Nat),[],[],[])),())) (((J 1),(J 0),((wr .i64 ((c105 [([106,111,98]:List Nat),([115,116,101,112]:List Nat),([116,105,99,107]:List Nat),([102,108,117,115,104]:List Nat),([112,97,103,101,115]:List Nat),([99,104,101,99,107]:List Nat),([99,114,97,115,104]:List Nat)] (gt .str a0 0)).1+(J 1))),(c104 (gt .str a0 1)).1,([]:List Nat),([]:List Nat),[],[],[])),()))) (((wr .i64 ((c105 [([115,104,105,112]:List Nat),([97,114,114,105,118,101]:List Nat),([108,111,115,101]:List Nat),([116,119,105,99,101]:List Nat),([99,111,112,121]:List Nat),([115,119,105,116,99,104]:List Nat)] (gt .str a0 0)).1+(J 2))),(c104 (gt .str a0 1)).1,((J 0),(J 0),([]:List Nat),([]:List Nat),[],[],[])),())) (cd (iLe (J 0) (c105 [([106,111,98]:List Nat),([115,116,101,112]:List Nat),([116,105,99,107]:List Nat),([102,108,117,115,104]:List Nat),([112,97,103,101,115]:List Nat),([99,104,101,99,107]:List Nat),([99,114,97,115,104]:List Nat)] (gt .str a0 0)).1) (cd (iEq (wr .i64 ((c105 [([106,111,98]:List Nat),([115,116,101,112]:List Nat),([116,105,99,107]:List Nat),([102,108,117,115,104]:List Nat),([112,97,103,101,115]:List Nat),([99,104,101,99,107]:List Nat),([99,114,97,115,104]:List Nat)] (gt .str a0 0)).1+(J 1))) (J 1)) (((J 1),(J 0),(c106 a0).1),()) (cd (iEq (wr .i64 ((c105 [([106,111,98]:List Nat),([115,116,101,112]:List Nat),([116,105,99,107]:List Nat),([102,108,117,115,104]:List Nat),([112,97,103,101,115]:List Nat),([99,104,101,99,107]:List Nat),([99,114,97,115,104]:List Nat)] (gt .str a0 0)).1+(J 1))) (J 7)) (cd (!iLe (J (U a0)) (J 2)) (((J 1),(J 0),((wr .i64 ((c105 [([106,111,98]:List Nat),([115,116,101,112]:List Nat),([116,105,99,107]:List Nat),([102,108,117,115,104]:List Nat),([112,97,103,101,115]:List Nat),([99,104,101,99,107]:List Nat),([99,114,97,115,104]:List Nat)] (gt .str a0 0)).1+(J 1))),(J 0),([]:List Nat),([]:List Nat),[],[],(c107 (List.drop 2 (List.take (U a0) a0))).1)),()) (((J 1),(J 0),((wr .i64 ((c105 [([106,111,98]:List Nat),([115,116,101,112]:List Nat),([116,105,99,107]:List Nat),([102,108,117,115,104]:List Nat),([112,97,103,101,115]:List Nat),([99,104,101,99,107]:List Nat),([99,114,97,115,104]:List Nat)] (gt .str a0 0)).1+(J 1))),(J 0),([]:List Nat),([]:List Nat),[],[],[])),())) (((J 1),(J 0),((wr .i64 ((c105 [([106,111,98]:List Nat),([115,116,101,112]:List Nat),([116,105,99,107]:List Nat),([102,108,117,115,104]:List Nat),([112,97,103,101,115]:List Nat),([99,104,101,99,107]:List Nat),([99,114,97,115,104]:List Nat)] (gt .str a0 0)).1+(J 1))),(J 0),([]:List Nat),([]:List Nat),[],[],[])),()))) (((wr .i64 ((c105 [([115,104,105,112]:List Nat),([97,114,114,105,118,101]:List Nat),([108,111,115,101]:List Nat),([116,119,105,99,101]:List Nat),([99,111,112,121]:List Nat),([115,119,105,116,99,104]:List Nat)] (gt .str a0 0)).1+(J 2))),(J 0),((J 0),(J 0),([]:List Nat),([]:List Nat),[],[],[])),())))
open Classical in
def k63:Con:=⟨63,[⟨false,(.sl .str)⟩],[⟨true,y28⟩],fun x=>if 0<U x.1∧(1<U x.1→inT tNu (gt .str x.1 1,())=true)∧(iEq (wr .i64 ((c105 [([106,111,98]:List Nat),([115,116,101,112]:List Nat),([116,105,99,107]:List Nat),([102,108,117,115,104]:List Nat),([112,97,103,101,115]:List Nat),([99,104,101,99,107]:List Nat),([99,114,97,115,104]:List Nat)] (gt .str x.1 0)).1+(J 1))) (J 1)=true→inJ x.1=true)∧(2<U x.1→iEq (wr .i64 ((c105 [([106,111,98]:List Nat),([115,116,101,112]:List Nat),([116,105,99,107]:List Nat),([102,108,117,115,104]:List Nat),([112,97,103,101,115]:List Nat),([99,104,101,99,107]:List Nat),([99,114,97,115,104]:List Nat)] (gt .str x.1 0)).1+(J 1))) (J 7)=true→allT tNu (List.drop 2 (List.take (U x.1) x.1))=true)∧U x.1≤1000 then some (c63 x.1) else none⟩
theorem t63 (a0:den (.sl .str)) (r0:0<U a0) (r1:(1<U a0→inT tNu (gt .str a0 1,())=true)) (r2:(iEq (wr .i64 ((c105 [([106,111,98]:List Nat),([115,116,101,112]:List Nat),([116,105,99,107]:List Nat),([102,108,117,115,104]:List Nat),([112,97,103,101,115]:List Nat),([99,104,101,99,107]:List Nat),([99,114,97,115,104]:List Nat)] (gt .str a0 0)).1+(J 1))) (J 1)=true→inJ a0=true)) (r3:(2<U a0→iEq (wr .i64 ((c105 [([106,111,98]:List Nat),([115,116,101,112]:List Nat),([116,105,99,107]:List Nat),([102,108,117,115,104]:List Nat),([112,97,103,101,115]:List Nat),([99,104,101,99,107]:List Nat),([99,114,97,115,104]:List Nat)] (gt .str a0 0)).1+(J 1))) (J 7)=true→allT tNu (List.drop 2 (List.take (U a0) a0))=true)) (r4:U a0≤1000):KC Bn k63 (a0,()) (c63 a0):=by
 refine xI (uL [k104,k105,k106,k107] (okC o104 (okC o105 (okC o106 (okC o107 ok0))))) Tryz.func63 fun hbd hB=>?_
 refine xc 10 (fun h1=>?_) fun h1=>?_
 refine xr 0 ?_
 have g2:=lt_of_nle h1
 have b3:U a0≤Bn:=hbd.1.1
 have x4:1<U a0:=fo2
 refine yi 1 .str a0 1 x4 ?_
 have b5:U (α:=Nat) (gt .str a0 1)≤1152921504606846976:=(bd_gt hbd.1 x4)
 refine ycl 1 k104 ((gt .str a0 1),()) (c104 (gt .str a0 1)) (p104 (r1 om)) ?_
 refine yf ?_
 refine xr 5 ?_
 have x6:0<U a0:=fo2
 refine yi 2 .str a0 0 x6 ?_
 refine yf ?_
 refine xc 5 (fun h7=>?_) fun h7=>?_
 have g8:@LE.le Int _ ((0:Nat):Int) ((c105 [([106,111,98]:List Nat),([115,116,101,112]:List Nat),([116,105,99,107]:List Nat),([102,108,117,115,104]:List Nat),([112,97,103,101,115]:List Nat),([99,104,101,99,107]:List Nat),([99,114,97,115,104]:List Nat)] (gt .str a0 0)).1):=ile_t h7
 refine xc 11 (fun h9=>?_) fun h9=>?_
 refine xr 0 ?_
 try (have w10:@Eq Int (wr .i64 ((c105 [([106,111,98]:List Nat),([115,116,101,112]:List Nat),([116,105,99,107]:List Nat),([102,108,117,115,104]:List Nat),([112,97,103,101,115]:List Nat),([99,104,101,99,107]:List Nat),([99,114,97,115,104]:List Nat)] (gt .str a0 0)).1+((1:Nat):Int))) ((c105 [([106,111,98]:List Nat),([115,116,101,112]:List Nat),([116,105,99,107]:List Nat),([102,108,117,115,104]:List Nat),([112,97,103,101,115]:List Nat),([99,104,101,99,107]:List Nat),([99,114,97,115,104]:List Nat)] (gt .str a0 0)).1+((1:Nat):Int)):=wr_id om om)
 have g11:@Eq Int (wr .i64 ((c105 [([106,111,98]:List Nat),([115,116,101,112]:List Nat),([116,105,99,107]:List Nat),([102,108,117,115,104]:List Nat),([112,97,103,101,115]:List Nat),([99,104,101,99,107]:List Nat),([99,114,97,115,104]:List Nat)] (gt .str a0 0)).1+((1:Nat):Int))) ((1:Nat):Int):=ieq_t h9
 refine ycl 1 k106 (a0,()) (c106 a0) (p106 (r2 (by assumption))) ?_
 refine yf ?_
 exact xe 6
 refine xc 3 (fun h10=>?_) fun h10=>?_
 refine xc 3 (fun h11=>?_) fun h11=>?_
 refine xr 0 ?_
 try (have w12:@Eq Int (wr .i64 ((c105 [([106,111,98]:List Nat),([115,116,101,112]:List Nat),([116,105,99,107]:List Nat),([102,108,117,115,104]:List Nat),([112,97,103,101,115]:List Nat),([99,104,101,99,107]:List Nat),([99,114,97,115,104]:List Nat)] (gt .str a0 0)).1+((1:Nat):Int))) ((c105 [([106,111,98]:List Nat),([115,116,101,112]:List Nat),([116,105,99,107]:List Nat),([102,108,117,115,104]:List Nat),([112,97,103,101,115]:List Nat),([99,104,101,99,107]:List Nat),([99,114,97,115,104]:List Nat)] (gt .str a0 0)).1+((1:Nat):Int)):=wr_id om om)
 have g13:@Ne Int (wr .i64 ((c105 [([106,111,98]:List Nat),([115,116,101,112]:List Nat),([116,105,99,107]:List Nat),([102,108,117,115,104]:List Nat),([112,97,103,101,115]:List Nat),([99,104,101,99,107]:List Nat),([99,114,97,115,104]:List Nat)] (gt .str a0 0)).1+((1:Nat):Int))) ((1:Nat):Int):=ieq_f h9
 have g14:@Eq Int (wr .i64 ((c105 [([106,111,98]:List Nat),([115,116,101,112]:List Nat),([116,105,99,107]:List Nat),([102,108,117,115,104]:List Nat),([112,97,103,101,115]:List Nat),([99,104,101,99,107]:List Nat),([99,114,97,115,104]:List Nat)] (gt .str a0 0)).1+((1:Nat):Int))) ((7:Nat):Int):=ieq_t h10
 have g15:=lt_of_nle h11
 refine yl 1 .str a0 (some 2) none (Nr _) (by show 2≤(U a0);omega) ?_
 have b16:U (List.drop 2 (List.take (U a0) a0))=min (U a0) (U a0) - 2:=by simp only[Tk,Ld]
 refine ycl 0 k107 ((List.drop 2 (List.take (U a0) a0)),()) (c107 (List.drop 2 (List.take (U a0) a0))) (p107 ⟨by first|assumption|exact r3 om (by assumption),fo1⟩) ?_
 refine yf ?_
 exact xe 6
 exact xe 6
 exact xe 6
 refine xr 5 ?_
 have g8:@LT.lt Int _ ((c105 [([106,111,98]:List Nat),([115,116,101,112]:List Nat),([116,105,99,107]:List Nat),([102,108,117,115,104]:List Nat),([112,97,103,101,115]:List Nat),([99,104,101,99,107]:List Nat),([99,114,97,115,104]:List Nat)] (gt .str a0 0)).1) ((0:Nat):Int):=ile_f h7
 have x9:0<U a0:=fo2
 refine yi 2 .str a0 0 x9 ?_
 refine yf ?_
 exact xe 1
 refine xr 5 ?_
 have g2:=le_of_nle h1
 have b3:U a0≤Bn:=hbd.1.1
 have x4:0<U a0:=fo2
 refine yi 2 .str a0 0 x4 ?_
 refine yf ?_
 refine xc 5 (fun h5=>?_) fun h5=>?_
 have g6:@LE.le Int _ ((0:Nat):Int) ((c105 [([106,111,98]:List Nat),([115,116,101,112]:List Nat),([116,105,99,107]:List Nat),([102,108,117,115,104]:List Nat),([112,97,103,101,115]:List Nat),([99,104,101,99,107]:List Nat),([99,114,97,115,104]:List Nat)] (gt .str a0 0)).1):=ile_t h5
 refine xc 11 (fun h7=>?_) fun h7=>?_
 refine xr 0 ?_
 try (have w8:@Eq Int (wr .i64 ((c105 [([106,111,98]:List Nat),([115,116,101,112]:List Nat),([116,105,99,107]:List Nat),([102,108,117,115,104]:List Nat),([112,97,103,101,115]:List Nat),([99,104,101,99,107]:List Nat),([99,114,97,115,104]:List Nat)] (gt .str a0 0)).1+((1:Nat):Int))) ((c105 [([106,111,98]:List Nat),([115,116,101,112]:List Nat),([116,105,99,107]:List Nat),([102,108,117,115,104]:List Nat),([112,97,103,101,115]:List Nat),([99,104,101,99,107]:List Nat),([99,114,97,115,104]:List Nat)] (gt .str a0 0)).1+((1:Nat):Int)):=wr_id om om)
 have g9:@Eq Int (wr .i64 ((c105 [([106,111,98]:List Nat),([115,116,101,112]:List Nat),([116,105,99,107]:List Nat),([102,108,117,115,104]:List Nat),([112,97,103,101,115]:List Nat),([99,104,101,99,107]:List Nat),([99,114,97,115,104]:List Nat)] (gt .str a0 0)).1+((1:Nat):Int))) ((1:Nat):Int):=ieq_t h7
 refine ycl 1 k106 (a0,()) (c106 a0) (p106 (r2 (by assumption))) ?_
 refine yf ?_
 exact xe 6
 refine xc 3 (fun h8=>?_) fun h8=>?_
 refine xc 3 (fun h9=>?_) fun h9=>?_
 refine xr 0 ?_
 try (have w10:@Eq Int (wr .i64 ((c105 [([106,111,98]:List Nat),([115,116,101,112]:List Nat),([116,105,99,107]:List Nat),([102,108,117,115,104]:List Nat),([112,97,103,101,115]:List Nat),([99,104,101,99,107]:List Nat),([99,114,97,115,104]:List Nat)] (gt .str a0 0)).1+((1:Nat):Int))) ((c105 [([106,111,98]:List Nat),([115,116,101,112]:List Nat),([116,105,99,107]:List Nat),([102,108,117,115,104]:List Nat),([112,97,103,101,115]:List Nat),([99,104,101,99,107]:List Nat),([99,114,97,115,104]:List Nat)] (gt .str a0 0)).1+((1:Nat):Int)):=wr_id om om)
 have g11:@Ne Int (wr .i64 ((c105 [([106,111,98]:List Nat),([115,116,101,112]:List Nat),([116,105,99,107]:List Nat),([102,108,117,115,104]:List Nat),([112,97,103,101,115]:List Nat),([99,104,101,99,107]:List Nat),([99,114,97,115,104]:List Nat)] (gt .str a0 0)).1+((1:Nat):Int))) ((1:Nat):Int):=ieq_f h7
 have g12:@Eq Int (wr .i64 ((c105 [([106,111,98]:List Nat),([115,116,101,112]:List Nat),([116,105,99,107]:List Nat),([102,108,117,115,104]:List Nat),([112,97,103,101,115]:List Nat),([99,104,101,99,107]:List Nat),([99,114,97,115,104]:List Nat)] (gt .str a0 0)).1+((1:Nat):Int))) ((7:Nat):Int):=ieq_t h8
 have g13:=lt_of_nle h9
 refine yl 1 .str a0 (some 2) none (Nr _) (by show 2≤(U a0);omega) ?_
 have b14:U (List.drop 2 (List.take (U a0) a0))=min (U a0) (U a0) - 2:=by simp only[Tk,Ld]
 refine ycl 0 k107 ((List.drop 2 (List.take (U a0) a0)),()) (c107 (List.drop 2 (List.take (U a0) a0))) (p107 ⟨by first|assumption|exact r3 om (by assumption),fo1⟩) ?_
 refine yf ?_
 exact xe 6
 exact xe 6
 exact xe 6
 refine xr 5 ?_
 have g6:@LT.lt Int _ ((c105 [([106,111,98]:List Nat),([115,116,101,112]:List Nat),([116,105,99,107]:List Nat),([102,108,117,115,104]:List Nat),([112,97,103,101,115]:List Nat),([99,104,101,99,107]:List Nat),([99,114,97,115,104]:List Nat)] (gt .str a0 0)).1) ((0:Nat):Int):=ile_f h5
 have x7:0<U a0:=fo2
 refine yi 2 .str a0 0 x7 ?_
 refine yf ?_
 exact xe 1
theorem p63 {a0:den (.sl .str)} (h:0<U a0∧(1<U a0→inT tNu (gt .str a0 1,())=true)∧(iEq (wr .i64 ((c105 [([106,111,98]:List Nat),([115,116,101,112]:List Nat),([116,105,99,107]:List Nat),([102,108,117,115,104]:List Nat),([112,97,103,101,115]:List Nat),([99,104,101,99,107]:List Nat),([99,114,97,115,104]:List Nat)] (gt .str a0 0)).1+(J 1))) (J 1)=true→inJ a0=true)∧(2<U a0→iEq (wr .i64 ((c105 [([106,111,98]:List Nat),([115,116,101,112]:List Nat),([116,105,99,107]:List Nat),([102,108,117,115,104]:List Nat),([112,97,103,101,115]:List Nat),([99,104,101,99,107]:List Nat),([99,114,97,115,104]:List Nat)] (gt .str a0 0)).1+(J 1))) (J 7)=true→allT tNu (List.drop 2 (List.take (U a0) a0))=true)∧U a0≤1000):k63.F (a0,())=some (c63 a0):=if_pos h
theorem o63:OK Bn k63:=xOp fun x (hp:0<U x.1∧(1<U x.1→inT tNu (gt .str x.1 1,())=true)∧(iEq (wr .i64 ((c105 [([106,111,98]:List Nat),([115,116,101,112]:List Nat),([116,105,99,107]:List Nat),([102,108,117,115,104]:List Nat),([112,97,103,101,115]:List Nat),([99,104,101,99,107]:List Nat),([99,114,97,115,104]:List Nat)] (gt .str x.1 0)).1+(J 1))) (J 1)=true→inJ x.1=true)∧(2<U x.1→iEq (wr .i64 ((c105 [([106,111,98]:List Nat),([115,116,101,112]:List Nat),([116,105,99,107]:List Nat),([102,108,117,115,104]:List Nat),([112,97,103,101,115]:List Nat),([99,104,101,99,107]:List Nat),([99,114,97,115,104]:List Nat)] (gt .str x.1 0)).1+(J 1))) (J 7)=true→allT tNu (List.drop 2 (List.take (U x.1) x.1))=true)∧U x.1≤1000)=>t63 _ hp.1 hp.2.1 hp.2.2.1 hp.2.2.2.1 hp.2.2.2.2
end Go.Ev
end
