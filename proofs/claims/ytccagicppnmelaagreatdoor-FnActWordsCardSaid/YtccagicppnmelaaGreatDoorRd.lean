/- A part of the proof that FnActWords returns true for every input and leaves its argument as it was; no condition. -/
import Derived.Test.YtccagicppnmelaaGreatDoorRc
import Derived.Test.YtccagicppnmelaaGreatDoorQa
set_option linter.all false
open List renaming length→U
open Int renaming ofNat→J,toNat→Jn
open Go.Ev
attribute [local irreducible] GC RJ KC KM cAt cOn runC stp brC bodyC cvC rsC rdC regC loopC endC skpC extC retC evJ RS.at RS.put RS.okS RS.okR RS.all RS.fst endV endVM grpA grpB grpR grpD grpO RunOps RunD bodyF resF argsFrom cArg
noncomputable section
namespace Go.Ev
open Go.Proofs
set_option maxRecDepth 100000
variable {Bn:Nat} [BOk Bn]
def locT (a b:List Nat):den y170:=(J3,[([65],J1),([78],J2)],[(J1,[([118],[],a)]),(J2,[([118],[],b)])],[[([65],J0),([78],J0)]])
def mchT (pc:Int) (a b:List Nat):den y174:=(J1,pc,[],[],[],[],[(J0,false,false,J0,J0,J0,J0,[],[74,79,66])],locT a b,false,false,(false,[],[]),J0,J0,J0,J0,[])
def jobR (m:den y174):den yJobR:=(m,(J0,J0,[]),(J0,J0,[],[],[],[],[],(J0,[],[],[]),false,false,(false,[],[]),J0,J0,J0,J0,[]),[],[],[],J0,[[105,110]],[])
def jobT (i:Int) (m:den y174):den y179:=(i,jobR m)
def w_JOB:List Nat:=[74,79,66]
def labT:List (List Nat×Int):=[([65,68,68],J0),([77,79,86,69],J21),([82,65,87],J54),([72,69,76,68],J71),([84,82,89],J98),([66,79,84,72],J 114),([83,85,77],J 140),([65,83,75],J 193),([83,80,73,78],J 215),([82,79,76,76],J 250),([66,65,68],J 270),([78,69,83,84],J 288),([83,76,79,87],J 319)]
def argT:List (List Nat×List Nat):=[([49],[49]),([49],[50]),([49],[53]),([50],[49]),([50],[50]),([50],[53]),([97],[49]),([97],[50]),([97],[53])]
def prdT {α:Type} (ls:List (List Nat×Int)) (as_:List (List Nat×List Nat)) (f:List Nat→Int→List Nat→List Nat→α):List α:=List.rec [] (fun l _ ih=>List.rec ih (fun a _ ih=>f l.1 l.2 a.1 a.2::ih) as_) ls
theorem prdT_mem {α:Type}{f:List Nat→Int→List Nat→List Nat→α}{as_:List (List Nat×List Nat)}{l:List Nat×Int}{a:List Nat×List Nat} (ha:a∈as_):∀{ls:List (List Nat×Int)},l∈ls→f l.1 l.2 a.1 a.2∈prdT ls as_ f
 |[],h=>by cases h
 |x::ls,h=>by
  have key:∀{t:List α}{as_:List (List Nat×List Nat)},(∀y∈t,y∈(List.rec t (fun a _ ih=>f x.1 x.2 a.1 a.2::ih) as_:List α))∧(a∈as_→l=x→f l.1 l.2 a.1 a.2∈(List.rec t (fun a _ ih=>f x.1 x.2 a.1 a.2::ih) as_:List α)):=by
   intro t as_
   induction as_ with
   |nil=>exact⟨fun y hy=>hy,fun h=>by cases h⟩
   |cons b as_ ih=>
    refine⟨fun y hy=>Lo _ (ih.1 y hy),fun h he=>?_⟩
    rcases List.mem_cons.1 h with rfl|h
    ·subst he;exact Mc ..
    ·exact Lo _ (ih.2 h he)
  rcases List.mem_cons.1 h with rfl|h
  ·exact key.2 ha rfl
  ·exact key.1 _ (prdT_mem ha h)
def lab0:List (List Nat×Int):=[([],J0)]
def arg0:List (List Nat×List Nat):=[([],[])]
def T183:List (denL [⟨false,(.sl .str)⟩,⟨false,(.int .i64)⟩]×denL [⟨false,.bool⟩]):=prdT lab0 argT fun l pc a b=>(([a,b],J8,()),(true,()))
theorem R183:runAll Bn [] EX 60 183 [⟨false,(.sl .str)⟩,⟨false,(.int .i64)⟩] [⟨false,.bool⟩] T183=true:=kr
theorem Q183:RowsOk Bn 183 [⟨false,(.sl .str)⟩,⟨false,(.int .i64)⟩] [⟨false,.bool⟩] T183:=rows_run ok0 R183
theorem f183 {a b:List Nat} (ha:(a,b)∈argT):FcOk Bn ⟨183,[⟨false,(.sl .str)⟩,⟨false,(.int .i64)⟩],[⟨false,.bool⟩],([a,b],J8,()),(true,())⟩:=⟨kr,Q183 _ (prdT_mem (f:=fun l pc a b=>((([a,b],J8,()),(true,())):denL [⟨false,(.sl .str)⟩,⟨false,(.int .i64)⟩]×denL [⟨false,.bool⟩])) (l:=([],J0)) (a:=(a,b)) ha (List.mem_singleton.2 rfl))⟩
def T273:List (denL [⟨true,y42⟩,⟨false,.str⟩,⟨false,.str⟩]×denL [⟨true,y261⟩,⟨false,.bool⟩]):=prdT labT arg0 fun l pc a b=>((prg_,w_JOB,l,()),((w_JOB,l,pc,[[65],[78]]),true,()))
theorem R273:runAll Bn [] EX 60 273 [⟨true,y42⟩,⟨false,.str⟩,⟨false,.str⟩] [⟨true,y261⟩,⟨false,.bool⟩] T273=true:=kr
theorem Q273:RowsOk Bn 273 [⟨true,y42⟩,⟨false,.str⟩,⟨false,.str⟩] [⟨true,y261⟩,⟨false,.bool⟩] T273:=rows_run ok0 R273
theorem f273 {l:List Nat}{pc:Int} (hl:(l,pc)∈labT):FcOk Bn ⟨273,[⟨true,y42⟩,⟨false,.str⟩,⟨false,.str⟩],[⟨true,y261⟩,⟨false,.bool⟩],(prg_,w_JOB,l,()),((w_JOB,l,pc,[[65],[78]]),true,())⟩:=⟨kr,Q273 _ (prdT_mem (f:=fun l pc a b=>(((prg_,w_JOB,l,()),((w_JOB,l,pc,[[65],[78]]),true,())):denL [⟨true,y42⟩,⟨false,.str⟩,⟨false,.str⟩]×denL [⟨true,y261⟩,⟨false,.bool⟩])) (l:=(l,pc)) (a:=([],[])) (List.mem_singleton.2 rfl) hl)⟩
def T276:List (denL [⟨false,(.sl .str)⟩]×denL [⟨false,(.sl y466)⟩]):=prdT lab0 argT fun l pc a b=>(([a,b],()),([(false,a),(false,b)],()))
theorem R276:runAll Bn [] EX 60 276 [⟨false,(.sl .str)⟩] [⟨false,(.sl y466)⟩] T276=true:=kr
theorem Q276:RowsOk Bn 276 [⟨false,(.sl .str)⟩] [⟨false,(.sl y466)⟩] T276:=rows_run ok0 R276
theorem f276 {a b:List Nat} (ha:(a,b)∈argT):FcOk Bn ⟨276,[⟨false,(.sl .str)⟩],[⟨false,(.sl y466)⟩],([a,b],()),([(false,a),(false,b)],())⟩:=⟨kr,Q276 _ (prdT_mem (f:=fun l pc a b=>((([a,b],()),([(false,a),(false,b)],())):denL [⟨false,(.sl .str)⟩]×denL [⟨false,(.sl y466)⟩])) (l:=([],J0)) (a:=(a,b)) ha (List.mem_singleton.2 rfl))⟩
def T274:List (denL [⟨true,y170⟩,⟨false,(.sl .str)⟩,⟨false,(.sl y466)⟩]×denL [⟨true,y170⟩,⟨false,(.int .i64)⟩]):=prdT lab0 argT fun l pc a b=>(((J1,[],[],[]),[[65],[78]],[(false,a),(false,b)],()),(locT a b,J0,()))
theorem R274:runAll Bn [] EX 60 274 [⟨true,y170⟩,⟨false,(.sl .str)⟩,⟨false,(.sl y466)⟩] [⟨true,y170⟩,⟨false,(.int .i64)⟩] T274=true:=kr
theorem Q274:RowsOk Bn 274 [⟨true,y170⟩,⟨false,(.sl .str)⟩,⟨false,(.sl y466)⟩] [⟨true,y170⟩,⟨false,(.int .i64)⟩] T274:=rows_run ok0 R274
theorem f274 {a b:List Nat} (ha:(a,b)∈argT):FcOk Bn ⟨274,[⟨true,y170⟩,⟨false,(.sl .str)⟩,⟨false,(.sl y466)⟩],[⟨true,y170⟩,⟨false,(.int .i64)⟩],((J1,[],[],[]),[[65],[78]],[(false,a),(false,b)],()),(locT a b,J0,())⟩:=⟨kr,Q274 _ (prdT_mem (f:=fun l pc a b=>((((J1,[],[],[]),[[65],[78]],[(false,a),(false,b)],()),(locT a b,J0,())):denL [⟨true,y170⟩,⟨false,(.sl .str)⟩,⟨false,(.sl y466)⟩]×denL [⟨true,y170⟩,⟨false,(.int .i64)⟩])) (l:=([],J0)) (a:=(a,b)) ha (List.mem_singleton.2 rfl))⟩
def T647:List (denL [⟨true,y170⟩]×denL [⟨false,.bool⟩]):=prdT lab0 argT fun l pc a b=>((locT a b,()),(true,()))
theorem R647:runAll Bn [] EX 60 647 [⟨true,y170⟩] [⟨false,.bool⟩] T647=true:=kr
theorem Q647:RowsOk Bn 647 [⟨true,y170⟩] [⟨false,.bool⟩] T647:=rows_run ok0 R647
def K647:Con:=tabC 647 [⟨true,y170⟩] [⟨false,.bool⟩] T647
theorem O647:OK Bn K647:=rows_con Q647
def T375:List (denL [⟨true,y174⟩]×denL [⟨false,.bool⟩]):=[(((J0,J0,[],[],[],[],[],(J0,[],[],[]),false,false,(false,[],[]),J0,J0,J0,J0,[]),()),(true,()))]
theorem R375:runAll Bn [] EX 60 375 [⟨true,y174⟩] [⟨false,.bool⟩] T375=true:=kr
theorem Q375:RowsOk Bn 375 [⟨true,y174⟩] [⟨false,.bool⟩] T375:=rows_run ok0 R375
def T275:List (denL []×denL [⟨true,y170⟩]):=[((()),((J1,[],[],[]),()))]
theorem R275:runAll Bn [] EX 60 275 [] [⟨true,y170⟩] T275=true:=kr
theorem Q275:RowsOk Bn 275 [] [⟨true,y170⟩] T275:=rows_run ok0 R275
def labT0:List (List Nat×Int):=[([65,68,68],J0),([77,79,86,69],J21),([82,65,87],J54),([72,69,76,68],J71)]
def T593_0:List (denL [⟨true,y42⟩,⟨false,(.sl y346)⟩,⟨true,y174⟩]×denL [⟨false,.bool⟩]):=prdT labT0 argT fun l pc a b=>((prg_,hei_,mchT pc a b,()),(true,()))
theorem R593_0:runAll Bn [K647] EX 60 593 [⟨true,y42⟩,⟨false,(.sl y346)⟩,⟨true,y174⟩] [⟨false,.bool⟩] T593_0=true:=kr
theorem Q593_0:RowsOk Bn 593 [⟨true,y42⟩,⟨false,(.sl y346)⟩,⟨true,y174⟩] [⟨false,.bool⟩] T593_0:=rows_run (okC O647 ok0) R593_0
def labT1:List (List Nat×Int):=[([84,82,89],J98),([66,79,84,72],J 114),([83,85,77],J 140)]
def T593_1:List (denL [⟨true,y42⟩,⟨false,(.sl y346)⟩,⟨true,y174⟩]×denL [⟨false,.bool⟩]):=prdT labT1 argT fun l pc a b=>((prg_,hei_,mchT pc a b,()),(true,()))
theorem R593_1:runAll Bn [K647] EX 60 593 [⟨true,y42⟩,⟨false,(.sl y346)⟩,⟨true,y174⟩] [⟨false,.bool⟩] T593_1=true:=kr
theorem Q593_1:RowsOk Bn 593 [⟨true,y42⟩,⟨false,(.sl y346)⟩,⟨true,y174⟩] [⟨false,.bool⟩] T593_1:=rows_run (okC O647 ok0) R593_1
def labT2:List (List Nat×Int):=[([65,83,75],J 193),([83,80,73,78],J 215),([82,79,76,76],J 250)]
def T593_2:List (denL [⟨true,y42⟩,⟨false,(.sl y346)⟩,⟨true,y174⟩]×denL [⟨false,.bool⟩]):=prdT labT2 argT fun l pc a b=>((prg_,hei_,mchT pc a b,()),(true,()))
theorem R593_2:runAll Bn [K647] EX 60 593 [⟨true,y42⟩,⟨false,(.sl y346)⟩,⟨true,y174⟩] [⟨false,.bool⟩] T593_2=true:=kr
theorem Q593_2:RowsOk Bn 593 [⟨true,y42⟩,⟨false,(.sl y346)⟩,⟨true,y174⟩] [⟨false,.bool⟩] T593_2:=rows_run (okC O647 ok0) R593_2
def labT3:List (List Nat×Int):=[([66,65,68],J 270),([78,69,83,84],J 288),([83,76,79,87],J 319)]
def T593_3:List (denL [⟨true,y42⟩,⟨false,(.sl y346)⟩,⟨true,y174⟩]×denL [⟨false,.bool⟩]):=prdT labT3 argT fun l pc a b=>((prg_,hei_,mchT pc a b,()),(true,()))
theorem R593_3:runAll Bn [K647] EX 60 593 [⟨true,y42⟩,⟨false,(.sl y346)⟩,⟨true,y174⟩] [⟨false,.bool⟩] T593_3=true:=kr
theorem Q593_3:RowsOk Bn 593 [⟨true,y42⟩,⟨false,(.sl y346)⟩,⟨true,y174⟩] [⟨false,.bool⟩] T593_3:=rows_run (okC O647 ok0) R593_3
theorem lab_cat:labT=labT0++(labT1++(labT2++labT3)):=rfl
theorem f593 {l:List Nat}{pc:Int}{a b:List Nat} (hl:(l,pc)∈labT) (ha:(a,b)∈argT):FcOk Bn ⟨593,[⟨true,y42⟩,⟨false,(.sl y346)⟩,⟨true,y174⟩],[⟨false,.bool⟩],(prg_,hei_,mchT pc a b,()),(true,())⟩:=⟨kr,by
 rw[lab_cat] at hl
 have g:∀{ls:List (List Nat×Int)},(l,pc)∈ls→((prg_,hei_,mchT pc a b,()),(true,()))∈prdT ls argT (fun _ pc a b=>(((prg_,hei_,mchT pc a b,()),(true,())):denL [⟨true,y42⟩,⟨false,(.sl y346)⟩,⟨true,y174⟩]×denL [⟨false,.bool⟩])):=fun h=>prdT_mem (f:=fun _ pc a b=>(((prg_,hei_,mchT pc a b,()),(true,())):denL [⟨true,y42⟩,⟨false,(.sl y346)⟩,⟨true,y174⟩]×denL [⟨false,.bool⟩])) (l:=(l,pc)) (a:=(a,b)) ha h
 rcases List.mem_append.1 hl with hl|hl
 ·exact Q593_0 _ (g hl)
 rcases List.mem_append.1 hl with hl|hl
 ·exact Q593_1 _ (g hl)
 rcases List.mem_append.1 hl with hl|hl
 ·exact Q593_2 _ (g hl)
 ·exact Q593_3 _ (g hl)⟩
theorem r130 (pc:Int) (a b:List Nat):runR Bn [] EX 60 130 [⟨true,y179⟩] [⟨true,y179⟩] (jobT (J1) (mchT pc a b),())=some (jobT (J1) (mchT pc a b),()):=kr
end Go.Ev
end
