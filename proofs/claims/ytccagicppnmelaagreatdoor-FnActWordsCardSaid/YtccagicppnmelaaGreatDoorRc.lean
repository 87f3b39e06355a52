/- A part of the proof that FnActWords returns true for every input and leaves its argument as it was; no condition. -/
import Derived.Test.YtccagicppnmelaaGreatDoorRb
import Derived.Test.YtccagicppnmelaaGreatDoorQa
set_option linter.all false
open List renaming length→U
open Int renaming ofNat→J,toNat→Jn
open Go.Ev
attribute [local irreducible] GC RJ KC KM cAt cOn runC stp brC bodyC cvC rsC rdC regC loopC endC skpC extC retC evJ RS.at RS.put RS.okS RS.okR RS.all RS.fst endV endVM grpA grpB grpR grpD grpO RunOps RunD bodyF resF argsFrom cArg
noncomputable section
namespace Go.Ev
open Go.Proofs
set_option maxRecDepth 100000
variable {Bn:Nat} [BOk Bn]
def allb {t:Ty} (P:den t→Bool) (l:List (den t)):Bool:=List.rec true (fun x _ ih=>cd (P x) ih false) l
theorem allb_gt {t:Ty}{P:den t→Bool}:∀{l:List (den t)},allb P l=true→∀i,i<l.length→P (gt t l i)=true
 |[],_,_,h=>absurd h (Nn _)
 |x::l,h,i,hi=>by
  obtain⟨h1,h2⟩:=cd_true (show cd (P x) (allb P l) false=true from h)
  cases i with
  |zero=>exact h1
  |succ i=>exact allb_gt (l:=l) h2 i (Nat.lt_of_succ_lt_succ hi)
def entB (e:den y261):Bool:=cd (iLe (J0) e.2.2.1) (iLe e.2.2.1 (J 350)) false
def insB (e:den y242):Bool:=cd (c250 e.1).1 (iLe (J0) e.2.1) true
theorem iLe_t {a b:Int} (h:iLe a b=true):@LE.le Int _ a b:=by rw[iLe_eq] at h;simpa using h
theorem prg_len:U prg_.1=351:=kr
theorem prg_ent:∀i,i<U prg_.2→@LE.le Int _ 0 (gt y261 prg_.2 i).2.2.1∧@LT.lt Int _ (gt y261 prg_.2 i).2.2.1 ((U prg_.1:Nat):Int):=fun i hi=>by
 have h:=allb_gt (t:=y261) (P:=entB) (l:=prg_.2) kr i hi
 obtain⟨h1,h2⟩:=cd_true (show cd _ _ false=true from h)
 have h3:=iLe_t h2
 refine⟨iLe_t h1,?_⟩
 rw[prg_len]
 have:(J 350:Int)=350:=rfl
 omega
theorem prg_ins:∀i,i<U prg_.1→(c250 (gt y242 prg_.1 i).1).1=true→@LE.le Int _ 0 (gt y242 prg_.1 i).2.1:=fun i hi hj=>by
 have h:=allb_gt (t:=y242) (P:=insB) (l:=prg_.1) kr i hi
 have h:cd (c250 (gt y242 prg_.1 i).1).1 (iLe (J0) (gt y242 prg_.1 i).2.1) true=true:=h
 rw[hj] at h
 exact iLe_t h
theorem q171:KOk PP (GG Bn) 171 pPr pHe (prg_,()) (hei_,true,()):=by
 rw[←eqDL_eq pHe _ _ v171]
 exact(o171 (Bn:=Bn)).2 (prg_,()) (c171 prg_) (p171 ⟨by rw[prg_len];decide,by rw[prg_len];decide,prg_ent,prg_ins⟩)
theorem rows_one {f:Nat}{ps rs:List Par}{x:denL ps}{y:denL rs} (h:KOk PP (GG Bn) f ps rs x y):RowsOk Bn f ps rs [(x,y)]:=fun q hq=>by rw[List.mem_singleton.1 hq];exact h
def K171:Con:=tabC 171 pPr pHe [((prg_,()),(hei_,true,()))]
theorem O171:OK Bn K171:=rows_con (rows_one q171)
theorem r109:runAll Bn [k168,k169,k170,K171] EX 60 109 pPr pBo [((prg_,()),(true,()))]=true:=kr
def k109:Con:=tabC 109 pPr pBo [((prg_,()),(true,()))]
theorem o109:OK Bn k109:=rows_con (rows_run (okC o168 (okC o169 (okC o170 (okC O171 ok0)))) r109)
end Go.Ev
end
noncomputable section
namespace Go.Ev
open Go.Proofs
set_option maxRecDepth 100000
variable {Bn:Nat} [BOk Bn]
def K119:Con:=tabC 119 pRt pPr [((src_,()),(prg_,()))]
theorem O119:OK Bn K119:=rows_con (rows_run (okC oLine ok0) r119)
def K118:Con:=tabC 118 pRt pInt [((src_,()),(J0,()))]
theorem O118:OK Bn K118:=rows_con (rows_run (okC oLine ok0) r118)
def K109:Con:=k109
theorem O109:OK Bn K109:=o109
def rp {α:Type} (n:Nat) (x:α):List α:=Nat.rec [] (fun _ ih=>x::ih) n
def T77:List (denL []×denL [⟨false,(.sl y195)⟩]):=[((()),(src_,()))]
theorem R77:runAll Bn [] EX 60 77 [] [⟨false,(.sl y195)⟩] T77=true:=kr
theorem Q77:RowsOk Bn 77 [] [⟨false,(.sl y195)⟩] T77:=rows_run ok0 R77
def K77:Con:=tabC 77 [] [⟨false,(.sl y195)⟩] T77
theorem O77:OK Bn K77:=rows_con Q77
def T40:List (denL []×denL [⟨true,y42⟩]):=[((()),(prg_,()))]
theorem R40:runAll Bn [K77,K118,K119] EX 60 40 [] [⟨true,y42⟩] T40=true:=kr
theorem Q40:RowsOk Bn 40 [] [⟨true,y42⟩] T40:=rows_run (okC O77 (okC O118 (okC O119 ok0))) R40
def T73:List (denL [⟨false,(.sl y182)⟩]×denL [⟨false,.bool⟩]):=[(([],()),(true,()))]
theorem R73:runAll Bn [] EX 60 73 [⟨false,(.sl y182)⟩] [⟨false,.bool⟩] T73=true:=kr
theorem Q73:RowsOk Bn 73 [⟨false,(.sl y182)⟩] [⟨false,.bool⟩] T73:=rows_run ok0 R73
def K73:Con:=tabC 73 [⟨false,(.sl y182)⟩] [⟨false,.bool⟩] T73
theorem O73:OK Bn K73:=rows_con Q73
def T115:List (denL [⟨true,y42⟩]×denL [⟨true,y42⟩]):=[((prg_,()),(prg_,()))]
theorem R115:runAll Bn [] EX 60 115 [⟨true,y42⟩] [⟨true,y42⟩] T115=true:=kr
theorem Q115:RowsOk Bn 115 [⟨true,y42⟩] [⟨true,y42⟩] T115:=rows_run ok0 R115
def K115:Con:=tabC 115 [⟨true,y42⟩] [⟨true,y42⟩] T115
theorem O115:OK Bn K115:=rows_con Q115
def T173:List (denL [⟨false,(.int .i64)⟩,⟨false,(.int .i64)⟩]×denL [⟨true,y60⟩,⟨false,(.int .i64)⟩]):=[((J 400,J 128,()),((J 128,rp 400 (rp 128 0),[]),J0,()))]
theorem R173:runAll Bn [] EX 60 173 [⟨false,(.int .i64)⟩,⟨false,(.int .i64)⟩] [⟨true,y60⟩,⟨false,(.int .i64)⟩] T173=true:=kr
theorem Q173:RowsOk Bn 173 [⟨false,(.int .i64)⟩,⟨false,(.int .i64)⟩] [⟨true,y60⟩,⟨false,(.int .i64)⟩] T173:=rows_run ok0 R173
def K173:Con:=tabC 173 [⟨false,(.int .i64)⟩,⟨false,(.int .i64)⟩] [⟨true,y60⟩,⟨false,(.int .i64)⟩] T173
theorem O173:OK Bn K173:=rows_con Q173
def T111:List (denL [⟨false,(.int .i64)⟩]×denL [⟨true,y65⟩,⟨false,(.int .i64)⟩]):=[((J40,()),(((J 1700,([rp 1700 0,([1,0,0,0,1,0,0,0,0,1,1,2]++(rp 1684 0++([1,0,0,0]))),([1]++(rp 1699 0))]++(rp 39 (rp 1700 0))),[]),(J1,J1,J0,[(J1,J2)]),(J0,J0,J0,[]),[],[]),J0,()))]
theorem R111:runAll Bn [] EX 60 111 [⟨false,(.int .i64)⟩] [⟨true,y65⟩,⟨false,(.int .i64)⟩] T111=true:=kr
theorem Q111:RowsOk Bn 111 [⟨false,(.int .i64)⟩] [⟨true,y65⟩,⟨false,(.int .i64)⟩] T111:=rows_run ok0 R111
def K111:Con:=tabC 111 [⟨false,(.int .i64)⟩] [⟨true,y65⟩,⟨false,(.int .i64)⟩] T111
theorem O111:OK Bn K111:=rows_con Q111
def T74:List (denL [⟨false,(.int .i64)⟩]×denL [⟨true,y69⟩,⟨false,(.int .i64)⟩]):=[((J40,()),(((J1,[(J1,(true,[],[],[]))]),((J 1700,([rp 1700 0,([1,0,0,0,1,0,0,0,0,1,1,2]++(rp 1684 0++([1,0,0,0]))),([1]++(rp 1699 0))]++(rp 39 (rp 1700 0))),[]),(J1,J1,J0,[(J1,J2)]),(J0,J0,J0,[]),[],[]),((J 128,rp 400 (rp 128 0),[]),J1,J1,J0,J0),J0,J0),J0,()))]
theorem R74:runAll Bn [K111,K173] EX 60 74 [⟨false,(.int .i64)⟩] [⟨true,y69⟩,⟨false,(.int .i64)⟩] T74=true:=kr
theorem Q74:RowsOk Bn 74 [⟨false,(.int .i64)⟩] [⟨true,y69⟩,⟨false,(.int .i64)⟩] T74:=rows_run (okC O111 (okC O173 ok0)) R74
def K74:Con:=tabC 74 [⟨false,(.int .i64)⟩] [⟨true,y69⟩,⟨false,(.int .i64)⟩] T74
theorem O74:OK Bn K74:=rows_con Q74
def site0_:den y71:=((J0,prg_,[],[],([],[]),[],J0,[]),((J1,[(J1,(true,[],[],[]))]),((J 1700,([rp 1700 0,([1,0,0,0,1,0,0,0,0,1,1,2]++(rp 1684 0++([1,0,0,0]))),([1]++(rp 1699 0))]++(rp 39 (rp 1700 0))),[]),(J1,J1,J0,[(J1,J2)]),(J0,J0,J0,[]),[],[]),((J 128,rp 400 (rp 128 0),[]),J1,J1,J0,J0),J0,J0),[],J0,[])
def T39:List (denL [⟨true,y42⟩,⟨false,(.sl y182)⟩,⟨false,(.int .i64)⟩]×denL [⟨true,y71⟩,⟨false,(.int .i64)⟩]):=[((prg_,[],J40,()),(site0_,J0,()))]
theorem R39:runAll Bn [K109,K73,K115,K74] EX 60 39 [⟨true,y42⟩,⟨false,(.sl y182)⟩,⟨false,(.int .i64)⟩] [⟨true,y71⟩,⟨false,(.int .i64)⟩] T39=true:=kr
theorem Q39:RowsOk Bn 39 [⟨true,y42⟩,⟨false,(.sl y182)⟩,⟨false,(.int .i64)⟩] [⟨true,y71⟩,⟨false,(.int .i64)⟩] T39:=rows_run (okC O109 (okC O73 (okC O115 (okC O74 ok0)))) R39
end Go.Ev
end
