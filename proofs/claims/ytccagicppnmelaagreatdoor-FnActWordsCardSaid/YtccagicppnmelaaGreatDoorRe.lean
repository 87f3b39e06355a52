/- A part of the proof that FnActWords returns true for every input and leaves its argument as it was; no condition. -/
import Derived.Test.YtccagicppnmelaaGreatDoorRd
import Derived.Test.YtccagicppnmelaaGreatDoorQp
import Derived.Test.YtccagicppnmelaaGreatDoorQa
set_option linter.all false
open List renaming length→U
open Int renaming ofNat→J,toNat→Jn
open Go.Ev
attribute [local irreducible] GC RJ KC KM cAt cOn runC stp brC bodyC cvC rsC rdC regC loopC endC skpC extC retC evJ RS.at RS.put RS.okS RS.okR RS.all RS.fst endV endVM grpA grpB grpR grpD grpO RunOps RunD bodyF resF argsFrom cArg
noncomputable section
namespace Go.Ev
open Go.Proofs
set_option maxRecDepth 100000
variable {Bn:Nat} [BOk Bn]
theorem fcR {f:Nat}{ps rs:List Par}{x:denL ps}{y:denL rs} (h:RowsOk Bn f ps rs [(x,y)]) (hw:wfR rs=true:=by kernel_rfl):FcOk Bn ⟨f,ps,rs,x,y⟩:=⟨hw,h _ (List.mem_singleton.2 rfl)⟩
def w_in:List Nat:=[105,110]
def wJ (js:den (.sl y179)):den y54:=(J 0,prg_,[],[],([],[]),js,J 0,[])
def T72:List (denL [⟨true,y42⟩]×denL [⟨false,.bool⟩]):=[((prg_,()),(true,()))]
theorem R72:runAll Bn [K109] EX 60 72 [⟨true,y42⟩] [⟨false,.bool⟩] T72=true:=kr
theorem Q72:RowsOk Bn 72 [⟨true,y42⟩] [⟨false,.bool⟩] T72:=rows_run (okC O109 ok0) R72
def T114:List (denL [⟨true,y46⟩]×denL [⟨false,.bool⟩]):=[(([],()),(true,()))]
theorem R114:runAll Bn [] EX 60 114 [⟨true,y46⟩] [⟨false,.bool⟩] T114=true:=kr
theorem Q114:RowsOk Bn 114 [⟨true,y46⟩] [⟨false,.bool⟩] T114:=rows_run ok0 R114
def T182:List (denL [⟨false,(.sl y203)⟩]×denL [⟨false,.bool⟩]):=[(([],()),(true,()))]
theorem R182:runAll Bn [] EX 60 182 [⟨false,(.sl y203)⟩] [⟨false,.bool⟩] T182=true:=kr
theorem Q182:RowsOk Bn 182 [⟨false,(.sl y203)⟩] [⟨false,.bool⟩] T182:=rows_run ok0 R182
def T207:List (denL [⟨true,y50⟩]×denL [⟨false,.bool⟩]):=[((([],[]),()),(true,()))]
theorem R207:runAll Bn [] EX 60 207 [⟨true,y50⟩] [⟨false,.bool⟩] T207=true:=kr
theorem Q207:RowsOk Bn 207 [⟨true,y50⟩] [⟨false,.bool⟩] T207:=rows_run ok0 R207
def T66:List (denL [⟨false,(.sl .str)⟩]×denL [⟨false,.bool⟩]):=[(([w_in],()),(true,()))]
theorem R66:runAll Bn [] EX 60 66 [⟨false,(.sl .str)⟩] [⟨false,.bool⟩] T66=true:=kr
theorem Q66:RowsOk Bn 66 [⟨false,(.sl .str)⟩] [⟨false,.bool⟩] T66:=rows_run ok0 R66
def T123:List (denL [⟨false,(.sl .str)⟩]×denL [⟨false,(.sl .str)⟩]):=[(([w_in],()),([w_in],()))]
theorem R123:runAll Bn [] EX 60 123 [⟨false,(.sl .str)⟩] [⟨false,(.sl .str)⟩] T123=true:=kr
theorem Q123:RowsOk Bn 123 [⟨false,(.sl .str)⟩] [⟨false,(.sl .str)⟩] T123:=rows_run ok0 R123
def T67:List (denL [⟨false,(.int .i64)⟩]×denL [⟨false,.bool⟩]):=[((J 1,()),(true,()))]
theorem R67:runAll Bn [] EX 60 67 [⟨false,(.int .i64)⟩] [⟨false,.bool⟩] T67=true:=kr
theorem Q67:RowsOk Bn 67 [⟨false,(.int .i64)⟩] [⟨false,.bool⟩] T67:=rows_run ok0 R67
def T374:List (denL [⟨true,y177⟩]×denL [⟨false,.bool⟩]):=[(((J 0,J 0,[]),()),(true,()))]
theorem R374:runAll Bn [] EX 60 374 [⟨true,y177⟩] [⟨false,.bool⟩] T374=true:=kr
theorem Q374:RowsOk Bn 374 [⟨true,y177⟩] [⟨false,.bool⟩] T374:=rows_run ok0 R374
def T116:List (denL [⟨false,(.sl y182)⟩]×denL [⟨false,(.sl y182)⟩]):=[(([],()),([],()))]
theorem R116:runAll Bn [] EX 60 116 [⟨false,(.sl y182)⟩] [⟨false,(.sl y182)⟩] T116=true:=kr
theorem Q116:RowsOk Bn 116 [⟨false,(.sl y182)⟩] [⟨false,(.sl y182)⟩] T116:=rows_run ok0 R116
def T117:List (denL [⟨true,y46⟩]×denL [⟨true,y46⟩]):=[(([],()),([],()))]
theorem R117:runAll Bn [] EX 60 117 [⟨true,y46⟩] [⟨true,y46⟩] T117=true:=kr
theorem Q117:RowsOk Bn 117 [⟨true,y46⟩] [⟨true,y46⟩] T117:=rows_run ok0 R117
def T129:List (denL [⟨true,y50⟩]×denL [⟨true,y50⟩]):=[((([],[]),()),(([],[]),()))]
theorem R129:runAll Bn [] EX 60 129 [⟨true,y50⟩] [⟨true,y50⟩] T129=true:=kr
theorem Q129:RowsOk Bn 129 [⟨true,y50⟩] [⟨true,y50⟩] T129:=rows_run ok0 R129
theorem q109:RowsOk Bn 109 pPr pBo [((prg_,()),(true,()))]:=rows_run (okC o168 (okC o169 (okC o170 (okC O171 ok0)))) r109
section
variable (j:den yJobR)
theorem g180_0:FmOk Bn (fm1 180 y54 55 [] [⟨false,.bool⟩] (wJ []) (()) (true,())):=fm_fn (Ds:=[.fc _]) (clF (fcR Q207) cl0) ok0 _ one_sel Tryz.func180 200 (fun p hp=>by obtain rfl:=List.mem_singleton.1 hp;exact w_ok kr kr)
theorem g181_0:FmOk Bn (fm1 181 y54 55 [] [⟨false,.bool⟩] (wJ []) (()) (true,())):=fm_fn (Ds:=[]) cl0 ok0 _ one_sel Tryz.func181 200 (fun p hp=>by obtain rfl:=List.mem_singleton.1 hp;exact w_ok kr kr)
theorem g180_1:FmOk Bn (fm1 180 y54 55 [] [⟨false,.bool⟩] (wJ [(J 1,j)]) (()) (true,())):=fm_fn (Ds:=[.fc _]) (clF (fcR Q207) cl0) ok0 _ one_sel Tryz.func180 200 (fun p hp=>by obtain rfl:=List.mem_singleton.1 hp;exact w_ok kr kr)
theorem g181_1 (h:FcOk Bn (⟨271,[⟨true,y42⟩,⟨true,y179⟩],[⟨false,.bool⟩],(prg_,(J 1,j),()),(true,())⟩:Fc)):FmOk Bn (fm1 181 y54 55 [] [⟨false,.bool⟩] (wJ [(J 1,j)]) (()) (true,())):=fm_fn (Ds:=[.fc _]) (clF h cl0) ok0 _ one_sel Tryz.func181 200 (fun p hp=>by obtain rfl:=List.mem_singleton.1 hp;exact w_ok kr kr)
theorem g120_0:FmOk Bn (fm1 120 y54 55 [] [⟨false,.bool⟩] (wJ []) (()) (true,())):=fm_fn (Ds:=[.fc _,.fc _,.fc _,.fm _,.fm _,.fc _]) (clF (fcR Q72) (clF (fcR Q73) (clF (fcR Q114) (clM' g180_0 (clM' g181_0 (clF (fcR Q182) cl0)))))) (okC o35 ok0) _ one_sel Tryz.func120 200 (fun p hp=>by obtain rfl:=List.mem_singleton.1 hp;exact w_ok kr kr)
theorem g120_1 (h:FcOk Bn (⟨271,[⟨true,y42⟩,⟨true,y179⟩],[⟨false,.bool⟩],(prg_,(J 1,j),()),(true,())⟩:Fc)):FmOk Bn (fm1 120 y54 55 [] [⟨false,.bool⟩] (wJ [(J 1,j)]) (()) (true,())):=fm_fn (Ds:=[.fc _,.fc _,.fc _,.fm _,.fm _,.fc _]) (clF (fcR Q72) (clF (fcR Q73) (clF (fcR Q114) (clM' (g180_1 j) (clM' (g181_1 j h) (clF (fcR Q182) cl0)))))) (okC o35 ok0) _ one_sel Tryz.func120 200 (fun p hp=>by obtain rfl:=List.mem_singleton.1 hp;exact w_ok kr kr)
theorem g80_0:FmOk Bn (fm1 80 y54 55 [] [⟨true,y54⟩] (wJ []) (()) (wJ [],())):=fm_fn (Ds:=[.fc _,.fc _,.fc _,.fc _]) (clF (fcR Q115) (clF (fcR Q116) (clF (fcR Q117) (clF (fcR Q129) cl0)))) ok0 _ one_sel Tryz.func80 200 (fun p hp=>by obtain rfl:=List.mem_singleton.1 hp;exact w_ok kr kr)
theorem g80_1 (h:FcOk Bn (⟨130,[⟨true,y179⟩],[⟨true,y179⟩],((J 1,j),()),((J 1,j),())⟩:Fc)):FmOk Bn (fm1 80 y54 55 [] [⟨true,y54⟩] (wJ [(J 1,j)]) (()) (wJ [(J 1,j)],())):=fm_fn (Ds:=[.fc _,.fc _,.fc _,.fc _,.fc _]) (clF (fcR Q115) (clF (fcR Q116) (clF (fcR Q117) (clF (fcR Q129) (clF h cl0))))) ok0 _ one_sel Tryz.func80 200 (fun p hp=>by obtain rfl:=List.mem_singleton.1 hp;exact w_ok kr kr)
end
section
variable {l:List Nat}{pc:Int}{a b:List Nat} (hl:(l,pc)∈labT) (ha:(a,b)∈argT)
include hl ha
theorem f184:FcOk Bn (⟨184,[⟨true,y42⟩,⟨false,.str⟩,⟨false,.str⟩,⟨false,(.sl .str)⟩],[⟨true,y174⟩,⟨false,(.int .i64)⟩],(prg_,w_JOB,l,[a,b],()),(mchT pc a b,J 0,())⟩:Fc):=fc_fn (Ds:=[.fc _,.fc _,.fc _,.fc _]) (clF (f273 hl) (clF (fcR Q275) (clF (f276 ha) (clF (f274 ha) cl0)))) ok0 _ Tryz.func184 200 (w_ok kr kr)
theorem f121:FcOk Bn (⟨121,[⟨true,y42⟩,⟨false,.str⟩,⟨false,.str⟩,⟨false,(.sl .str)⟩],[⟨true,y174⟩,⟨false,(.int .i64)⟩],(prg_,w_JOB,l,[a,b],()),(mchT pc a b,J 0,())⟩:Fc):=fc_fn (Ds:=[.fc _,.fc _,.fc _]) (clF (fcR q109) (clF (f183 ha) (clF (f184 hl ha) cl0))) ok0 _ Tryz.func121 200 (w_ok kr kr)
theorem f492:FcOk Bn (⟨492,[⟨true,y42⟩,⟨true,y174⟩],[⟨false,.bool⟩],(prg_,mchT pc a b,()),(true,())⟩:Fc):=fc_fn (Ds:=[.fc _,.fc _,.fc _]) (clF (fcR q109) (clF ((⟨kr,q171⟩:FcOk Bn ⟨171,pPr,pHe,(prg_,()),(hei_,true,())⟩)) (clF (f593 hl ha) cl0))) ok0 _ Tryz.func492 200 (w_ok kr kr)
theorem f373:FcOk Bn (⟨373,[⟨true,y42⟩,⟨true,y174⟩],[⟨false,.bool⟩],(prg_,mchT pc a b,()),(true,())⟩:Fc):=fc_fn (Ds:=[.fc _]) (clF (f492 hl ha) cl0) ok0 _ Tryz.func373 200 (w_ok kr kr)
theorem f271:FcOk Bn (⟨271,[⟨true,y42⟩,⟨true,y179⟩],[⟨false,.bool⟩],(prg_,(J 1,jobR (mchT pc a b)),()),(true,())⟩:Fc):=fc_fn (Ds:=[.fc _,.fc _,.fc _,.fc _,.fc _]) (clF (fcR Q67) (clF (f373 hl ha) (clF (fcR Q374) (clF (fcR Q66) (clF (fcR Q375) cl0))))) (okC o35 ok0) _ Tryz.func271 200 (w_ok kr kr)
omit hl ha in
theorem f130:FcOk Bn (⟨130,[⟨true,y179⟩],[⟨true,y179⟩],((J 1,jobR (mchT pc a b)),()),((J 1,jobR (mchT pc a b)),())⟩:Fc):=⟨kr,run_kok ok0 EX_ok (r130 pc a b)⟩
end
section
variable (j:den yJobR)
theorem g122_0:FmOk Bn (fm1 122 y54 55 [⟨false,(.int .i64)⟩] [⟨false,(.int .i64)⟩] (wJ []) (J 1,()) (.negSucc 0,())):=fm_fn (Ds:=[]) cl0 ok0 _ one_sel Tryz.func122 200 (fun p hp=>by obtain rfl:=List.mem_singleton.1 hp;exact w_ok kr kr)
theorem g122_1:FmOk Bn (⟨122,y54,55,[⟨false,(.int .i64)⟩],[⟨false,(.int .i64)⟩],wJ [(J 1,j)],[((J 1,()),(J 0,())),((J 2,()),(.negSucc 0,()))],fun x=>cd (iEq x.1 (J 1)) 0 1⟩:Fm):=fm_fn (Ds:=[]) cl0 ok0 _ (fun k q h=>by
 have ne:¬((J 2,()):denL pInt)=(J 1,()):=fun h=>by injection h with h;injection h with h;exact absurd h (by decide)
 match k,h with
 |0,h=>obtain rfl:=Oi (show some (((J 1,()),(J 0,())):denL pInt×denL pInt)=some q from h);exact if_pos rfl
 |1,h=>obtain rfl:=Oi (show some (((J 2,()),(.negSucc 0,())):denL pInt×denL pInt)=some q from h);exact(if_neg ne).trans (if_pos rfl)
 |k+2,h=>cases(show(none:Option (denL pInt×denL pInt))=some q from h)) Tryz.func122 200 (fun p hp=>by
 rcases List.mem_cons.1 hp with rfl|hp
 ·exact w_ok kr kr
 ·obtain rfl:=List.mem_singleton.1 hp;exact w_ok kr kr)
end
section
variable {l:List Nat}{pc:Int}{a b:List Nat} (hl:(l,pc)∈labT) (ha:(a,b)∈argT)
include hl ha
theorem f78_0:FcOk Bn (⟨78,[⟨true,y54⟩,⟨false,.str⟩,⟨false,.str⟩,⟨false,(.sl .str)⟩,⟨false,(.sl .str)⟩],[⟨true,y54⟩,⟨false,(.int .i64)⟩,⟨false,(.int .i64)⟩],(wJ [],w_JOB,l,[a,b],[w_in],()),(wJ [jobT (J 1) (mchT pc a b)],J 1,J 0,())⟩:Fc):=fc_fn (Ds:=[.fm _,.fc _,.fc _,.fm _,.fm _,.fc _]) (clM' g120_0 (clF (fcR Q66) (clF (f121 hl ha) (clM' g80_0 (clM' g122_0 (clF (fcR Q123) cl0)))))) ok0 _ Tryz.func78 400 (w_ok kr kr)
variable (j:den yJobR) (h1:FcOk Bn (⟨271,[⟨true,y42⟩,⟨true,y179⟩],[⟨false,.bool⟩],(prg_,(J 1,j),()),(true,())⟩:Fc)) (h2:FcOk Bn (⟨130,[⟨true,y179⟩],[⟨true,y179⟩],((J 1,j),()),((J 1,j),())⟩:Fc))
include h1 h2
theorem f78_1:FcOk Bn (⟨78,[⟨true,y54⟩,⟨false,.str⟩,⟨false,.str⟩,⟨false,(.sl .str)⟩,⟨false,(.sl .str)⟩],[⟨true,y54⟩,⟨false,(.int .i64)⟩,⟨false,(.int .i64)⟩],(wJ [(J 1,j)],w_JOB,l,[a,b],[w_in],()),(wJ [(J 1,j),jobT (J 2) (mchT pc a b)],J 2,J 0,())⟩:Fc):=fc_fn (Ds:=[.fm _,.fc _,.fc _,.fm _,.fm _,.fc _]) (clM' (g120_1 j h1) (clF (fcR Q66) (clF (f121 hl ha) (clM' (g80_1 j h2) (clM' (g122_1 j) (clF (fcR Q123) cl0)))))) ok0 _ Tryz.func78 400 (w_ok kr kr)
omit h1 h2
variable (r:den (.pair y69 (.pair y46 (.pair (.int .i64) (.sl y203)))))
theorem f41_0:FcOk Bn (⟨41,[⟨true,y71⟩,⟨true,y26⟩],[⟨true,y71⟩,⟨false,(.int .i64)⟩],((wJ [],r),(J 1,J 0,w_JOB,l,[a,b],[w_in],[]),()),((wJ [jobT (J 1) (mchT pc a b)],r),J 0,())⟩:Fc):=fc_fn (Ds:=[.fc _]) (clF (f78_0 hl ha) cl0) ok0 _ Tryz.func41 400 (w_ok kr kr)
include h1 h2
theorem f41_1:FcOk Bn (⟨41,[⟨true,y71⟩,⟨true,y26⟩],[⟨true,y71⟩,⟨false,(.int .i64)⟩],((wJ [(J 1,j)],r),(J 1,J 0,w_JOB,l,[a,b],[w_in],[]),()),((wJ [(J 1,j),jobT (J 2) (mchT pc a b)],r),J 0,())⟩:Fc):=fc_fn (Ds:=[.fc _]) (clF (f78_1 hl ha j h1 h2) cl0) ok0 _ Tryz.func41 400 (w_ok kr kr)
end
end Go.Ev
end
noncomputable section
namespace Go.Ev
open Go.Proofs
set_option maxRecDepth 100000
variable {Bn:Nat} [BOk Bn]
def prd {α β γ:Type} (ls:List α) (as_:List β) (f:α→β→γ) (t:List γ):List γ:=List.rec t (fun l _ ih=>mapL (f l) as_ ih) ls
theorem prd_mem {α β γ:Type}{as_:List β}{f:α→β→γ}{t:List γ}{l:α}{a:β} (ha:a∈as_):∀{ls:List α},l∈ls→f l a∈prd ls as_ f t
 |[],h=>by cases h
 |x::ls,h=>by
  rcases List.mem_cons.1 h with rfl|h
  ·exact mapL_mem (g:=f l) ha
  ·exact mapL_tail (prd_mem ha h)
theorem prd_tail {α β γ:Type}{as_:List β}{f:α→β→γ}{t:List γ}{y:γ} (h:y∈t):∀{ls:List α},y∈prd ls as_ f t
 |[]=>h
 |x::ls=>mapL_tail (prd_tail h (ls:=ls))
theorem prd_inv {α β γ:Type}{as_:List β}{f:α→β→γ}{t:List γ}{y:γ}:∀{ls:List α},y∈prd ls as_ f t→y∈t∨∃l∈ls,∃a∈as_,y=f l a
 |[],h=>.inl h
 |x::ls,h=>by
  rcases mapL_inv (l:=as_) h with h|⟨a,h1,h2⟩
  ·rcases prd_inv (ls:=ls) h with h|⟨l,g1,g2⟩
   ·exact .inl h
   ·exact .inr ⟨l,Lo _ g1,g2⟩
  ·exact .inr ⟨x,Mc ..,a,h1,h2⟩
theorem dr_sy {d:Dr}{en:denL d.ps→List (denL d.rs)}{sy:denL d.ps→List ((denL d.rs→denL d.rs)×(denL d.rs→List Zv))} (h:DrOk Bn d) (hs:DrEn {d with en:=en,sy:=sy}):DrOk Bn {d with en:=en,sy:=sy}:=⟨⟨h.1.1,hs⟩,h.2⟩
def dLabelS:Dr:={dLabel with en:=fun _=>[],sy:=fun _=>[(fun y=>y,fun y=>[.lab y.1])]}
theorem lab_of:∀{y:denL pStr},y∈l_dLabel→y.1∈l_lab:=fun{y} h=>by
 have e:l_dLabel=mapL (fun a=>((a,()):denL pStr)) l_lab []:=kr
 rw[e] at h
 rcases mapL_inv h with h|⟨x,h1,rfl⟩
 ·cases h
 ·exact h1
theorem dLabelS_ok:DrOk Bn dLabelS:=dr_sy dLabel_ok fun _ y hy=>.inr ⟨_,List.mem_singleton.2 rfl,rfl,fun v hv=>by obtain rfl:=List.mem_singleton.1 hv;exact lab_of hy⟩
def dArgsS:Dr:={dArgs with en:=fun _=>[],sy:=fun _=>[(fun y=>y,fun y=>[.arg y.1])]}
theorem arg_of:∀{y:denL pStrs},y∈l_dArgs→y.1∈l_arg:=fun{y} h=>by
 have e:l_dArgs=mapL (fun a=>((a,()):denL pStrs)) l_arg []:=kr
 rw[e] at h
 rcases mapL_inv h with h|⟨x,h1,rfl⟩
 ·cases h
 ·exact h1
theorem dArgsS_ok:DrOk Bn dArgsS:=dr_sy dArgs_ok fun _ y hy=>.inr ⟨_,List.mem_singleton.2 rfl,rfl,fun v hv=>by obtain rfl:=List.mem_singleton.1 hv;exact arg_of hy⟩
def pcOf (l:List Nat):Int:=List.rec (J 0) (fun q _ ih=>cd (sEq q.1 l) q.2 ih) labT
def memLT (l:List Nat) (pc:Int) (ls:List (List Nat×Int)):Bool:=List.rec false (fun q _ ih=>cd (cd (sEq q.1 l) (iEq q.2 pc) false) true ih) ls
theorem memLT_mem {l:List Nat}{pc:Int}:∀{ls:List (List Nat×Int)},memLT l pc ls=true→(l,pc)∈ls
 |[],h=>by cases h
 |q::ls,h=>by
  have h:cd (cd (sEq q.1 l) (iEq q.2 pc) false) true (memLT l pc ls)=true:=h
  cases hb:cd (sEq q.1 l) (iEq q.2 pc) false with
  |true=>
   obtain⟨h1,h2⟩:=cd_true hb
   rw[sEq_eq] at h1;rw[iEq_eq] at h2
   have h1:q.1=l:=by simpa using h1
   have h2:q.2=pc:=by simpa using h2
   rw[←h1,←h2];exact Mc ..
  |false=>rw[hb] at h;exact Lo _ (memLT_mem h)
def allM {α:Type} (p:α→Bool) (l:List α):Bool:=List.rec true (fun x _ ih=>cd (p x) ih false) l
theorem allM_mem {α:Type}{p:α→Bool}{x:α}:∀{l:List α},allM p l=true→x∈l→p x=true
 |[],_,h=>by cases h
 |y::l,h,hm=>by
  obtain⟨h1,h2⟩:=cd_true (show cd (p y) (allM p l) false=true from h)
  rcases List.mem_cons.1 hm with rfl|hm
  ·exact h1
  ·exact allM_mem h2 hm
theorem lab_pc {l:List Nat} (h:l∈l_lab):(l,pcOf l)∈labT:=memLT_mem (allM_mem (p:=fun l=>memLT l (pcOf l) labT) (l:=l_lab) kr h)
def memAT (a b:List Nat) (ls:List (List Nat×List Nat)):Bool:=List.rec false (fun q _ ih=>cd (cd (sEq q.1 a) (sEq q.2 b) false) true ih) ls
theorem memAT_mem {a b:List Nat}:∀{ls:List (List Nat×List Nat)},memAT a b ls=true→(a,b)∈ls
 |[],h=>by cases h
 |q::ls,h=>by
  have h:cd (cd (sEq q.1 a) (sEq q.2 b) false) true (memAT a b ls)=true:=h
  cases hb:cd (sEq q.1 a) (sEq q.2 b) false with
  |true=>
   obtain⟨h1,h2⟩:=cd_true hb
   rw[sEq_eq] at h1 h2
   have h1:q.1=a:=by simpa using h1
   have h2:q.2=b:=by simpa using h2
   rw[←h1,←h2];exact Mc ..
  |false=>rw[hb] at h;exact Lo _ (memAT_mem h)
def arA (A:List (List Nat)):List Nat:=gt .str A 0
def arB (A:List (List Nat)):List Nat:=gt .str A 1
theorem arg_ab {A:List (List Nat)} (h:A∈l_arg):(arA A,arB A)∈argT∧A=[arA A,arB A]:=by
 have h1:=allM_mem (p:=fun(A:List (List Nat))=>cd (memAT (arA A) (arB A) argT) (eqT (.sl .str) A [arA A,arB A]) false) (l:=l_arg) kr h
 obtain⟨h1,h2⟩:=cd_true h1
 exact⟨memAT_mem h1,eqT_eq (.sl .str) _ _ h2⟩
def jobO (i:Int) (l:List Nat) (A:List (List Nat)):den y179:=jobT i (mchT (pcOf l) (arA A) (arB A))
def actO (l:List Nat) (A:List (List Nat)):den y26:=(J 1,J 0,w_JOB,l,A,[w_in],[])
def sJ (js:den (.sl y179)):den y71:=(wJ js,site0_.2)
abbrev pDo:List Par:=[⟨true,y71⟩,⟨true,y26⟩]
abbrev rDo:List Par:=[⟨true,y71⟩,⟨false,.int .i64⟩]
def doP (x:denL pDo):Prop:=(∃l∈l_lab,∃A∈l_arg,x=(sJ [],actO l A,()))∨∃l1∈l_lab,∃A1∈l_arg,∃l∈l_lab,∃A∈l_arg,x=(sJ [jobO (J 1) l1 A1],actO l A,())
def doJ (js:den (.sl y179)) (l:List Nat) (A:List (List Nat)):den (.sl y179):=match js with
 |[]=>[jobO (J 1) l A]
 |j::_=>[j,jobO (J 2) l A]
def doY (x:denL pDo):denL rDo:=(sJ (doJ x.1.1.2.2.2.2.2.1 x.2.1.2.2.2.1 x.2.1.2.2.2.2.1),J 0,())
def doO (x:denL pDo) (z:List Zv):Option (List Ob):=match z with
 |[.arg A,.lab l]=>some [obL pDo x (sJ [],actO l A,())]
 |[.arg A,.lab l,.arg A1,.lab l1]=>some [obL pDo x (sJ [jobO (J 1) l1 A1],actO l A,())]
 |_=>none
def fDo:Fs:=⟨41,pDo,rDo,doP,doY,doO⟩
theorem fDo_ok:FsOk Bn fDo:=by
 refine⟨kr,fun x hx=>?_,fun x z o h he hz=>?_⟩
 ·rcases hx with ⟨l,hl,A,hA,rfl⟩|⟨l1,hl1,A1,hA1,l,hl,A,hA,rfl⟩
  ·obtain⟨h1,h2⟩:=arg_ab hA
   have h:=(f41_0 (Bn:=Bn) (lab_pc hl) h1 site0_.2).2
   rw[show(([arA A,arB A]:List (List Nat)))=A from h2.symm] at h
   exact h
  ·obtain⟨h1,h2⟩:=arg_ab hA
   obtain⟨g1,g2⟩:=arg_ab hA1
   have h:=(f41_1 (Bn:=Bn) (lab_pc hl) h1 (jobR (mchT (pcOf l1) (arA A1) (arB A1))) (f271 (lab_pc hl1) g1) f130 site0_.2).2
   rw[show(([arA A,arB A]:List (List Nat)))=A from h2.symm] at h
   exact h
 ·replace h:doO x z=some o:=h
  unfold doO at h
  split at h
  ·rename_i A l
   obtain rfl:=Oi h
   exact .inl ⟨l,hz (.lab l) (by simp),A,hz (.arg A) (by simp),he (obL pDo x (sJ [],actO l A,())) (List.mem_singleton.2 rfl)⟩
  ·rename_i A l A1 l1
   obtain rfl:=Oi h
   exact .inr ⟨l1,hz (.lab l1) (by simp),A1,hz (.arg A1) (by simp),l,hz (.lab l) (by simp),A,hz (.arg A) (by simp),he (obL pDo x (sJ [jobO (J 1) l1 A1],actO l A,())) (List.mem_singleton.2 rfl)⟩
  ·cases h
abbrev pSite:List Par:=[⟨true,y71⟩]
def fr1 (l:List Nat) (A:List (List Nat)):denL pSite:=(sJ [jobO (J 1) l A],())
def fr2 (p q:List Nat×List (List Nat)):denL pSite:=(sJ [jobO (J 1) p.1 p.2,jobO (J 2) q.1 q.2],())
def l_la:List (List Nat×List (List Nat)):=prd l_lab l_arg (fun l A=>(l,A)) []
theorem la_mem {l:List Nat}{A:List (List Nat)} (hl:l∈l_lab) (hA:A∈l_arg):(l,A)∈l_la:=prd_mem (f:=fun(l:List Nat) (A:List (List Nat))=>(l,A)) hA hl
def freshL:List (denL pSite):=prd l_lab l_arg fr1 (prd l_la l_la fr2 [])
def hdJ (js:den (.sl y179)):den yJobR:=match js with
 |[]=>jobR (mchT (J 0) [] [])
 |j::_=>j.2
def tlJ (js:den (.sl y179)):den (.sl y179):=match js with
 |[]=>[]
 |_::r=>r
def fs1 (y:denL pSite):denL pSite:=(sJ [(J 1,hdJ y.1.1.2.2.2.2.2.1)],())
def fs2 (y:denL pSite):denL pSite:=(sJ [(J 1,hdJ y.1.1.2.2.2.2.2.1),(J 2,hdJ (tlJ y.1.1.2.2.2.2.2.1))],())
def chkF (y:denL pSite) (z:List Zv):Option (List Ob):=match z with
 |[.arg A,.lab l]=>some [obL pSite y (fr1 l A)]
 |[.arg A,.lab l,.arg A1,.lab l1]=>some [obL pSite y (fr2 (l1,A1) (l,A))]
 |_=>none
theorem chkF_mem {y:denL pSite}{z:List Zv}{o:List Ob} (h:chkF y z=some o) (he:Eqs o) (hz:∀v∈z,Zok v):y∈freshL:=by
 unfold chkF at h
 split at h
 ·rename_i A l
  obtain rfl:=Oi h
  rw[show y=fr1 l A from he (obL pSite y (fr1 l A)) (List.mem_singleton.2 rfl)]
  exact prd_mem (f:=fr1) (hz (.arg A) (by simp)) (hz (.lab l) (by simp))
 ·rename_i A l A1 l1
  obtain rfl:=Oi h
  rw[show y=fr2 (l1,A1) (l,A) from he (obL pSite y (fr2 (l1,A1) (l,A))) (List.mem_singleton.2 rfl)]
  exact prd_tail (prd_mem (f:=fr2) (la_mem (hz (.lab l) (by simp)) (hz (.arg A) (by simp))) (la_mem (hz (.lab l1) (by simp)) (hz (.arg A1) (by simp))))
 ·cases h
def dFresh:Dr:=drS 14 [] pSite 200 (fun _=>freshL) none (fun _=>[]) (fun _=>[(fs1,fun _=>[]),(fs2,fun _=>[])])
theorem dFresh_en:DrEn dFresh:=fun _ y hy=>by
 refine .inr ?_
 rcases prd_inv (show y∈prd l_lab l_arg fr1 (prd l_la l_la fr2 []) from hy) with h|⟨l,_,A,_,rfl⟩
 ·rcases prd_inv h with h|⟨p,_,q,_,rfl⟩
  ·cases h
  ·exact⟨(fs2,fun _=>[]),Lo _ (List.mem_singleton.2 rfl),rfl,fun v hv=>by cases hv⟩
 ·exact⟨(fs1,fun _=>[]),Mc ..,rfl,fun v hv=>by cases hv⟩
theorem dFresh_ok:DrOk Bn dFresh:=nd_fn (Ds:=[.fc _,.fc _,.dr dPick,.dr dLabelS,.dr dArgsS,.fs fDo]) (clF (fcR Q40) (clF (fcR Q39) (clD dPick_ok (clD dLabelS_ok (clD dArgsS_ok (clS fDo_ok cl0)))))) ok0 dFresh (fun _ y z=>chkF y z) (fun _ _ _ _ h he hz=>chkF_mem h he hz) dFresh_en Tryz.func14 200 (fun σ x _ _ _=>w_ok kr kr)
end Go.Ev
end
noncomputable section
namespace Go.Ev
open Go.Proofs
set_option maxRecDepth 100000
section
variable {Bn:Nat} [BOk Bn]
def isFr (js:den (.sl y179)):Bool:=match js with
 |[a]=>iEq a.1 (J 1)
 |[a,b]=>cd (iEq a.1 (J 1)) (iEq b.1 (J 2)) false
 |_=>false
abbrev pSs:List Par:=[⟨true,y77⟩]
def frX (x:denL pSs):Bool:=isFr x.1.1.1.2.2.2.2.2.1
def dSitesO:Dr:=drS 13 pSs pSites 400 (fun x=>cd (frX x) sitesL []) none (fun _=>[]) (fun _=>[(fun y=>y,fun y=>[.sit y.1])])
theorem frX_of {x:denL pSs} (h:frX x=true):(∃tk pr tr te lo al ba j1 b1 s1,x=((st1 tk pr tr te lo al ba j1 b1,s1),()))∨∃tk pr tr te lo al ba j1 j2 b1 s1,x=((st2 tk pr tr te lo al ba j1 j2 b1,s1),()):=by
 obtain⟨⟨⟨⟨tk,pr,tr,te,lo,js,al,ba⟩,b1⟩,s1⟩,u⟩:=x
 replace h:isFr js=true:=h
 unfold isFr at h
 split at h
 ·rename_i a
  obtain⟨i,j⟩:=a
  rw[iEq_eq] at h
  have h:i=J 1:=by simpa using h
  subst h
  exact .inl ⟨tk,pr,tr,te,lo,al,ba,j,b1,s1,rfl⟩
 ·rename_i a b
  obtain⟨i,j⟩:=a
  obtain⟨i2,j2⟩:=b
  obtain⟨h,h2⟩:=cd_true h
  rw[iEq_eq] at h h2
  have h:i=J 1:=by simpa using h
  have h2:i2=J 2:=by simpa using h2
  subst h;subst h2
  exact .inr ⟨tk,pr,tr,te,lo,al,ba,j,j2,b1,s1,rfl⟩
 ·cases h
theorem dSitesO_ok:DrOk Bn dSitesO:=by
 refine⟨⟨kr,fun x y hy=>?_⟩,fun x0 x h1 h2 h3 hne _ hos=>?_⟩
 ·refine .inr ⟨_,List.mem_singleton.2 rfl,rfl,fun v hv=>?_⟩
  obtain rfl:=List.mem_singleton.1 hv
  replace hy:y∈cd (frX x) sitesL []:=hy
  cases hf:frX x with
  |true=>rw[hf] at hy;exact hy
  |false=>rw[hf] at hy;cases hy
 ·replace hne:cd (frX x) sitesL []≠[]:=hne
  cases hf:frX x with
  |false=>rw[hf] at hne;exact absurd rfl hne
  |true=>
   have hch:dSitesO.ch x=sitesL:=by show cd (frX x) sitesL []=_;rw[hf];rfl
   rw[hf] at hne
   have hne2:sitesL≠[]:=hne
   rcases frX_of hf with ⟨tk,pr,tr,te,lo,al,ba,j1,b1,s1,hx⟩|⟨tk,pr,tr,te,lo,al,ba,j1,j2,b1,s1,hx⟩
   ·obtain⟨q,g1,g2,g3⟩:=(dSites1_ok (Bn:=Bn) tk pr tr te lo al ba j1 b1 s1).2 x0 x h1 h2 h3 hne2 (fun w hw=>by rw[←Oi hw];exact hx) (fun w hw=>by cases hw)
    exact⟨q,by rw[hch];exact g1,g2,g3⟩
   ·obtain⟨q,g1,g2,g3⟩:=(dSites2_ok (Bn:=Bn) tk pr tr te lo al ba j1 j2 b1 s1).2 x0 x h1 h2 h3 hne2 (fun w hw=>by rw[←Oi hw];exact hx) (fun w hw=>by cases hw)
    exact⟨q,by rw[hch];exact g1,g2,g3⟩
def othersL:List (denL pSites):=mapL (fun a=>mainA a.1) (List.drop 117 l_small) l_sites
def jobB (y:denL pAct):Bool:=cd (eqDL pAct y (actO y.1.2.2.2.1 y.1.2.2.2.2.1,())) (cd (inD pStr l_dLabel (y.1.2.2.2.1,())) (inD pStrs l_dArgs (y.1.2.2.2.2.1,())) false) false
def smallB (y:denL pAct):Bool:=cd (inD pAct (List.drop 117 l_small) y) true (jobB y)
theorem small_all:allM smallB l_small=true:=kr
theorem sites_inv {y:denL pSites} (h:y∈sitesL):y∈othersL∨(∃a,((a,()):denL pAct)∈crashL []∧y=mainA a)∨∃l∈l_lab,∃A∈l_arg,y=mainA (actO l A):=by
 rcases mapL_inv (show y∈mapL (fun(a:denL pAct)=>mainA a.1) (crashL []) sitesE from h) with h|⟨a,h1,rfl⟩
 ·rcases mapL_inv (show y∈mapL (fun(a:denL pAct)=>mainA a.1) l_small l_sites from h) with h|⟨a,h1,rfl⟩
  ·exact .inl (mapL_tail h)
  ·have hb:=allM_mem small_all h1
   replace hb:cd (inD pAct (List.drop 117 l_small) a) true (jobB a)=true:=hb
   cases hd:inD pAct (List.drop 117 l_small) a with
   |true=>exact .inl (mapL_mem (g:=fun(a:denL pAct)=>mainA a.1) (inD_mem hd))
   |false=>
    rw[hd] at hb
    obtain⟨g1,g2⟩:=cd_true (show cd (eqDL pAct a (actO a.1.2.2.2.1 a.1.2.2.2.2.1,())) (cd (inD pStr l_dLabel (a.1.2.2.2.1,())) (inD pStrs l_dArgs (a.1.2.2.2.2.1,())) false) false=true from hb)
    obtain⟨g2,g3⟩:=cd_true g2
    refine .inr (.inr ⟨a.1.2.2.2.1,lab_of (inD_mem g2),a.1.2.2.2.2.1,arg_of (inD_mem g3),?_⟩)
    exact congrArg (fun(b:denL pAct)=>mainA b.1) (eqDL_eq pAct a _ g1)
 ·exact .inr (.inl ⟨a.1,h1,rfl⟩)
end
end Go.Ev
end
