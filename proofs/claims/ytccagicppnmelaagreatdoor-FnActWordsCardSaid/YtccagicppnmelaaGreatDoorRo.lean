/- A part of the proof that FnActWords returns true for every input and leaves its argument as it was; no condition. -/
import Derived.Test.YtccagicppnmelaaGreatDoorRj
import Derived.Test.YtccagicppnmelaaGreatDoorRl
import Derived.Lib.LaidTab
import Derived.Shelf.Vars
import Derived.SizedLaws
import Derived.Test.YtccagicppnmelaaGreatDoorRn
import Derived.OpenShut
import Derived.Test.YtccagicppnmelaaGreatDoorQa
set_option linter.all false
open List renaming length→U
open Int renaming ofNat→J,toNat→Jn
open Go.Ev
attribute [local irreducible] GC RJ KC KM cAt cOn runC stp brC bodyC cvC rsC rdC regC loopC endC skpC extC retC evJ RS.at RS.put RS.okS RS.okR RS.all RS.fst endV endVM grpA grpB grpR grpD grpO RunOps RunD bodyF resF argsFrom cArg
noncomputable section
namespace Go.Ev
open Go.Proofs
set_option maxRecDepth 100000
def env0 (w:World):Env:=⟨fun _=>(0,1),H0,w,⟨fun _=>False,0,Bn⟩⟩
theorem env0_get (w:World) (id:Id):(env0 w).h.get id=none:=by show T.get id .e=none;rw[T.get_e]
theorem env0_own (w:World) (b:Nat):¬Own (env0 w) b:=fun⟨id,⟨_,hb,_⟩,_⟩=>by rw[env0_get] at hb;cases hb
theorem env0_imm (w:World) (b:Nat) (h:b<w.heap.size):Imm (env0 w) b:=⟨h,fun h=>h,env0_own w b⟩
theorem env0_st (w:World):St (env0 w):={
 kn:=fun id h=>by simp[known,env0] at h
 dk:=fun id b hb=>by rw[env0_get] at hb;cases hb
 lo:=Nr 0
 blk:=fun id b hb=>by rw[env0_get] at hb;cases hb
 inj:=fun id _ ⟨b,hb,_⟩=>by rw[env0_get] at hb;cases hb
 fr:=fun b hb=>hb.elim}
theorem env0_fresh (w:World):Fresh (env0 w):=⟨rfl,fun _=>rfl,rfl⟩
theorem cell_lt {w:World}{b o:Nat}{v:Value} (h:w.cell? ⟨b,o,none⟩=some v):b<w.heap.size:=by
 rcases Nat.lt_or_ge b w.heap.size with hl|hl
 ·exact hl
 ·simp[World.cell?,Array.getElem?_eq_none hl] at h
theorem cells_one {w:World}{g:Nat}{v:Value} (h:w.cell? ⟨g,0,none⟩=some v):CellsAt w g 0 [v]:=fun j u hu=>by
 cases j with
 |zero=>obtain rfl:=Oi hu;exact h
 |succ j=>simp at hu
theorem relT_pow {m:Mm}{w:World}:relT m w powT powX (Lib.pow10Tab.map fun z=>Value.int .u64 z):=by
 show relT m w powT powX [.int .u64 1,.int .u64 10,.int .u64 100,.int .u64 1000,.int .u64 10000,.int .u64 100000,.int .u64 1000000,.int .u64 10000000,.int .u64 100000000,.int .u64 1000000000,.int .u64 10000000000,.int .u64 100000000000,.int .u64 1000000000000,.int .u64 10000000000000,.int .u64 100000000000000,.int .u64 1000000000000000,.int .u64 10000000000000000,.int .u64 100000000000000000,.int .u64 1000000000000000000,.int .u64 10000000000000000000]
 repeat refine⟨[_],_,rfl,rfl,?_⟩
 rfl
theorem grel_of {W:World}{m:Int} (h0:W.cell? ⟨0,0,none⟩=some (.int .i64 m)) (h1:Lib.TabIs Tryz.prog W (YtccagicppnmelaaGreatDoor.Rows.fnActWordsRow.named.getD 3 default) .u64 Lib.pow10Tab)
 (h2:∃u v,W.cell? ⟨2,0,none⟩=some (.iface u v)) (h3:∃u v,W.cell? ⟨3,0,none⟩=some (.iface u v)):GRel (GG Bn) (env0 W):=by
 have hn:Tryz.prog.globalNamed (YtccagicppnmelaaGreatDoor.Rows.fnActWordsRow.named.getD 3 default)=some 1:=Tryz.lays173.m17
 refine⟨rfl,fun g q hq=>?_,fun g hg=>?_,fun g hg=>?_⟩
 ·replace hq:cd (Nat.beq g 1) (some (⟨powT,powX⟩:Sigma den)) none=some q:=hq
  cases hb:Nat.beq g 1 with
  |false=>rw[hb] at hq;cases hq
  |true=>
   rw[hb] at hq
   obtain rfl:=Oi (show some (⟨powT,powX⟩:Sigma den)=some q from hq)
   obtain rfl:=Nq hb
   have hcell:=fun i hi=>h1.cell hn i hi
   have hbs:bsize W 1=20:=by
    unfold Lib.TabIs World.var? at h1
    rw[hn] at h1
    have h1:(match W.heap[1]? with|some (.cells cs _ _)=>some cs|_=>none)=_:=h1
    unfold bsize
    split at h1
    ·rename_i cs t fr hb
     rw[hb]
     have:=Oi h1
     show cs.size=20
     rw[this]
     rfl
    ·cases h1
   refine⟨?_,hbs⟩
   simp only[Rel]
   refine⟨1,0,_,rfl,env0_imm W 1 ?_,?_,relT_pow⟩
   ·rcases Nat.lt_or_ge 1 W.heap.size with hl|hl
    ·exact hl
    ·simp[bsize,Array.getElem?_eq_none hl] at hbs
   ·intro j v hv
    have hj:j<20:=by
     have:=(List.getElem?_eq_some_iff.1 hv).1
     exact this
    have h4:=hcell j hj
    rw[List.getElem?_map] at hv
    obtain⟨z,hz,rfl⟩:=Option.map_eq_some_iff.1 hv
    have h5:Lib.pow10Tab.getD j 0=z:=by simp[List.getD,hz]
    rw[h5] at h4
    show W.cell? ⟨1,0+j,none⟩=_
    rw[Nat.zero_add]
    exact h4
 ·obtain rfl:=Nq (show Nat.beq g 0=true from hg)
  refine⟨m,?_⟩
  simp only[Rel]
  exact⟨0,0,[.int .i64 m],rfl,env0_imm W 0 (cell_lt h0),cells_one h0,rfl⟩
 ·have hg:cd (Nat.beq g 2) true (Nat.beq g 3)=true:=hg
  have go:∀k:Nat,(∃u v,W.cell? ⟨k,0,none⟩=some (.iface u v))→Rel (env0 W) (.ip .unit () 0) (.pointer (some ⟨k,0,none⟩))∧∃v,(env0 W).w.cell? ⟨k,0,none⟩=some v∧(v=.nilIface∨∃t p,v=.iface t p):=fun k ⟨u,v,h⟩=>by
   refine⟨?_,_,h,.inr ⟨u,v,rfl⟩⟩
   simp only[Rel]
   exact⟨k,0,[],rfl,env0_imm W k (cell_lt h),fun j v hv=>by simp at hv,rfl⟩
  cases hb:Nat.beq g 2 with
  |true=>obtain rfl:=Nq hb;exact go 2 h2
  |false=>rw[hb] at hg;obtain rfl:=Nq (show Nat.beq g 3=true from hg);exact go 3 h3
theorem enters3:∀args w,(callFunc 3 args).run Tryz.prog w=.ok (.enter 3 args) w:=enters_of Tryz.func3 kr rfl
theorem allB_of:∀{l:List Int},(∀z∈l,(0:Int)≤z∧z≤255)→allB l=true
 |[],_=>rfl
 |z::l,h=>by
  have h1:=h z (Mc ..)
  have h2:=allB_of (l:=l) fun x hx=>h x (Lo _ hx)
  show cd (cd (iLe (J 0) z) (iLe z (J 255)) false) (allB l) false=true
  have e1:iLe (J 0) z=true:=by rw[iLe_eq];exact Dt (show(0:Int)≤z from h1.1)
  have e2:iLe z (J 255)=true:=by rw[iLe_eq];exact Dt (show z≤255 from h1.2)
  rw[e1,e2,h2];rfl
theorem calls3 {w:World}{code:den (.sl (.int .u8))}{v:Value} (hb:allB code=true) (hg:GRel (GG Bn) (env0 w)) (hr:Rel (env0 w) (.isl (.int .u8) code) v):
 Calls Tryz.prog 3 #[v] w fun e w'=>e=.returned (.bool true)∧w.heap.size≤w'.heap.size∧(∀b,b<w.heap.size→w'.heap[b]? =w.heap[b]?)∧Qt w w':=by
 have hd:=law_true hb (env0 w) [v] (env0_fresh w) (env0_st w) hg (by show RelL (env0 w) [.isl (.int .u8) code] [v];simp only[RelL];exact⟨hr,trivial⟩)
 rcases hd with ⟨u,w',h1,_⟩|⟨_,h2⟩
 ·have:=enters3 [v].toArray w
  have h1:(callFunc 3 [v].toArray).run Tryz.prog w=.ok (.value u) w':=h1
  rw[this] at h1
  cases h1
 ·refine h2.mono ?_
  rintro e w' ⟨cv,rfl,e',rfl,_,hext,hrel⟩
  replace hrel:Rel e' (.b true) cv:=hrel
  simp only[Rel] at hrel
  subst hrel
  exact⟨rfl,hext.heap,fun b hb=>hext.keep b hb (env0_own w b),hext.qt⟩
end Go.Ev
namespace Go.Proofs.YtccagicppnmelaaGreatDoor
open Go.ChangeShapes Go.WideShapes Go.ChangeAt Go.RowKit Go.Ev
set_option maxRecDepth 100000
theorem own:ownKnob Tryz.prog.godebug=none:=kr
theorem cells5:Tryz.prog.cellsOf 5=1:=kr
theorem iface_cells {H:Type}{enc:TypeId×Value→H}{P:Program}{w:World}{base:Nat}{sp:Nat→Bool}{fuel:Nat}{t:TypeId}{ms:Array (String×TypeId)}{cs:List Value}{n:String}{d:DataW H}{p:List MemPlace}
 (ht:P.underlying t=some (.interface ms)) (h:DataW.trod enc P w base sp false fuel t cs=some (.iface n d,p)):∃u v,cs=[.iface u v]:=by
 cases fuel with
 |zero=>simp[DataW.trod] at h
 |succ fuel=>
  unfold DataW.trod at h
  rw[ht] at h
  split at h<;>first
   |cases h;done
   |exact⟨_,_,rfl⟩
   |(rename_i h1;cases h1;done)
   |(rename_i h1 _;cases h1;done)
   |(rename_i h1 _ _;cases h1;done)
   |(rename_i h1 _ _ _;cases h1;done)
theorem cell_of_var {W:World}{n:String}{g:Nat}{u:TypeId}{v:Value}{cs:Array Value} (hn:Tryz.prog.globalNamed n=some g) (hv:W.var? Tryz.prog n=some cs) (hc:cs.toList=[.iface u v]):W.cell? ⟨g,0,none⟩=some (.iface u v):=by
 have e:cs=#[.iface u v]:=by rw[←Array.toArray_toList (xs:=cs),hc]
 subst e
 unfold World.var? at hv
 rw[hn] at hv
 have hv:(match W.heap[g]? with|some (.cells cs _ _)=>some cs|_=>none)=some #[.iface u v]:=hv
 split at hv
 ·rename_i cs t fr hb
  obtain rfl:=Oi hv
  simp[World.cell?,hb]
 ·cases hv
theorem fil:(Rows.fnActWordsRow.laid.filter fun x=>x.2.handleName?.isSome)=[]:=kr
theorem nP:((Rows.fnActWordsRow.laid[2]?).getD (default,.nil)).1=Rows.fnActWordsRow.named.getD 3 default:=kr
theorem nD:((Rows.fnActWordsRow.laid[2]?).getD (default,.nil)).2=Lib.tabData .u64 Lib.pow10Tab:=kr
theorem nS:Tryz.prog.globalNamed ((Rows.fnActWordsRow.laid[5]?).getD (default,.nil)).1=some 2:=kr
theorem nR:Tryz.prog.globalNamed ((Rows.fnActWordsRow.laid[6]?).getD (default,.nil)).1=some 3:=kr
theorem ty1:(Tryz.prog.globals[1]?).map (·.type)=some 326:=kr
theorem ty2:(Tryz.prog.globals[2]?).map (·.type)=some 116:=kr
theorem ty3:(Tryz.prog.globals[3]?).map (·.type)=some 116:=kr
theorem c97:Tryz.prog.cellsOf 97=1:=kr
theorem c326:Tryz.prog.cellsOf 326=20:=kr
theorem laid_met {W:World} (h:laidMetH Tryz.prog Rows.fnActWordsRow.laid W):laidMet Tryz.prog Rows.fnActWordsRow.laid W:=by
 unfold laidMetH at h
 rw[fil] at h
 exact h
def Holds1 (W:World) (n:String) (d:DataW Unit):Prop:=∃g t cs fuel p,Tryz.prog.globalNamed n=some g∧(Tryz.prog.globals[g]?).map (·.type)=some t∧W.var? Tryz.prog n=some cs∧DataW.trod (fun _=>()) Tryz.prog W 0 (fun _=>true) false fuel t cs.toList=some (d,p)
theorem holds_of {W:World}{ps:List MemPlace}:∀{l:List (String×DataW Unit)},DataW.LaidVars Tryz.prog W l ps→∀{i:Nat}{x:String×DataW Unit},l[i]? =some x→Holds1 W x.1 x.2
 |[],_,i,x,hx=>by simp at hx
 |y::l,h,i,x,hx=>by
  obtain⟨g,t,cs,fuel,p,q,hg,ht,hvar,hd,hq,_⟩:=h
  cases i with
  |zero=>obtain rfl:=Oi hx;exact⟨g,t,cs,fuel,p,hg,ht,hvar,hd⟩
  |succ i=>exact holds_of hq (by simpa using hx)
theorem pow_laid {W:World} (h:Holds1 W ((Rows.fnActWordsRow.laid[2]?).getD (default,.nil)).1 ((Rows.fnActWordsRow.laid[2]?).getD (default,.nil)).2):Lib.TabIs Tryz.prog W (Rows.fnActWordsRow.named.getD 3 default) .u64 Lib.pow10Tab:=by
 rw[nP,nD] at h
 obtain⟨g,t,cs,fuel,p,hg,ht,hvar,hd⟩:=h
 have hn:Tryz.prog.globalNamed (Rows.fnActWordsRow.named.getD 3 default)=some 1:=Tryz.lays173.m17
 obtain rfl:=Oi (hn.symm.trans hg)
 obtain rfl:=Oi (ty1.symm.trans ht)
 unfold Lib.TabIs
 rw[hvar,←Lib.cells_of_tab Tryz.underlying326 Tryz.underlying97 c97 c326 hd]
theorem err_laid {W:World}{n:String}{g:Nat}{m:String}{d:DataW Unit} (hn:Tryz.prog.globalNamed n=some g) (hty:(Tryz.prog.globals[g]?).map (·.type)=some 116){x:DataW Unit} (hx:x=.iface m d) (h:Holds1 W n x):∃u v,W.cell? ⟨g,0,none⟩=some (.iface u v):=by
 subst hx
 obtain⟨g',t,cs,fuel,p,hg,ht,hvar,hd⟩:=h
 obtain rfl:=Oi (hn.symm.trans hg)
 obtain rfl:=Oi (hty.symm.trans ht)
 obtain⟨u,v,hc⟩:=iface_cells Tryz.underlying116 hd
 exact⟨u,v,cell_of_var hn hvar hc⟩
theorem vars_laid {W:World} (h:laidMetH Tryz.prog Rows.fnActWordsRow.laid W):Lib.TabIs Tryz.prog W (Rows.fnActWordsRow.named.getD 3 default) .u64 Lib.pow10Tab∧(∃u v,W.cell? ⟨2,0,none⟩=some (.iface u v))∧∃u v,W.cell? ⟨3,0,none⟩=some (.iface u v):=by
 obtain⟨ps,hl,_⟩:=laid_met h
 exact⟨pow_laid (holds_of hl (i:=2) (x:=((Rows.fnActWordsRow.laid[2]?).getD (default,.nil))) rfl),err_laid nS ty2 rfl (holds_of hl (i:=5) (x:=((Rows.fnActWordsRow.laid[5]?).getD (default,.nil))) rfl),err_laid nR ty3 rfl (holds_of hl (i:=6) (x:=((Rows.fnActWordsRow.laid[6]?).getD (default,.nil))) rfl)⟩
theorem vars_rel {W:World} (hs:W.ShapedOpen Tryz.prog) (h:laidMetH Tryz.prog Rows.fnActWordsRow.laid W):GRel (GG Bn) (env0 W):=by
 have hz:((begin Tryz.prog (fun _ _=>0) default).world.heap[0]?).bind Obj.row? =some (#[.int .i64 0],3):=kr
 obtain⟨m,hm⟩:=cell_of_shapedOpen_int hs (g:=0) (of_decide_eq_true kr) hz rfl kr kr Tryz.underlying3
 obtain⟨h1,h2,h3⟩:=vars_laid h
 exact grel_of hm h1 h2 h3
theorem lits_length {H:Type}{k:IntKind}{l:List Int}:(lits (H:=H) k l).length=l.length:=by simp[lits]
theorem words_run {H:Type}{enc:TypeId×Value→H}{W:World}{d:DataW H}{p:List MemPlace}{a0:Option Addr}{len cap:Nat} (hg:GRel (GG Bn) (env0 W))
 (h:DataW.Trod enc Tryz.prog W 0 (fun _=>true) true 22 (.slice a0 len cap) d p) (hlt:∀x∈p,x.block<W.heap.size) (hsz:(DataW.weightsEach Tryz.prog [22] [d]).all (·≤reachBytes)=true):
 Calls Tryz.prog 3 #[.slice a0 len cap] W fun e w'=>e=.returned (.bool true)∧Below W.heap.size W w':=by
 obtain⟨fuel,hf⟩:=h
 have fin:∀{code:den (.sl (.int .u8))},allB code=true→Rel (env0 W) (.isl (.int .u8) code) (.slice a0 len cap)→Calls Tryz.prog 3 #[.slice a0 len cap] W fun e w'=>e=.returned (.bool true)∧Below W.heap.size W w':=fun hx hr=>
  (calls3 hx hg hr).mono fun e w' ⟨h1,h2,h3,h4⟩=>⟨h1,⟨h4.1,h4.2.1,h4.2.2,h2,h3⟩⟩
 rcases open_ints Tryz.underlying22 Tryz.underlying5 cells5 hf with ⟨hcs,hx⟩|⟨a,len',cap',zs,hcs,_,hl,hm,hz,hx,hcell,hwz⟩
 ·simp[Value.cells] at hcs
  obtain⟨rfl,rfl,rfl⟩:=hcs
  refine fin (code:=([]:List Int)) rfl ?_
  simp only[Rel]
  exact⟨_,rfl,.inl ⟨rfl,rfl⟩⟩
 ·simp[Value.cells] at hcs
  obtain⟨rfl,rfl,rfl⟩:=hcs
  simp only[Prod.mk.injEq] at hx
  obtain⟨rfl,rfl⟩:=hx
  simp only[if_true] at hz
  have hin:=range_u8 hwz
  have hll:(zs.take len).length=len:=by simp;omega
  have hbig:len≤Bn:=by
   have h1:=sized_slice (j:=0) hsz rfl rfl Tryz.underlying22
   have h2:Tryz.prog.bytesOf 5=1:=kr
   rw[h2,lits_length,hll] at h1
   have h3:reachBytes<2 ^ 47:=reachBytes_lt
   have h4:(2 ^ 47:Nat)≤Bn:=by decide
   omega
  refine fin (code:=(zs.take len:List Int)) (allB_of fun z hz1=>?_) ?_
  ·obtain⟨j,hj⟩:=List.getElem?_of_mem (List.mem_of_mem_take hz1)
   have:=hin j
   rw[hj] at this
   simpa using this
  ·simp only[Rel]
   refine⟨_,rfl,.inr ⟨a,cap,?_,?_,?_,?_⟩⟩
   ·show Value.slice (some a) len cap=Value.slice (some a) (zs.take len).length cap
    rw[hll]
   ·show(zs.take len).length≤cap
    rw[hll];exact hl
   ·show(zs.take len).length≤Bn
    rw[hll];exact hbig
   ·by_cases h0:len=0
    ·left
     subst h0
     rfl
    ·right
     obtain⟨b,off,rfl,hc⟩:=ints_at hcell om
     refine⟨rfl,env0_imm W b ?_,fun i x hi=>⟨[.int .u8 x],?_,rfl⟩⟩
     ·exact hlt (.cell b off) (MemPlace.mem_row.2 ⟨0,om,by simp⟩)
     ·replace hi:(zs.take len)[i]? =some x:=hi
      have hil:i<len:=by
       have:=(List.getElem?_eq_some_iff.1 hi).1
       omega
      have h1:=hc i om
      rw[List.getElem?_take_of_lt hil] at hi
      have h2:zs.getD i 0=x:=by simp[List.getD,hi]
      rw[h2] at h1
      have h5:(⟨b,off+i*wd (.int .u8),none⟩:Addr)=⟨b,off+i,none⟩:=by show(⟨b,off+i*1,none⟩:Addr)=_;rw[Nat.mul_one]
      have h6:=cells_one (w:=W) (g:=b) (v:=.int .u8 x)
      intro j u hu
      cases j with
      |zero=>
       obtain rfl:=Oi hu
       show W.cell? ⟨b,off+i*1+0,none⟩=_
       rw[Nat.mul_one,Nat.add_zero]
       exact h1
      |succ j=>simp at hu
theorem law_lifted (os:Os) (started:os.Started) (H:Type) (enc:TypeId×Value→H):
 ReturnsInHanded {} Tryz.checked os 3 .any (fun w args=>(Rows.fnActWordsSpec.pre enc Tryz.prog Tryz.f3 [] false w args∧laidMetH Tryz.prog Rows.fnActWordsRow.laid w)∧sizedMet enc Tryz.prog Tryz.f3 (OpenSpec.ofChange Rows.fnActWordsSpec) false w args)
  (Rows.fnActWordsSpec.post enc Tryz.prog Tryz.f3 false true false false):=by
 refine returnsInHanded_of_calls (C:=Tryz.checked) own started kr (laidWorld_fits enc os) ?_
 intro w tape i _ hsh _ hok hpre _
 obtain⟨_,_,_,fn',hfn',_,_,_,_,hval1⟩:=hok
 have e:fn'=Tryz.f3:=Oi (hfn'.symm.trans Tryz.func3)
 subst e
 obtain⟨⟨⟨ds,gs,before,hw,_⟩,hL0⟩,hsz0⟩:=hpre
 have hsz1:=hsz0.weights hw
 have hW:=DataW.Whole.of_heap (w':=w.forCall tape i) (by rfl) hw
 have hL:laidMetH Tryz.prog Rows.fnActWordsRow.laid (w.forCall tape i):=hL0.of_heap (by rfl)
 have hS:(w.forCall tape i).ShapedOpen Tryz.prog:=hsh
 suffices hgoal:Calls Tryz.prog 3 i.args (w.forCall tape i) fun e W'=>∃v,e=.returned v∧Rows.fnActWordsSpec.post enc Tryz.prog Tryz.f3 false true false false (w.forCall tape i) i.args v W' by
  refine hgoal.mono fun e W' ⟨v,he,hp⟩=>?_
  subst he
  exact ChangeSpec.post_blind hp
 clear hsz0 hw
 generalize w.forCall tape i=W at*
 generalize i.args=args at*
 have hval:∀(j:Nat) t v,Tryz.f3.params[j]? =some t→args[j]? =some v→Value.okWide Tryz.prog W .any w.heap.size t v:=hval1
 have hW':=hW
 obtain⟨p,q,hA0,hV,rfl,_,_⟩:=hW
 have hA:DataW.TrodAll enc Tryz.prog W 0 (fun _=>true) true Tryz.f3.params.toList args.toList ds p:=hA0
 rw[Tryz.params3] at hA hval hsz1
 obtain⟨v0,d0,rfl,rfl,h0⟩:=trodAll_one hA
 obtain⟨rfl,rfl⟩:=trodVars_none hV
 obtain⟨a0,len,cap,rfl⟩:=okWide_slice Tryz.underlying22 (hval 0 22 v0 rfl rfl)
 simp only[List.append_nil] at hW'
 have hlt:∀x∈p,x.block<W.heap.size:=fun x hx=>by simpa using hW'.lt x hx
 have hg:=vars_rel hS hL
 have e1:Rows.fnActWordsSpec.fn H ([d0]++[])={results:=[.lit (.bool true)],args:=[d0]}:=by simp[Rows.fnActWordsSpec]
 refine(words_run hg h0 hlt hsz1).mono fun e W' ⟨he,hb⟩=>?_
 subst he
 refine⟨_,rfl,_,_,_,[],p,[],hW',?_,?_,?_,hb.frame _,fun h=>by cases h⟩
 ·rw[e1];exact trodAll_mk1 (shut_bool Tryz.underlying4 true)
 ·rw[e1];exact trodAll_mk1 (Below.trod laidOut kr (of_decide_eq_true kr) h0 hb hlt)
 ·rw[e1];rfl
end Go.Proofs.YtccagicppnmelaaGreatDoor
end
