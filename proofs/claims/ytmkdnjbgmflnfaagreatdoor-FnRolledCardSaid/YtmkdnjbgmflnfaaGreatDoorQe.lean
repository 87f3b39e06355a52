/- A part of the proof that FnRolled returns true; no condition. -/
import Derived.Test.YtmkdnjbgmflnfaaGreatDoorPz
import Derived.Test.YtmkdnjbgmflnfaaGreatDoorPa
import Derived.Test.YtmkdnjbgmflnfaaGreatDoorQa
import Derived.Test.YtmkdnjbgmflnfaaGreatDoorQb
import Derived.Test.YtmkdnjbgmflnfaaGreatDoorQc
import Derived.Test.YtmkdnjbgmflnfaaGreatDoorQd
import Derived.Test.YtmkdnjbgmflnfaaGreatDoorPw
import Derived.Test.YtmkdnjbgmflnfaaGreatDoorPy
set_option linter.all false
set_option maxRecDepth 100000
open List renaming length→U
open Int renaming ofNat→J,toNat→Jn
open Go.Ev
attribute [local irreducible] GC RJ KC KM cAt cOn runC stp brC bodyC cvC rsC rdC regC loopC endC skpC extC retC evJ RS.at RS.put RS.okS RS.okR RS.all RS.fst endV endVM grpA grpB grpR grpD grpO RunOps RunD bodyF resF argsFrom
noncomputable section
namespace Go.Ev
open Go.Proofs
variable {Bn:Nat} [BOk Bn]
theorem vj3_14 (c:Nat):runAll Bn [K294] EX 60 113 pVJ pBo [((prg_,hei_,vJ 14 3 c,()),(true,()))]=true:=kr
theorem vj3_15 (c:Nat):runAll Bn [K294] EX 60 113 pVJ pBo [((prg_,hei_,vJ 15 3 c,()),(true,()))]=true:=kr
theorem vj3_16 (c:Nat):runAll Bn [K294] EX 60 113 pVJ pBo [((prg_,hei_,vJ 16 3 c,()),(true,()))]=true:=kr
theorem vj3_17 (c:Nat):runAll Bn [K294] EX 60 113 pVJ pBo [((prg_,hei_,vJ 17 3 c,()),(true,()))]=true:=kr
theorem vj3_18 (c:Nat):runAll Bn [K294] EX 60 113 pVJ pBo [((prg_,hei_,vJ 18 3 c,()),(true,()))]=true:=kr
theorem vj3_19 (c:Nat):runAll Bn [K294] EX 60 113 pVJ pBo [((prg_,hei_,vJ 19 3 c,()),(true,()))]=true:=kr
theorem vj3_20 (c:Nat):runAll Bn [K294] EX 60 113 pVJ pBo [((prg_,hei_,vJ 20 3 c,()),(true,()))]=true:=kr
variable {Bn:Nat} [BOk Bn]
theorem vjob1 (h:OK Bn K294) (p c:Nat) (hp:p≤20):KOk PP (GG Bn) 113 pVJ pBo (prg_,hei_,vJ p 1 c,()) (true,()):=by
 have key:RowsOk Bn 113 pVJ pBo [((prg_,hei_,vJ p 1 c,()),(true,()))]:=by
  match p,hp with
  |0,_=>exact rows_run (okC h ok0) (vj1_0 c)
  |1,_=>exact rows_run (okC h ok0) (vj1_1 c)
  |2,_=>exact rows_run (okC h ok0) (vj1_2 c)
  |3,_=>exact rows_run (okC h ok0) (vj1_3 c)
  |4,_=>exact rows_run (okC h ok0) (vj1_4 c)
  |5,_=>exact rows_run (okC h ok0) (vj1_5 c)
  |6,_=>exact rows_run (okC h ok0) (vj1_6 c)
  |7,_=>exact rows_run (okC h ok0) (vj1_7 c)
  |8,_=>exact rows_run (okC h ok0) (vj1_8 c)
  |9,_=>exact rows_run (okC h ok0) (vj1_9 c)
  |10,_=>exact rows_run (okC h ok0) (vj1_10 c)
  |11,_=>exact rows_run (okC h ok0) (vj1_11 c)
  |12,_=>exact rows_run (okC h ok0) (vj1_12 c)
  |13,_=>exact rows_run (okC h ok0) (vj1_13 c)
  |14,_=>exact rows_run (okC h ok0) (vj1_14 c)
  |15,_=>exact rows_run (okC h ok0) (vj1_15 c)
  |16,_=>exact rows_run (okC h ok0) (vj1_16 c)
  |17,_=>exact rows_run (okC h ok0) (vj1_17 c)
  |18,_=>exact rows_run (okC h ok0) (vj1_18 c)
  |19,_=>exact rows_run (okC h ok0) (vj1_19 c)
  |20,_=>exact rows_run (okC h ok0) (vj1_20 c)
  |n+21,h=>exact absurd h om
 exact key _ (List.mem_singleton.2 rfl)
theorem vjob2 (h:OK Bn K294) (p c:Nat) (hp:p≤20):KOk PP (GG Bn) 113 pVJ pBo (prg_,hei_,vJ p 2 c,()) (true,()):=by
 have key:RowsOk Bn 113 pVJ pBo [((prg_,hei_,vJ p 2 c,()),(true,()))]:=by
  match p,hp with
  |0,_=>exact rows_run (okC h ok0) (vj2_0 c)
  |1,_=>exact rows_run (okC h ok0) (vj2_1 c)
  |2,_=>exact rows_run (okC h ok0) (vj2_2 c)
  |3,_=>exact rows_run (okC h ok0) (vj2_3 c)
  |4,_=>exact rows_run (okC h ok0) (vj2_4 c)
  |5,_=>exact rows_run (okC h ok0) (vj2_5 c)
  |6,_=>exact rows_run (okC h ok0) (vj2_6 c)
  |7,_=>exact rows_run (okC h ok0) (vj2_7 c)
  |8,_=>exact rows_run (okC h ok0) (vj2_8 c)
  |9,_=>exact rows_run (okC h ok0) (vj2_9 c)
  |10,_=>exact rows_run (okC h ok0) (vj2_10 c)
  |11,_=>exact rows_run (okC h ok0) (vj2_11 c)
  |12,_=>exact rows_run (okC h ok0) (vj2_12 c)
  |13,_=>exact rows_run (okC h ok0) (vj2_13 c)
  |14,_=>exact rows_run (okC h ok0) (vj2_14 c)
  |15,_=>exact rows_run (okC h ok0) (vj2_15 c)
  |16,_=>exact rows_run (okC h ok0) (vj2_16 c)
  |17,_=>exact rows_run (okC h ok0) (vj2_17 c)
  |18,_=>exact rows_run (okC h ok0) (vj2_18 c)
  |19,_=>exact rows_run (okC h ok0) (vj2_19 c)
  |20,_=>exact rows_run (okC h ok0) (vj2_20 c)
  |n+21,h=>exact absurd h om
 exact key _ (List.mem_singleton.2 rfl)
theorem vjob3 (h:OK Bn K294) (p c:Nat) (hp:p≤20):KOk PP (GG Bn) 113 pVJ pBo (prg_,hei_,vJ p 3 c,()) (true,()):=by
 have key:RowsOk Bn 113 pVJ pBo [((prg_,hei_,vJ p 3 c,()),(true,()))]:=by
  match p,hp with
  |0,_=>exact rows_run (okC h ok0) (vj3_0 c)
  |1,_=>exact rows_run (okC h ok0) (vj3_1 c)
  |2,_=>exact rows_run (okC h ok0) (vj3_2 c)
  |3,_=>exact rows_run (okC h ok0) (vj3_3 c)
  |4,_=>exact rows_run (okC h ok0) (vj3_4 c)
  |5,_=>exact rows_run (okC h ok0) (vj3_5 c)
  |6,_=>exact rows_run (okC h ok0) (vj3_6 c)
  |7,_=>exact rows_run (okC h ok0) (vj3_7 c)
  |8,_=>exact rows_run (okC h ok0) (vj3_8 c)
  |9,_=>exact rows_run (okC h ok0) (vj3_9 c)
  |10,_=>exact rows_run (okC h ok0) (vj3_10 c)
  |11,_=>exact rows_run (okC h ok0) (vj3_11 c)
  |12,_=>exact rows_run (okC h ok0) (vj3_12 c)
  |13,_=>exact rows_run (okC h ok0) (vj3_13 c)
  |14,_=>exact rows_run (okC h ok0) (vj3_14 c)
  |15,_=>exact rows_run (okC h ok0) (vj3_15 c)
  |16,_=>exact rows_run (okC h ok0) (vj3_16 c)
  |17,_=>exact rows_run (okC h ok0) (vj3_17 c)
  |18,_=>exact rows_run (okC h ok0) (vj3_18 c)
  |19,_=>exact rows_run (okC h ok0) (vj3_19 c)
  |20,_=>exact rows_run (okC h ok0) (vj3_20 c)
  |n+21,h=>exact absurd h om
 exact key _ (List.mem_singleton.2 rfl)
section
variable {Bn:Nat} [BOk Bn]
open Classical in
def conK (f:Nat) (ps rs:List Par) (x:denL ps) (y:denL rs):Con:=⟨f,ps,rs,fun z=>if z=x then some y else none⟩
theorem conK_F {f:Nat}{ps rs:List Par}{x:denL ps}{y:denL rs}:(conK f ps rs x y).F x=some y:=if_pos rfl
theorem conK_inv {f:Nat}{ps rs:List Par}{x z:denL ps}{y y':denL rs} (hz:(conK f ps rs x y).F z=some y'):z=x∧y'=y:=by
 unfold conK at hz
 simp only at hz
 split at hz
 ·rename_i e
  exact⟨e,(Oi hz).symm⟩
 ·cases hz
theorem conK_ok {f:Nat}{ps rs:List Par}{x:denL ps}{y:denL rs} (h:KOk PP (GG Bn) f ps rs x y) (hw:wfR rs=true):OK Bn (conK f ps rs x y):=⟨hw,fun z y' hz=>by
 obtain⟨e1,e2⟩:=conK_inv hz
 rw[e1,e2];exact h⟩
theorem At.ofK {f:Nat}{ps rs:List Par}{x:denL ps}{y:denL rs}{h:H}{args:List AV}{v:AV} (hk:KOk PP (GG Bn) f ps rs x y) (hd:decL H0 ps args=some x) (hv:encR rs y=v) (hw:wfR rs=true):At Bn f h args v h:=by
 refine At.ev (call:=callOf [conK f ps rs x y]) (callOf_ok (G:=GG Bn) (BOk.lo (B:=Bn)) (okC (conK_ok hk hw) ok0)) ?_
 show cd (Nat.beq f f) (callC (conK f ps rs x y) args h) .no=_
 rw[Nat.beq_refl]
 show callC (conK f ps rs x y) args h=_
 have hd':decL H0 (conK f ps rs x y).ps args=some x:=hd
 unfold callC
 rw[hd']
 show finC rs h ((conK f ps rs x y).F x)=_
 rw[conK_F,←hv];rfl
end
section
variable {Bn:Nat} [BOk Bn]
abbrev jrT:=den (.pair zMachine (.pair zTrans (.pair zMachine (.pair .str (.pair (.sl .str) (.pair (.sl zLock) (.pair (.int .i64) (.pair (.sl .str) .str))))))))
def wJ (r1 r2 r3:jrT) (t:Nat) (bs:List (den zBatch)):den zWorld:=(N t,prg_,[],tr_,([],[]),[(N 1,r1),(N 2,r2),(N 3,r3)],N 0,bs)
def JobV (Bn k:Nat) (r:jrT):Prop:=∀h:H,At Bn 113 h [.ag (tc y26 prg_),.isl y228 hei_,.ag (tc zJob (N k,r))] (.b true) h
def wT (p1 p2 p3 c1 c2 c3 t:Nat) (bs:List (den zBatch)):den zWorld:=(N t,prg_,[],tr_,([],[]),[vJ p1 1 c1,vJ p2 2 c2,vJ p3 3 c3],N 0,bs)
abbrev pJo:List Par:=[⟨true,zWorld⟩,⟨false,.sl y228⟩]
theorem vj_at (hK:OK Bn K294){h:H}{k:Nat} (hk:k=1∨k=2∨k=3) (p c:Nat) (hp:p≤20):At Bn 113 h [.ag (tc y26 prg_),.isl y228 hei_,.ag (tc zJob (vJ p k c))] (.b true) h:=by
 have hkk:KOk PP (GG Bn) 113 pVJ pBo (prg_,hei_,vJ p k c,()) (true,()):=by
  rcases hk with rfl|rfl|rfl
  ·exact vjob1 hK p c hp
  ·exact vjob2 hK p c hp
  ·exact vjob3 hK p c hp
 exact At.ofK hkk kr rfl kr
theorem vJ_eta (p k c:Nat):vJ p k c=(N k,(vJ p k c).2):=by rw[←vJ_id p k c]
theorem jobV (hK:OK Bn K294){k:Nat} (hk:k=1∨k=2∨k=3) (p c:Nat) (hp:p≤20):JobV Bn k (vJ p k c).2:=fun h=>by
 have:=vj_at (h:=h) hK hk p c hp
 rw[vJ_eta p k c] at this
 exact this
theorem wT_wJ (p1 p2 p3 c1 c2 c3 t:Nat) (bs:List (den zBatch)):wT p1 p2 p3 c1 c2 c3 t bs=wJ (vJ p1 1 c1).2 (vJ p2 2 c2).2 (vJ p3 3 c3).2 t bs:=by
 unfold wT wJ;rw[←vJ_eta,←vJ_eta,←vJ_eta]
theorem at_args {f:Nat}{h:H}{args args':List AV}{v:AV}{h2:H} (e:args=args') (ha:At Bn f h args' v h2):At Bn f h args v h2:=e▸ha
noncomputable def b55:Code:=Option.getD Tryz.f55.body .skip
theorem job55 (r1 r2 r3:jrT) (t:Nat) (bs:List (den zBatch)) (h1:JobV Bn 1 r1) (h2:JobV Bn 2 r2) (h3:JobV Bn 3 r3):KOk PP (GG Bn) 55 pJo pBo (wJ r1 r2 r3 t bs,hei_,()) (true,()):=by
 refine fn_intro (G:=GG Bn) (b:=b55) (res:=resF Tryz.f55) hmix Tryz.func55 kr rfl kr kr kr (BOk.lo (B:=Bn)) fun _=>?_
 refine sR kr ?_
 refine Sat.seq ?_
 refine sR kr ?_
 refine Sat.block ?_
 refine zun 4 ?_
 refine zu1 ?_
 refine sR kr ?_
 refine Sat.seq ?_
 refine sCondT (b:=true) kr rfl ?_
 refine Sat.skip ?_
 refine Sat.seq (Sat.block ?_)
 refine sR kr ?_
 refine Sat.seq ?_
 refine atDreg 4 113 (.b true) kr kr (at_args kr (h1 _)) kr kr kr kr ?_
 refine sCond (b:=false) kr rfl ?_
 refine Sat.skip ?_
 refine sV kr ?_
 refine zu1 ?_
 refine sR kr ?_
 refine Sat.seq ?_
 refine sCondT (b:=true) kr rfl ?_
 refine Sat.skip ?_
 refine Sat.seq (Sat.block ?_)
 refine sR kr ?_
 refine Sat.seq ?_
 refine atDreg 4 113 (.b true) kr kr (at_args kr (h2 _)) kr kr kr kr ?_
 refine sCond (b:=false) kr rfl ?_
 refine Sat.skip ?_
 refine sV kr ?_
 refine zu1 ?_
 refine sR kr ?_
 refine Sat.seq ?_
 refine sCondT (b:=true) kr rfl ?_
 refine Sat.skip ?_
 refine Sat.seq (Sat.block ?_)
 refine sR kr ?_
 refine Sat.seq ?_
 refine atDreg 4 113 (.b true) kr kr (at_args kr (h3 _)) kr kr kr kr ?_
 refine sCond (b:=false) kr rfl ?_
 refine Sat.skip ?_
 refine sV kr ?_
 refine zu1 ?_
 refine sR kr ?_
 refine Sat.seq ?_
 refine sCond (b:=false) kr rfl ?_
 refine Sat.exit ?_
 refine Sat.ev (call:=EV Bn 60) hmix (EV_ok 60) (isRet_eq kr) ?_
 exact ze (res:=resF Tryz.f55) (rs:=pBo) (y:=(true,())) (y':=(true,())) rfl kr
end
def hdX (l:List AV) (b42:Blk) (Y1 Y2 Y3:Nat→Blk):H:=
 hpH 52 (cat (List.rec [] (fun _ _ r=>none::r) (List.replicate 41 0)) (some (.cs 87 l false)::some b42::cat (yj Y1) (cat (yj Y2) (yj Y3))))
theorem dj1 (j:JS) (hj:j∈lays) (c:Nat) (l rest:List AV) (b42:Blk) (Y2 Y3:Nat→Blk):dec (hdX l b42 (jY j 1 c) Y2 Y3) zJob (cat (cells52 (jX j 1 c)) rest)=some (vJ j.p 1 c,rest):=by
 unfold lays at hj
 simp only[List.mem_cons,List.not_mem_nil,or_false] at hj
 rcases hj with rfl|rfl|rfl|rfl|rfl|rfl|rfl|rfl|rfl|rfl|rfl|rfl|rfl|rfl|rfl|rfl|rfl|rfl|rfl|rfl|rfl|rfl|rfl|rfl|rfl|rfl|rfl|rfl|rfl|rfl|rfl|rfl|rfl|rfl|rfl|rfl|rfl|rfl|rfl|rfl<;>kernel_rfl
theorem dj2 (j:JS) (hj:j∈lays) (c:Nat) (l rest:List AV) (b42:Blk) (Y1 Y3:Nat→Blk):dec (hdX l b42 Y1 (jY j 2 c) Y3) zJob (cat (cells52 (jX j 2 c)) rest)=some (vJ j.p 2 c,rest):=by
 unfold lays at hj
 simp only[List.mem_cons,List.not_mem_nil,or_false] at hj
 rcases hj with rfl|rfl|rfl|rfl|rfl|rfl|rfl|rfl|rfl|rfl|rfl|rfl|rfl|rfl|rfl|rfl|rfl|rfl|rfl|rfl|rfl|rfl|rfl|rfl|rfl|rfl|rfl|rfl|rfl|rfl|rfl|rfl|rfl|rfl|rfl|rfl|rfl|rfl|rfl|rfl<;>kernel_rfl
theorem dj3 (j:JS) (hj:j∈lays) (c:Nat) (l rest:List AV) (b42:Blk) (Y1 Y2:Nat→Blk):dec (hdX l b42 Y1 Y2 (jY j 3 c)) zJob (cat (cells52 (jX j 3 c)) rest)=some (vJ j.p 3 c,rest):=by
 unfold lays at hj
 simp only[List.mem_cons,List.not_mem_nil,or_false] at hj
 rcases hj with rfl|rfl|rfl|rfl|rfl|rfl|rfl|rfl|rfl|rfl|rfl|rfl|rfl|rfl|rfl|rfl|rfl|rfl|rfl|rfl|rfl|rfl|rfl|rfl|rfl|rfl|rfl|rfl|rfl|rfl|rfl|rfl|rfl|rfl|rfl|rfl|rfl|rfl|rfl|rfl<;>kernel_rfl
theorem dbat (l:List AV) (Y1 Y2 Y3:Nat→Blk) (bs:List (den zBatch)) (hb:bs∈bsl):dec (hdX l (sBk (t:=zBatch) 121 false bs) Y1 Y2 Y3) (.sl zBatch) [sAV (t:=zBatch) (path 42) false bs]=some (bs,[]):=by
 simp only[bsl,bss_,List.map_cons,List.map_nil,List.mem_cons,List.not_mem_nil,or_false] at hb
 rcases hb with rfl|rfl|rfl|rfl|rfl|rfl|rfl|rfl|rfl|rfl|rfl|rfl|rfl|rfl|rfl|rfl<;>kernel_rfl
section
variable {c1 c2 c3:Nat}
def hdA (c1 c2 c3:Nat) (a:WS):H:=hdX (jsL c1 c2 c3 a) (sBk (t:=zBatch) 121 false a.bs) (jY a.j1 1 c1) (jY a.j2 2 c2) (jY a.j3 3 c3)
def wA (c1 c2 c3:Nat) (a:WS):den zWorld:=wT a.j1.p a.j2.p a.j3.p c1 c2 c3 a.t a.bs
theorem dec_sl (hd:H) (t:Ty) (id:Id) (off sz n lo:Nat) (ex:Bool) (l:List AV) (xs:List (den t)) (h1:cd (Nat.beq sz (wd t)) (Nat.ble (n+1) 1073741824) false=true) (h2:blkCut (hd.get id) off (Nat.mul (n+1) sz)=some l) (h3:decRows (dec hd t) (n+1) l=some xs):
 dec hd (.sl t) [.sl id off sz (n+1) lo ex]=some (xs,[]):=by
 show cd (cd (Nat.beq sz (wd t)) (Nat.ble (n+1) 1073741824) false) (match blkCut (hd.get id) off (Nat.mul (n+1) sz) with
         |some l=>match decRows (dec hd t) (n+1) l with
          |some xs=>some (xs,([]:List AV))
          |none=>none
         |none=>none) none=_
 rw[h1,h2]
 show(match decRows (dec hd t) (n+1) l with
  |some xs=>some (xs,([]:List AV))
  |none=>none)=_
 rw[h3]
theorem decJobs (a:WS) (ha:okWS a):dec (hdA c1 c2 c3 a) (.sl zJob) [.sl (path 41) 0 52 3 3 false]=some ([vJ a.j1.p 1 c1,vJ a.j2.p 2 c2,vJ a.j3.p 3 c3],[]):=by
 refine dec_sl _ _ _ _ _ 2 _ _ (jsL c1 c2 c3 a) _ kr kr ?_
 have e:jsL c1 c2 c3 a=cat (cells52 (jX a.j1 1 c1)) (cat (cells52 (jX a.j2 2 c2)) (cat (cells52 (jX a.j3 3 c3)) [])):=by
  unfold jsL;rw[cat_eq (cells52 (jX a.j3 3 c3)) [],List.append_nil]
 rw[decRows_succ]
 conv=>lhs;rw[e]
 unfold hdA
 rw[dj1 a.j1 ha.j1]
 simp only
 rw[decRows_succ,dj2 a.j2 ha.j2]
 simp only
 rw[decRows_succ,dj3 a.j3 ha.j3]
 rfl
theorem wkW (a:WS) (ha:okWS a) (hb:a.bs∈bsl) (f:Id→Id):WkL (hdA c1 c2 c3 a) f (wL a.t a.bs) (tc zWorld (wA c1 c2 c3 a)):=by
 have same:∀x:AV,AV.ren f x=x→∃x0,some x=some x0∧Wk (hdA c1 c2 c3 a) f x0 x:=fun x hx=>⟨x,rfl,by have:=Wk.same (hd:=hdA c1 c2 c3 a) (f:=f) x;rwa [hx] at this⟩
 intro j x hx
 match j,hx with
 |0,hx=>obtain rfl:=Oi hx;exact same (.i .i64 (N a.t)) (by simp only[AV.ren])
 |1,hx=>obtain rfl:=Oi hx;exact same (.isl zIns prg_.1) (by simp only[AV.ren])
 |2,hx=>obtain rfl:=Oi hx;exact same (.isl zEntry prg_.2) (by simp only[AV.ren])
 |3,hx=>obtain rfl:=Oi hx;exact same (.isl zTrigger []) (by simp only[AV.ren])
 |4,hx=>obtain rfl:=Oi hx;exact same (.isl zNode tr_) (by simp only[AV.ren])
 |5,hx=>obtain rfl:=Oi hx;exact same (.isl zLock []) (by simp only[AV.ren])
 |6,hx=>obtain rfl:=Oi hx;exact same (.isl zLock []) (by simp only[AV.ren])
 |7,hx=>obtain rfl:=Oi hx;exact⟨.sl (path 41) 0 52 3 3 false,rfl,.froz _ zJob _ (decJobs a ha)⟩
 |8,hx=>obtain rfl:=Oi hx;exact same (.i .i64 (N 0)) (by simp only[AV.ren])
 |9,hx=>obtain rfl:=Oi hx;exact⟨sAV (t:=zBatch) (path 42) false a.bs,rfl,.froz _ zBatch _ (dbat _ _ _ _ a.bs hb)⟩
 |j+10,hx=>cases hx
def preX (b1:Blk):List (Option Blk):=some .dead::some b1::dds 38
theorem preX_len (b1:Blk):(preX b1).length=40:=kr
theorem hdA_sub {a:WS}{b1:Blk}{h:H} (hl:heapL h 52=cat (preX b1) (C12 c1 c2 c3 a)) (id:Id) (b:Blk) (hb:(hdA c1 c2 c3 a).get id=some b):h.get id=some b∧41≤unpath id:=by
 have h1:(hdA c1 c2 c3 a).get (path (unpath id))=some b:=by rw[unpath_bij];exact hb
 unfold hdA hdX at h1
 rw[hpH_get] at h1
 have h2:=heapL_get h 52 (unpath id)
 rw[hl,cat_get _ _ 40 (preX_len b1),unpath_bij] at h2
 rw[cat_get _ _ 41 kr] at h1
 have hn:∀i,((List.rec [] (fun _ _ r=>none::r) (List.replicate 41 0):List (Option Blk))[i]?).join=none:=fun i=>by
  by_cases hi:i<41
  ·have key:(List.range 41).all (fun i=>match((List.rec [] (fun _ _ r=>none::r) (List.replicate 41 0):List (Option Blk))[i]?).join with
    |none=>true
    |_=>false)=true:=kr
   have:=List.all_eq_true.1 key i (List.mem_range.2 hi)
   split at this
   ·rename_i h;exact h
   ·cases this
  ·rw[Lz (by
    have e:(List.rec [] (fun _ _ r=>none::r) (List.replicate 41 0):List (Option Blk)).length=41:=kr
    rw[e];omega)];rfl
 by_cases hi:unpath id<41
 ·rw[if_pos hi,hn] at h1;cases h1
 ·rw[if_neg hi] at h1
  rw[if_neg om] at h2
  have e:C12 c1 c2 c3 a=some (.cs 39 (wL a.t a.bs) false)::some (.cs 87 (jsL c1 c2 c3 a) false)::some (sBk (t:=zBatch) 121 false a.bs)::cat (yj (jY a.j1 1 c1)) (cat (yj (jY a.j2 2 c2)) (yj (jY a.j3 3 c3))):=rfl
  rw[e,show unpath id - 40=(unpath id - 41)+1 by omega,List.getElem?_cons_succ] at h2
  by_cases h52:unpath id<52
  ·rw[if_pos h52] at h2
   rw[h2] at h1
   exact⟨by simpa using h1,om⟩
  ·rw[if_neg h52] at h2
   rw[h2] at h1;cases h1
theorem tcW_noId (w:den zWorld):noIdL (tc zWorld w)=true:=kr
theorem typedA {a:WS} (ha:okWS a) (hb:a.bs∈bsl){h:H} (hl:heapL h 52=cat (preX (.cs 39 zW_ false)) (C12 c1 c2 c3 a)){fr:T AV}{L:List (List Bool×AV)} (hL:HoldsR fr (from1 0 [path 40,path 1]) L) (hLo:LOk 2 L):
 EndC 0 L [some (.cs 39 (tc zWorld (wA c1 c2 c3 a)) false),some (.cs 39 zW_ false)] fr h:=by
 have g:∀k,k<52→some (h.get (path k))=(cat (preX (.cs 39 zW_ false)) (C12 c1 c2 c3 a))[k]? :=fun k hk=>by rw[←hl,heapL_get,if_pos hk]
 have g40:h.get (path 40)=some (.cs 39 (wL a.t a.bs) false):=Oi (by rw[g 40 om,cat_get _ _ 40 (preX_len _)];rfl)
 have g1:h.get (path 1)=some (.cs 39 zW_ false):=Oi (by rw[g 1 om,cat_get _ _ 40 (preX_len _)];rfl)
 have e0:from1 0 [path 40,path 1] (path 0)=path 40:=kr
 have e1:from1 0 [path 40,path 1] (path 1)=path 1:=kr
 refine⟨[path 40,path 1],hdA c1 c2 c3 a,rfl,hL,hLo,?_,?_,?_,fun id b hb=>(hdA_sub hl id b hb).1,?_,?_,?_⟩
 ·intro i c hc
  match i,hc with
  |0,hc=>obtain rfl:=Oi hc;rw[e0];exact⟨_,g40⟩
  |1,hc=>obtain rfl:=Oi hc;rw[e1];exact⟨_,g1⟩
  |i+2,hc=>cases hc
 ·intro i b hc hnd
  match i,hc with
  |0,hc=>
   obtain rfl:=Oi (Oi hc)
   exact .inr ⟨39,tc zWorld (wA c1 c2 c3 a),wL a.t a.bs,rfl,by rw[e0];exact g40,Nr _,tc_one zWorld _,wkW a ha hb _⟩
  |1,hc=>
   obtain rfl:=Oi (Oi hc)
   refine .inl ?_
   rw[e1,(noIdB_ok (N:=2) (b:=.cs 39 zW_ false) kr).1];exact g1
  |i+2,hc=>cases hc
 ·exact⟨(noIdB_ok (f:=fun x=>x) (b:=.cs 39 (tc zWorld (wA c1 c2 c3 a)) false) (tcW_noId (wA c1 c2 c3 a))).2,(noIdB_ok (f:=fun x=>x) (b:=.cs 39 zW_ false) kr).2,trivial⟩
 ·rintro i b hc hnd ⟨b',hb',_⟩
  have:=(hdA_sub hl _ b' hb').2
  match i,hc with
  |0,hc=>rw[e0,unpath_path] at this;omega
  |1,hc=>rw[e1,unpath_path] at this;omega
  |i+2,hc=>cases hc
 ·intro j c _ hc
  match j,hc with
  |0,hc=>exact⟨_,(Oi hc).symm⟩
  |1,hc=>exact⟨_,(Oi hc).symm⟩
  |j+2,hc=>cases hc
 ·intro i j b c hi hj _ _ he
  match i,j,hi,hj with
  |0,0,_,_=>rfl
  |1,1,_,_=>rfl
  |0,1,_,_=>rw[e0,e1] at he;exact absurd (path_inj he) om
  |1,0,_,_=>rw[e0,e1] at he;exact absurd (path_inj he) om
  |i+2,_,hi,_=>cases hi
  |0,j+2,_,hj=>cases hj
  |1,j+2,_,hj=>cases hj
theorem typedB {a:WS} (ha:okWS a) (hb:a.bs∈bsl){h:H} (hl:heapL h 52=cat (preX (.cs 39 (wL a.t a.bs) false)) (C12 c1 c2 c3 a)){fr:T AV}{L:List (List Bool×AV)} (hL:HoldsR fr (from1 0 [path 0,path 1]) L) (hLo:LOk 2 L):
 EndC 0 L [some .dead,some (.cs 39 (tc zWorld (wA c1 c2 c3 a)) false)] fr h:=by
 have g:∀k,k<52→some (h.get (path k))=(cat (preX (.cs 39 (wL a.t a.bs) false)) (C12 c1 c2 c3 a))[k]? :=fun k hk=>by rw[←hl,heapL_get,if_pos hk]
 have g0:h.get (path 0)=some .dead:=Oi (by rw[g 0 om,cat_get _ _ 40 (preX_len _)];rfl)
 have g1:h.get (path 1)=some (.cs 39 (wL a.t a.bs) false):=Oi (by rw[g 1 om,cat_get _ _ 40 (preX_len _)];rfl)
 have e0:from1 0 [path 0,path 1] (path 0)=path 0:=kr
 have e1:from1 0 [path 0,path 1] (path 1)=path 1:=kr
 refine⟨[path 0,path 1],hdA c1 c2 c3 a,rfl,hL,hLo,?_,?_,?_,fun id b hb=>(hdA_sub hl id b hb).1,?_,?_,?_⟩
 ·intro i c hc
  match i,hc with
  |0,hc=>obtain rfl:=Oi hc;rw[e0];exact⟨_,g0⟩
  |1,hc=>obtain rfl:=Oi hc;rw[e1];exact⟨_,g1⟩
  |i+2,hc=>cases hc
 ·intro i b hc hnd
  match i,hc with
  |0,hc=>exact absurd (Oi (Oi hc)).symm hnd
  |1,hc=>
   obtain rfl:=Oi (Oi hc)
   exact .inr ⟨39,tc zWorld (wA c1 c2 c3 a),wL a.t a.bs,rfl,by rw[e1];exact g1,Nr _,tc_one zWorld _,wkW a ha hb _⟩
  |i+2,hc=>cases hc
 ·exact⟨trivial,(noIdB_ok (f:=fun x=>x) (b:=.cs 39 (tc zWorld (wA c1 c2 c3 a)) false) (tcW_noId (wA c1 c2 c3 a))).2,trivial⟩
 ·rintro i b hc hnd ⟨b',hb',_⟩
  have:=(hdA_sub hl _ b' hb').2
  match i,hc with
  |0,hc=>rw[e0,unpath_path] at this;omega
  |1,hc=>rw[e1,unpath_path] at this;omega
  |i+2,hc=>cases hc
 ·intro j c _ hc
  match j,hc with
  |0,hc=>exact⟨_,(Oi hc).symm⟩
  |1,hc=>exact⟨_,(Oi hc).symm⟩
  |j+2,hc=>cases hc
 ·intro i j b c hi hj hnb hnc he
  match i,j,hi,hj with
  |0,0,_,_=>rfl
  |1,1,_,_=>rfl
  |0,1,hi,_=>exact absurd (Oi (Oi hi)).symm hnb
  |1,0,_,hj=>exact absurd (Oi (Oi hj)).symm hnc
  |i+2,_,hi,_=>cases hi
  |0,j+2,_,hj=>cases hj
  |1,j+2,_,hj=>cases hj
end
def InvB (a:WS):Prop:=∃l:List Nat,a.bs=l.map bt_∧l.Nodup∧∀k∈l,(k=1∧17≤a.j1.p)∨(k=2∧17≤a.j2.p)∨(k=3∧17≤a.j3.p)
theorem InvB.bs {a:WS} (h:InvB a):a.bs∈bsl:=by
 obtain⟨l,h1,h2,h3⟩:=h
 have h4:∀k∈l,k=1∨k=2∨k=3:=fun k hk=>by
  rcases h3 k hk with h|h|h
  ·exact .inl h.1
  ·exact .inr (.inl h.1)
  ·exact .inr (.inr h.1)
 rw[h1]
 match l,h2,h4 with
 |[],_,_=>simp[bsl,bss_]
 |[x],_,h4=>
  have hx:=h4 x (by simp)
  rcases hx with rfl|rfl|rfl<;>simp[bsl,bss_]
 |[x,y],h2,h4=>
  have hx:=h4 x (by simp)
  have hy:=h4 y (by simp)
  simp at h2
  rcases hx with rfl|rfl|rfl<;>rcases hy with rfl|rfl|rfl<;>first|(exact absurd rfl h2)|simp[bsl,bss_]
 |[x,y,z],h2,h4=>
  have hx:=h4 x (by simp)
  have hy:=h4 y (by simp)
  have hz:=h4 z (by simp)
  simp at h2
  rcases hx with rfl|rfl|rfl<;>rcases hy with rfl|rfl|rfl<;>rcases hz with rfl|rfl|rfl<;>first|omega|simp[bsl,bss_]
 |x::y::z::u::l,h2,h4=>
  have hx:=h4 x (by simp)
  have hy:=h4 y (by simp)
  have hz:=h4 z (by simp)
  have hu:=h4 u (by simp)
  simp at h2
  omega
theorem InvB.tk {a:WS} (h:InvB a):InvB (tkW a):=h
theorem InvB.st1 {a:WS} (h:InvB a):InvB (stW 1 a):=by
 by_cases hp:a.j1.p=20
 ·rw[stW_end1 hp];exact h
 ·rw[stW_go1 hp]
  obtain⟨l,h1,h2,h3⟩:=h
  by_cases h16:a.j1.p=16
  ·refine⟨l++[1],?_,?_,?_⟩
   ·show cd (Nat.beq a.j1.p 16) (a.bs++[bt_ 1]) a.bs=_
    rw[h16,h1];simp[cd]
   ·rw[List.nodup_append]
    refine⟨h2,by simp,fun x hx y hy=>?_⟩
    have:=h3 x hx
    simp at hy
    omega
   ·intro k hk
    rcases List.mem_append.1 hk with hk|hk
    ·rcases h3 k hk with hk|hk|hk
     ·exact .inl ⟨hk.1,by show 17≤a.j1.p+1;omega⟩
     ·exact .inr (.inl hk)
     ·exact .inr (.inr hk)
    ·rw[List.mem_singleton.1 hk]
     exact .inl ⟨rfl,by show 17≤a.j1.p+1;omega⟩
  ·refine⟨l,?_,h2,?_⟩
   ·show cd (Nat.beq a.j1.p 16) (a.bs++[bt_ 1]) a.bs=_
    rw[beqF h16,h1];rfl
   ·intro k hk
    rcases h3 k hk with hk|hk|hk
    ·exact .inl ⟨hk.1,by show 17≤a.j1.p+1;omega⟩
    ·exact .inr (.inl hk)
    ·exact .inr (.inr hk)
theorem InvB.st2 {a:WS} (h:InvB a):InvB (stW 2 a):=by
 by_cases hp:a.j2.p=20
 ·rw[stW_end2 hp];exact h
 ·rw[stW_go2 hp]
  obtain⟨l,h1,h2,h3⟩:=h
  by_cases h16:a.j2.p=16
  ·refine⟨l++[2],?_,?_,?_⟩
   ·show cd (Nat.beq a.j2.p 16) (a.bs++[bt_ 2]) a.bs=_
    rw[h16,h1];simp[cd]
   ·rw[List.nodup_append]
    refine⟨h2,by simp,fun x hx y hy=>?_⟩
    have:=h3 x hx
    simp at hy
    omega
   ·intro k hk
    rcases List.mem_append.1 hk with hk|hk
    ·rcases h3 k hk with hk|hk|hk
     ·exact .inl hk
     ·exact .inr (.inl ⟨hk.1,by show 17≤a.j2.p+1;omega⟩)
     ·exact .inr (.inr hk)
    ·rw[List.mem_singleton.1 hk]
     exact .inr (.inl ⟨rfl,by show 17≤a.j2.p+1;omega⟩)
  ·refine⟨l,?_,h2,?_⟩
   ·show cd (Nat.beq a.j2.p 16) (a.bs++[bt_ 2]) a.bs=_
    rw[beqF h16,h1];rfl
   ·intro k hk
    rcases h3 k hk with hk|hk|hk
    ·exact .inl hk
    ·exact .inr (.inl ⟨hk.1,by show 17≤a.j2.p+1;omega⟩)
    ·exact .inr (.inr hk)
theorem InvB.st3 {a:WS} (h:InvB a):InvB (stW 3 a):=by
 by_cases hp:a.j3.p=20
 ·rw[stW_end3 hp];exact h
 ·rw[stW_go3 hp]
  obtain⟨l,h1,h2,h3⟩:=h
  by_cases h16:a.j3.p=16
  ·refine⟨l++[3],?_,?_,?_⟩
   ·show cd (Nat.beq a.j3.p 16) (a.bs++[bt_ 3]) a.bs=_
    rw[h16,h1];simp[cd]
   ·rw[List.nodup_append]
    refine⟨h2,by simp,fun x hx y hy=>?_⟩
    have:=h3 x hx
    simp at hy
    omega
   ·intro k hk
    rcases List.mem_append.1 hk with hk|hk
    ·rcases h3 k hk with hk|hk|hk
     ·exact .inl hk
     ·exact .inr (.inl hk)
     ·exact .inr (.inr ⟨hk.1,by show 17≤a.j3.p+1;omega⟩)
    ·rw[List.mem_singleton.1 hk]
     exact .inr (.inr ⟨rfl,by show 17≤a.j3.p+1;omega⟩)
  ·refine⟨l,?_,h2,?_⟩
   ·show cd (Nat.beq a.j3.p 16) (a.bs++[bt_ 3]) a.bs=_
    rw[beqF h16,h1];rfl
   ·intro k hk
    rcases h3 k hk with hk|hk|hk
    ·exact .inl hk
    ·exact .inr (.inl hk)
    ·exact .inr (.inr ⟨hk.1,by show 17≤a.j3.p+1;omega⟩)
theorem InvB.ofPlay {ord:List Int}{a0:WS} (h0:InvB a0):∀i,InvB (play ord a0 i).1
 |0=>h0
 |i+1=>by
  have ih:=InvB.ofPlay (ord:=ord) h0 i
  show InvB (stepO (gt (.int .i64) ord i) (play ord a0 i)).1
  unfold stepO
  split
  ·exact ih.tk
  ·split
   ·exact ih.st1
   ·split
    ·exact ih.st2
    ·exact ih.st3
theorem InvB.ofRnds {a0:WS} (h0:InvB a0):∀r,InvB (rnds a0 r)
 |0=>h0
 |r+1=>(((InvB.ofRnds h0 r).st1).st2).st3.tk
theorem bsl_K54 {bs:List (den zBatch)} (h:bs∈bsl):K54.F (bs,())=some (true,()):=by
 simp only[bsl,bss_,List.map_cons,List.map_nil,List.mem_cons,List.not_mem_nil,or_false] at h
 rcases h with rfl|rfl|rfl|rfl|rfl|rfl|rfl|rfl|rfl|rfl|rfl|rfl|rfl|rfl|rfl|rfl<;>kernel_rfl
def K327 (c:Nat):Con:=tabC 327 pLo pLi [((lo_ c,()),(loE,N 0,()))]
def EVq (Bn c:Nat):CallF:=evF (tblR Bn (K327 c::Lc) EX) 60
theorem EVq_ok {Bn:Nat} [BOk Bn]{c:Nat} (hc:chr c):CallOK PP (GG Bn) (EVq Bn c):=evF_sound hmix (tblR_ok (okC (rows_con (fun q hq=>by rw[List.mem_singleton.1 hq];exact kok327 c hc)) OLc) EX_ok) 60
def qS (Bn k c:Nat) (h:H):CR:=cZ Bn (EVq Bn c) 114 rest28 (mkFr (fr28 k)) h
theorem lay19 {j:JS} (h:j∈lays) (hp:j.p=19):j=⟨19,false,false⟩∨j=⟨19,true,false⟩∨j=⟨19,true,true⟩:=by
 unfold lays at h
 simp only[List.mem_cons,List.not_mem_nil,or_false] at h
 rcases h with rfl|rfl|rfl|rfl|rfl|rfl|rfl|rfl|rfl|rfl|rfl|rfl|rfl|rfl|rfl|rfl|rfl|rfl|rfl|rfl|rfl|rfl|rfl|rfl|rfl|rfl|rfl|rfl|rfl|rfl|rfl|rfl|rfl|rfl|rfl|rfl|rfl|rfl|rfl|rfl<;>simp at hp⊢
variable {Bn:Nat} [BOk Bn]
theorem q1aa (c:Nat) (hc:chr c) (X2 X3:Nat→AV) (Y2 Y3:Nat→Blk) (t:Nat) (bx:AV) (b0:Blk):
 sumC 1 false Tryz.f28 (qS Bn 1 c (HQ (jX ⟨19,false,false⟩ 1 c) (idX 2 X2) (idX 3 X3) (jY ⟨19,false,false⟩ 1 c) Y2 Y3 t bx b0))=some (.i .i64 (N 0),CX (jX ⟨20,false,false⟩ 1 c) (idX 2 X2) (idX 3 X3) (jY ⟨20,false,false⟩ 1 c) Y2 Y3 t bx b0):=by
 rcases chr_cases hc with rfl|rfl|rfl|rfl|rfl|rfl|rfl|rfl|rfl<;>kernel_rfl
variable {Bn:Nat} [BOk Bn]
theorem q1ba (c:Nat) (hc:chr c) (X2 X3:Nat→AV) (Y2 Y3:Nat→Blk) (t:Nat) (bx:AV) (b0:Blk):
 sumC 1 false Tryz.f28 (qS Bn 1 c (HQ (jX ⟨19,true,false⟩ 1 c) (idX 2 X2) (idX 3 X3) (jY ⟨19,true,false⟩ 1 c) Y2 Y3 t bx b0))=some (.i .i64 (N 0),CX (jX ⟨20,false,false⟩ 1 c) (idX 2 X2) (idX 3 X3) (jY ⟨20,false,false⟩ 1 c) Y2 Y3 t bx b0):=by
 rcases chr_cases hc with rfl|rfl|rfl|rfl|rfl|rfl|rfl|rfl|rfl<;>kernel_rfl
end Go.Ev
end
