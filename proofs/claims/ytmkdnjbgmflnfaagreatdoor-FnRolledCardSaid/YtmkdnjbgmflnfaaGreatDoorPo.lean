/- A part of the proof that FnRolled returns true; no condition. -/
import Derived.Test.YtmkdnjbgmflnfaaGreatDoorPn
import Derived.Test.YtmkdnjbgmflnfaaGreatDoorPa
set_option linter.all false
set_option maxRecDepth 100000
open List renaming length→U
open Int renaming ofNat→J,toNat→Jn
open Go.Ev
attribute [local irreducible] GC RJ KC KM cAt cOn runC stp brC bodyC cvC rsC rdC regC loopC endC skpC extC retC evJ RS.at RS.put RS.okS RS.okR RS.all RS.fst endV endVM grpA grpB grpR grpD grpO RunOps RunD bodyF resF argsFrom
noncomputable section
namespace Go.Ev
open Go.Proofs Go.RowKit
theorem FrRel.ext' {e e':Env}{fr:T AV}{t:Array Value} (h:FrRel e fr t) (x:Ext e e'):FrRel e' fr t:=fun k=>Rel.ext x _ _ (h k)
def PostM (nt:Nat) (K:Exit→Act→World→Prop) (e:Env) (a:Act) (ex:Ex) (fr':T AV) (h':H):Prop:=
 ∀(a':Act) (e':Env) (D:Nat),e'.h=h'→St e'→Ext e e'→FrRel e' fr' a'.tmps→a'.tmps.size=nt→a'.defers={target:=.collected D,args:=#[]}::a.defers→e.w.heap.size≤D→e'.w.heap[D]? =some (.deferred (some []))→K (exOf ex) a' e'.w
theorem PostM.ext {nt:Nat}{K:Exit→Act→World→Prop}{e e1:Env}{a a1:Act}{ex:Ex}{fr':T AV}{h':H} (h:PostM nt K e a ex fr' h') (x:Ext e e1) (hd:a1.defers=a.defers):PostM nt K e1 a1 ex fr' h':=
 fun a' e' D h1 h2 h3 h4 h5 h6 h7 h8=>h a' e' D h1 h2 (x.trans h3) h4 h5 (by rw[h6,hd]) (Nt x.heap h7) h8
def SatM (P:Program) (G:Gs) (nt:Nat) (c:Code) (fr:T AV) (h:H) (Q:Ex→T AV→H→Prop):Prop:=
 ∀(K:Exit→Act→World→Prop) (e:Env) (a:Act),e.h=h→St e→FrRel e fr a.tmps→GRel G e→a.tmps.size=nt→
  (∀ex fr' h',Q ex fr' h'→PostM nt K e a ex fr' h')→c.wp P K a e.w
theorem own_not {e:Env} (hs:St e) {D:Nat}{x:Option (List Deferred)} (hd:e.w.heap[D]? =some (.deferred x)):¬Own e D:=fun⟨id,⟨b,hb,hne⟩,he⟩=>by
 have:=hs.blk id b hb
 cases b with
 |cs el l fz=>obtain⟨c,fr,h1,_⟩:=this;rw[he,hd] at h1;cases h1
 |mp es=>obtain⟨ms,cl,h1,_⟩:=this;rw[he,hd] at h1;cases h1
 |it s p=>obtain⟨_,_,h1⟩:=this;rw[he,hd] at h1;cases h1
 |dead=>exact hne rfl
section
variable {P:Program}{G:Gs}{nt:Nat}{fr:T AV}{h:H}{Q:Ex→T AV→H→Prop}
theorem SatM.seqL {x y:Code} (hx:Sat P G nt x fr h (fun ex fr h=>ex=.normal∧SatM P G nt y fr h Q)):SatM P G nt (.seq x y) fr h Q:=by
 intro K e a he hs hf hg hsz hp
 refine wp_seq (hx _ e a he hs hf hg hsz (fun ex fr1 h1 hq=>?_))
 obtain⟨rfl,hq⟩:=hq
 intro a1 e1 he1 hs1 hx1 hf1 hsz1 hd1
 exact hq K e1 a1 he1 hs1 hf1 (hg.ext hx1) hsz1 (fun ex fr' h' hq'=>(hp ex fr' h' hq').ext hx1 hd1)
theorem SatM.seqR {x y:Code} (hx:SatM P G nt x fr h (fun ex fr h=>ex=.normal∧Sat P G nt y fr h Q)):SatM P G nt (.seq x y) fr h Q:=by
 intro K e a he hs hf hg hsz hp
 refine wp_seq (hx _ e a he hs hf hg hsz (fun ex fr1 h1 hq=>?_))
 obtain⟨rfl,hq⟩:=hq
 intro a1 e1 D he1 hs1 hx1 hf1 hsz1 hd1 hD hdef
 exact hq K e1 a1 he1 hs1 hf1 (hg.ext hx1) hsz1 (fun ex fr' h' hq' a2 e2 he2 hs2 hx2 hf2 hsz2 hd2=>
  hp ex fr' h' hq' a2 e2 D he2 hs2 (hx1.trans hx2) hf2 hsz2 (hd2.trans hd1) hD (by
   rw[hx2.keep D (Array.getElem?_eq_some_iff.1 hdef).1 (own_not hs1 hdef)];exact hdef))
theorem SatM.block {id:Nat}{b:Code} (hb:SatM P G nt b fr h (fun ex fr h=>ex=.normal∧Q .normal fr h)):SatM P G nt (.block id b) fr h Q:=by
 intro K e a he hs hf hg hsz hp
 refine wp_block (hb _ e a he hs hf hg hsz (fun ex fr1 h1 hq=>?_))
 obtain⟨rfl,hq⟩:=hq
 intro a1 e1 D he1 hs1 hx1 hf1 hsz1 hd1 hD hdef
 exact hp .normal fr1 h1 hq a1 e1 D he1 hs1 hx1 hf1 hsz1 hd1 hD hdef
theorem SatM.keepL {c:Code} (L:List (List Bool×AV)) (hl:Holds fr L) (hc:SatM P G nt c (mkFr L) h Q):SatM P G nt c fr h Q:=
 fun K e a he hs hf hg hsz hp=>hc K e a he hs (mkFr_rel hf hl) hg hsz hp
theorem SatM.heap {c:Code} (bs:List (Option Blk)) (hn:h.next=bs.length) (hb:heapL h bs.length=bs) (hc:SatM P G nt c fr (hpH bs.length bs) Q):SatM P G nt c fr h Q:=by
 intro K e a he hs hf hg hsz hp
 subst he
 have hget:∀id,(hpH bs.length bs).get id=e.h.get id:=fun id=>by
  obtain⟨h1,h2⟩:=hpH_same hb id
  by_cases hlt:unpath id<bs.length
  ·exact h1 hlt
  ·cases h3:(hpH bs.length bs).get id with
   |some b=>exact absurd (h2 b h3) hlt
   |none=>
    cases h4:e.h.get id with
    |none=>rfl
    |some b=>
     obtain⟨k,hk,hk2,_⟩:=hs.kn id (hs.dk id b h4)
     rw[hk2,unpath_path] at hlt;omega
 let e2:Env:=⟨e.ρ,hpH bs.length bs,e.w,e.F⟩
 have hlive:∀id,live e2.h id↔live e.h id:=fun id=>by unfold live;rw[show e2.h.get id=e.h.get id from hget id]
 have hown:∀b,Own e2 b↔Own e b:=fun b=>by
  constructor
  ·rintro ⟨id,h1,h2⟩;exact⟨id,(hlive id).1 h1,h2⟩
  ·rintro ⟨id,h1,h2⟩;exact⟨id,(hlive id).2 h1,h2⟩
 have x0:Ext e e2:={
  next:=by show e.h.next≤bs.length;omega
  kn:=fun _ h=>h
  ren:=fun _ _=>rfl
  fr:=rfl
  heap:=Nr _
  keep:=fun _ _ _=>rfl
  size:=fun _ _=>rfl
  own:=fun b _ ho=>(hown b).1 ho
  pres:=fun id b hb=>⟨b,by rw[show e2.h.get id=e.h.get id from hget id];exact hb⟩
  newk:=fun _ h=>.inl h
  qt:=⟨rfl,rfl,rfl⟩}
 have hs2:St e2:={
  kn:=fun id hk=>by
   obtain⟨k,h1,h2,h3⟩:=hs.kn id hk
   refine⟨k,by show k<bs.length;omega,h2,fun hl=>?_⟩
   rw[show e2.h.get id=e.h.get id from hget id];exact h3 hl
  dk:=fun id b hb=>hs.dk id b (by rw[←hget id];exact hb)
  lo:=by show e.F.lo≤bs.length;rw[←hn];exact hs.lo
  blk:=fun id b hb=>BlkRel.ext x0 (hs.dk id b (by rw[←hget id];exact hb)) rfl b (hs.blk id b (by rw[←hget id];exact hb))
  inj:=fun id id' h1 h2 he=>hs.inj id id' ((hlive id).1 h1) ((hlive id').1 h2) he
  fr:=fun b hb=>⟨(hs.fr b hb).1,fun ho=>(hs.fr b hb).2 ((hown b).1 ho)⟩}
 exact hc K e2 a rfl hs2 (hf.ext' x0) (hg.ext x0) hsz (fun ex fr' h' hq=>(hp ex fr' h' hq).ext x0 rfl)
end
def csL (bs:List (Option Blk)):Bool:=List.rec true (fun b _ r=>Option.rec false (fun b=>Blk.rec (fun _ _ _=>r) (fun _=>false) (fun _ _=>false) r b) b) bs
theorem csL_ok:∀{bs:List (Option Blk)},csL bs=true→∀(j:Nat) (b:Blk),(bs[j]?).join=some b→b=.dead∨∃el l fz,b=.cs el l fz
 |[],_,j,b,hb=>by simp at hb
 |none::bs,h,_,_,_=>by cases(show false=true from h)
 |some x::bs,h,j,b,hb=>by
  cases x with
  |mp es=>cases(show false=true from h)
  |it s p=>cases(show false=true from h)
  |cs el l fz=>
   have h:csL bs=true:=h
   cases j with
   |zero=>simp only[List.getElem?_cons_zero,Option.join_some,Oj] at hb;exact .inr ⟨el,l,fz,hb.symm⟩
   |succ j=>exact csL_ok h j b (by simpa using hb)
  |dead=>
   have h:csL bs=true:=h
   cases j with
   |zero=>simp only[List.getElem?_cons_zero,Option.join_some,Oj] at hb;exact .inl hb.symm
   |succ j=>exact csL_ok h j b (by simpa using hb)
theorem csL_some:∀{bs:List (Option Blk)},csL bs=true→∀j,j<bs.length→∃b,(bs[j]?).join=some b
 |[],_,j,hb=>by simp at hb
 |none::bs,h,_,_=>by cases(show false=true from h)
 |some x::bs,h,0,_=>⟨x,rfl⟩
 |some x::bs,h,j+1,hj=>by
  have h:csL bs=true:=by cases x<;>first|exact h|cases(show false=true from h)
  obtain⟨b,hb⟩:=csL_some h j (by simpa using hj)
  exact⟨b,by simpa using hb⟩
theorem csOnly_of {n:Nat}{bs:List (Option Blk)} (h:csL bs=true):csOnly (hpH n bs):=fun id b hb=>by
 rw[←unpath_bij id,hpH_get] at hb
 exact csL_ok h _ b hb
def lvL (bs:List (Option Blk)):List (Option Blk)→Bool:=
 List.rec (motive:=fun _=>List (Option Blk)→Bool) (fun _=>true) (fun b _ ih cs=>List.rec false (fun c cs _=>cd (Option.rec true (fun b=>Blk.rec (Option.rec false (fun c=>Blk.rec (fun _ _ _=>true) (fun _=>false) (fun _ _=>false) false c) c |> fun r _ _ _=>r) (fun _=>false) (fun _ _=>false) true b) b) (ih cs) false) cs) bs
theorem lvL_ok:∀{bs cs:List (Option Blk)},lvL bs cs=true→∀(j:Nat) (el:TypeId) (l:List AV) (fz:Bool),(bs[j]?).join=some (Blk.cs el l fz)→∃el' l' fz',(cs[j]?).join=some (Blk.cs el' l' fz')
 |[],_,_,j,_,_,_,hb=>by simp at hb
 |b::bs,[],h,_,_,_,_,_=>by cases(show false=true from h)
 |b::bs,c::cs,h,j,el,l,fz,hb=>by
  obtain⟨h1,h2⟩:=cd_true (show cd _ (lvL bs cs) false=true from h)
  cases j with
  |succ j=>
   obtain⟨a,a2,a3,h3⟩:=lvL_ok h2 j el l fz (by simpa using hb)
   exact⟨a,a2,a3,by simpa using h3⟩
  |zero=>
   simp only[List.getElem?_cons_zero,Option.join_some] at hb⊢
   subst hb
   cases c with
   |none=>cases(show false=true from h1)
   |some c=>
    cases c with
    |cs el' l' fz'=>exact⟨el',l',fz',rfl⟩
    |mp es=>cases(show false=true from h1)
    |it s p=>cases(show false=true from h1)
    |dead=>cases(show false=true from h1)
theorem cell_putObj {W:World}{l:Nat}{o o':Obj}{a:Addr}{v:Value} (hv:W.cell? a=some v) (hl:W.heap[l]? =some o) (ho:o.isCells=false):(W.putObj l o').cell? a=some v:=by
 obtain⟨o2,h1,h2⟩:=Go.cells_of_cell hv
 have hne:a.block≠l:=fun e=>by rw[e,hl] at h1;obtain rfl:=Oi h1;rw[ho] at h2;cases h2
 rw[World.cell?_of_block (w:=W) (World.putObj_heap_other hne)];exact hv
theorem ck_below {W W':World} (h:Below W.heap.size W W'):CKeep W W':=⟨h.size,fun b c el fr hb=>(h.block b (Array.getElem?_eq_some_iff.1 hb).1).trans hb⟩
section
variable {P:Program}{G:Gs}{nt:Nat}{fr:T AV}{Q:Ex→T AV→H→Prop}
theorem SatM.range {α:Type}{g:Operand}{ps:Array Tmp}{assign body:Code}{gf:Nat}{bx:AV} (OB:Prop) (hB:1073741824≤G.B)
 (hs:List α→List (Option Blk)) (encs:α→Array Value) (N:Nat) (fin:List α) (vs:List Value) (k:Nat) (fra:α→T AV)
 (hg:evO G g fr=.f (.func gf) [] [bx]) (eg:∀args w,(callFunc gf args).run P w=.ok (.enter gf args) w)
 (hseq:∀Bb Bo w0,KcE w0 vs k Bb Bo w0→SeqStopsK Fence.wide 4 P gf #[.pointer (some ⟨Bb,Bo,none⟩)] encs (fun A B=>KcE w0 vs k Bb Bo A→KcE w0 vs k Bb Bo B) (fun xs=>xs=fin) (fun _=>True) N w0)
 (hps:∀x,(encs x).size=ps.size) (hcs:∀pre,pre.length≤N→csL (hs pre)=true) (hlv:OB→∀pre,pre.length≤N→lvL (hs pre) (hs [])=true)
 (hbx:∀pre,pre.length≤N→BxOk (hs []) bx vs k (hs pre))
 (hassign:∀(e:Env) (a:Act),St e→e.h=hpH (hs []).length (hs [])→FrRel e fr a.tmps→a.tmps.size=nt→∃Ax:α→Act→World→Prop,(∀x a',OwnFrom e.w.heap.size (fun(_:Unit) W=>Ax x a' W))∧
  (∀(l m:Nat) (x:α) (W:World) (K:Act→World→Prop),e.w.heap.size≤W.heap.size→(∀a' W',Below W.heap.size W W'→Ax x a' W'→K a' W')→
   assign.wpIn (Fence.wide.inRound l) m P (Exit.then K (fun _ _ _=>False)) {tmps:=(ps.zip (encs x)).foldl (fun t (p,v)=>t.setIfInBounds p v) a.tmps,defers:=[]} W)∧
  (∀(e1:Env) (x:α) (a':Act),St e1→Ext e e1→(OB→∀b,Own e1 b→b<e.w.heap.size)→Ax x a' e1.w→FrRel e1 (fra x) a'.tmps∧a'.tmps.size=nt))
 (hbody:∀(pre:List α) (x:α),pre.length<N→SatR P G nt body (fra x) (hpH (hs pre).length (hs pre)) (fun ex fr' h'=>ex=.normal∧EndC (hs []).length [] (hs (pre++[x])) fr' h'))
 (hfin:fin.length≤N) (hq:Q .normal fr (hpH (hs fin).length (hs fin))):SatM P G nt (.rangeFunc g ps assign body) fr (hpH (hs []).length (hs [])) Q:=by
 intro K e a he hse hf hgr hsz hp
 have rg:Rel e (.f (.func gf) [] [bx]) (a.eval g):=by
  cases hc:od G g with
  |none=>
   have:evO G g fr=.j:=by unfold evO;rw[hc]
   rw[this] at hg;cases hg
  |some c'=>
   have:evO G g fr=Ev.ev c' fr:=by unfold evO;rw[hc]
   rw[this] at hg
   have:=od_rel hf hgr hc
   rw[hg] at this;exact this
 simp only[Rel] at rg
 obtain⟨vs',ws,hv,h1,h2⟩:=rg
 obtain⟨vl⟩:=vs'
 obtain⟨wl⟩:=ws
 have e1:vl=[]:=by
  match vl,h1 with
  |[],_=>rfl
  |_::_,h=>simp[RelL] at h
 obtain⟨u,e2,hu⟩:∃u,wl=[u]∧Rel e bx u:=by
  match wl,h2 with
  |[],h=>simp[RelL] at h
  |[y],h=>simp only[RelL] at h;exact⟨y,rfl,h.1⟩
  |_::_::_,h=>simp[RelL] at h
 subst e1 e2
 obtain⟨p,po,rfl,hK0⟩:=hbx [] (Nz _) e e u hse he hse (Ext.refl e) he hu
 obtain⟨Ax,hAx,hAs,hAf⟩:=hassign e a hse he hf hsz
 have ownB:OB→∀(pre:List α) (e1:Env),pre.length≤N→e1.h=hpH (hs pre).length (hs pre)→Ext e e1→∀b,Own e1 b→b<e.w.heap.size:=by
  intro hOB pre e1 hN hh hx b ⟨id,⟨bk,hb,hne⟩,hρ⟩
  rw[hh] at hb
  have hb':=hb
  rw[←unpath_bij id,hpH_get] at hb'
  rcases csL_ok (hcs pre hN) _ bk hb' with rfl|⟨el,l,fz,rfl⟩
  ·exact absurd rfl hne
  ·obtain⟨el',l',fz',h3⟩:=lvL_ok (hlv hOB pre hN) _ _ _ _ hb'
   have h4:e.h.get id=some (.cs el' l' fz'):=by rw[he,←unpath_bij id,hpH_get];exact h3
   rw[←hρ,hx.ren id (hse.dk id _ h4)]
   exact hse.lt ⟨_,h4,by simp⟩
 let I:List α→World→Prop:=fun pre W=>e.w.heap.size≤W.heap.size∧(pre.length≤N→∃e1:Env,e1.w=W∧St e1∧Ext e e1∧e1.h=hpH (hs pre).length (hs pre))
 have hI:OwnFrom e.w.heap.size I:=by
  intro pre W W' row hi hgw hr
  refine⟨Nt hi.1 hgw.size,fun hN=>?_⟩
  obtain⟨e1,rfl,g1,g2,g3⟩:=hi.2 hN
  have ck:CKeep e1.w W':=⟨hgw.size,fun b c el fr hb=>(hgw.block b (Array.getElem?_eq_some_iff.1 hb).1 (fun e=>by
   obtain⟨_,o,ho,hc⟩:=hr b e.symm
   rw[hb] at ho;obtain rfl:=Oi ho;cases hc)).trans hb⟩
  exact⟨e1.at W',rfl,St.atW ck (by rw[g3];exact csOnly_of (hcs pre hN)) g1,Ext.atW g2 ck (fun b hb=>hgw.block b (Nl hb hi.1) (fun e=>by
   have:=(hr b e.symm).1;omega)) ⟨hgw.os,hgw.tape,hgw.output⟩,g3⟩
 refine wpIn_wide.1 (wpIn_rangeFunc_ownH (F:=Fence.wide) (n:=5) rfl om (gf:=gf) (lb:=#[.pointer (some ⟨p,po,none⟩)]) hv trivial eg (encs:=encs) (Kp:=fun A B=>KcE e.w vs k p po A→KcE e.w vs k p po B) (S:=fun xs=>xs=fin) (Sp:=fun _=>True) (N:=N) (w0:=e.w)
  (hseq p po e.w hK0) (fun h k x=>k (h x)) (fun W l o o' _ hl ho _ hk=>hk.keep fun a v hv=>cell_putObj hv hl ho) (Below.refl _ _) hps I (fun _ _ _=>False) hI (fun c _ _ _ _ h _ _=>h)
  ⟨Nr _,fun _=>⟨e,rfl,hse,Ext.refl e,he⟩⟩ Ax hAx ?_ ?_ ?_ ?_)
 ·intro l pre x W K hi hK
  refine hAs l _ x W K hi.1 (fun a' W' hbel hax=>hK a' W' ⟨hbel.size,fun k o _ hk _=>(hbel.block k (Array.getElem?_eq_some_iff.1 hk).1).trans hk⟩ (fun hk=>hk.keep fun a v hv=>?_) ⟨Nt hi.1 hbel.size,fun hN=>?_⟩ hax)
  ·obtain⟨o,ho,_⟩:=Go.cells_of_cell hv
   exact(hbel.cell (Array.getElem?_eq_some_iff.1 ho).1).trans hv
  ·obtain⟨e1,rfl,g1,g2,g3⟩:=hi.2 hN
   exact⟨e1.at W',rfl,St.atW (ck_below hbel) (by rw[g3];exact csOnly_of (hcs pre hN)) g1,Ext.atW g2 (ck_below hbel) (fun b hb=>hbel.block b (Nl hb hi.1)) ⟨hbel.os,hbel.tape,hbel.output⟩,g3⟩
 ·intro l pre x a' W hBl hrec hi hax hlt
  have hN:pre.length≤N:=om
  have hN2:(pre++[x]).length≤N:=by simp;omega
  obtain⟨e1,rfl,g1,g2,g3⟩:=hi.2 hN
  obtain⟨hfr,hsz'⟩:=hAf e1 x a' g1 g2 (fun hOB=>ownB hOB pre e1 hN g3 g2) hax
  refine hbody pre x hlt l _ _ e1 a' (fun⟨a0,w0,ho⟩=>ho) g3 g1 hfr (hgr.ext g2) hsz' (fun ex fr' h' hq=>?_)
  obtain⟨rfl,hq⟩:=hq
  intro a3 e3 he3 hs3 hx3 hf3 hsz3 hd3
  subst he3
  have hn0:e.h.next=(hs []).length:=by rw[he];rfl
  obtain⟨e4,q1,q2,q3,q4,_⟩:=hq.own hse hs3 (g2.trans hx3) om (by rw[hx3.fr,g2.fr,hgr.1];exact hB) hf3
  refine⟨⟨hx3.heap,fun k o hB hk ho=>?_⟩,fun _=>?_,Nt hi.1 hx3.heap,fun _=>⟨e4,q1,q3,q4,q2⟩⟩
  ·rw[hx3.keep k (Array.getElem?_eq_some_iff.1 hk).1 (fun⟨id,⟨bk,hb,hne⟩,hρ⟩=>?_)];exact hk
   have hb':=hb
   rw[g3,←unpath_bij id,hpH_get] at hb'
   have hbr:=g1.blk id bk hb
   rcases csL_ok (hcs pre hN) _ bk hb' with rfl|⟨el,l,fz,rfl⟩
   ·exact hne rfl
   ·obtain⟨c,fr,h1,_⟩:=hbr
    rw[hρ,hk] at h1
    obtain rfl:=Oi h1
    cases ho
  ·obtain⟨B',o',h6,h7⟩:=hbx (pre++[x]) hN2 e e4 _ hse he q3 q4 q2 hu
   injection h6 with h6;injection h6 with h6;injection h6 with h10 h11
   subst h10 h11
   rw[q1] at h7
   exact h7
 ·intro D xs W hD hS hi hdef
  subst hS
  obtain⟨e1,rfl,g1,g2,g3⟩:=hi.2 hfin
  exact hp .normal fr _ hq _ e1 D g3 g1 g2 (hf.ext g2) hsz rfl hD hdef
 ·intro D c pre W _ _ hc
  exact hc.elim
end
def eqRen (h:H) (f:Id→Id) (C:List (Option Blk)):Nat→Prop:=List.rec (fun _=>True) (fun b _ ih i=>(h.get (f (path i))=Option.rec none (fun b=>some (b.ren f)) b)∧ih (Nat.succ i)) C
theorem eqRen_get {h:H}{f:Id→Id}:∀{C:List (Option Blk)}{k:Nat},eqRen h f C k→∀i b,C[i]? =some b→h.get (f (path (k+i)))=Option.rec none (fun b=>some (b.ren f)) b
 |[],_,_,i,b,hb=>by simp at hb
 |c::C,k,hh,0,b,hb=>by
  simp only[List.getElem?_cons_zero,Oj] at hb;subst hb;exact hh.1
 |c::C,k,hh,i+1,b,hb=>by
  have:=eqRen_get (k:=k+1) hh.2 i b (by simpa using hb)
  rw[show k+(i+1)=k+1+i by omega];exact this
theorem EndC_fit {n:Nat} (q:List Id) {C:List (Option Blk)}{fr:T AV}{h:H} (hlen:C.length=n+q.length) (hcs:csL C=true) (hbo:blksOk C.length C) (hq:eqRen h (from1 n q) C 0)
 (hinj:∀i j,i<C.length→j<C.length→from1 n q (path i)=from1 n q (path j)→i=j):EndC n [] C fr h:=by
 have hg:∀i b,C[i]? =some b→h.get (from1 n q (path i))=Option.rec none (fun b=>some (b.ren (from1 n q))) b:=fun i b hb=>by have:=eqRen_get hq i b hb;rw[Nat.zero_add] at this;exact this
 have hno:∀id b,(H.get ⟨0,.e⟩ id:Option Blk)≠some b:=fun id b hb=>by
  have:(H.get ⟨0,.e⟩ id:Option Blk)=none:=T.get_e id
  rw[this] at hb;cases hb
 refine⟨q,⟨0,.e⟩,hlen,trivial,trivial,fun i c hc=>?_,fun i b hb _=>.inl (hg i _ hb),by rw[←hlen];exact hbo,fun id b hb=>absurd hb (hno id b),fun i b _ _ ⟨b',hb',_⟩=>absurd hb' (hno _ b'),fun j c _ hc=>?_,fun i j b c hb hc _ _ he=>?_⟩
 ·have:=hg i c hc
  cases c with
  |none=>exact this
  |some b=>exact⟨_,this⟩
 ·obtain⟨b,hb⟩:=csL_some hcs j (List.getElem?_eq_some_iff.1 hc).1
  rw[hc] at hb
  exact⟨b,by simpa using hb⟩
 ·exact hinj i j (List.getElem?_eq_some_iff.1 hb).1 (List.getElem?_eq_some_iff.1 hc).1 he
def csW (bs:List (Option Blk)):Bool:=List.rec true (fun b _ r=>Option.rec r (fun b=>Blk.rec (fun _ _ _=>r) (fun _=>false) (fun _ _=>false) r b) b) bs
theorem csW_ok:∀{bs:List (Option Blk)},csW bs=true→∀(j:Nat) (b:Blk),bs[j]? =some (some b)→b=.dead∨∃el l fz,b=.cs el l fz
 |[],_,j,b,hb=>by simp at hb
 |none::bs,h,0,b,hb=>by simp at hb
 |none::bs,h,j+1,b,hb=>csW_ok (show csW bs=true from h) j b (by simpa using hb)
 |some x::bs,h,j,b,hb=>by
  cases x with
  |mp es=>cases(show false=true from h)
  |it s p=>cases(show false=true from h)
  |cs el l fz=>
   have h:csW bs=true:=h
   cases j with
   |zero=>simp only[List.getElem?_cons_zero,Oj] at hb;exact .inr ⟨el,l,fz,hb.symm⟩
   |succ j=>exact csW_ok h j b (by simpa using hb)
  |dead=>
   have h:csW bs=true:=h
   cases j with
   |zero=>simp only[List.getElem?_cons_zero,Oj] at hb;exact .inl hb.symm
   |succ j=>exact csW_ok h j b (by simpa using hb)
theorem csOnly_st {e:Env} (hs:St e) (h:csW (heapL e.h e.h.next)=true):csOnly e.h:=fun id b hb=>by
 obtain⟨k,hk,rfl⟩:=hs.num hb
 have:=heapL_get e.h e.h.next k
 rw[if_pos hk,hb] at this
 exact csW_ok h k b this
section
variable {Bn:Nat} [BOk Bn]{f:Nat}{fn:Func}{h hz:H}{args:List AV}{v:AV}
theorem At.bodyM {b:Code} (hf:PP.funcs[f]? =some fn) (hb:fn.body=some b) (hok:fOk [] fn args.length=true) (hcs:csW (heapL hz hz.next)=true)
 (hsat:SatM PP (GG Bn) fn.ntmps b (argsFrom args 0 .e) h (fun ex fr' h'=>(ex=.normal∨ex=.ret)∧resOf (resF fn) fr' h'=some [v]∧h'=hz)):At Bn f h args v hz:=by
 obtain⟨h1,h2⟩:=cd_true hok
 obtain⟨h2,h3⟩:=cd_true h2
 obtain⟨h3,h4⟩:=cd_true h3
 obtain⟨h4,h5⟩:=cd_true h4
 obtain⟨res,hr⟩:=isSm_eq h2
 have e2:resF fn=res:=by unfold resF;rw[hr]
 rw[e2] at hsat
 have hle:=Nb h3
 have hle:args.length≤fn.ntmps:=by simpa using hle
 intro e vs he hs hg hrel
 subst he
 right
 have hname':¬fn.name= "runtime.NumGoroutine" :=by simpa using h5
 refine⟨by simp[callFunc,hf,hname',hb],?_⟩
 have hvl:=hrel.len
 refine callsIn_wide.1 (callsIn_of_wp_marks (F:=Fence.wide) (n:=5) hf hb trivial (wpIn_wide.2 (hsat _ e _ rfl hs (args_rel hrel _) hg (by simp;omega) (fun ex fr' h' hq=>?_))))
 obtain⟨hex,hro,hsame⟩:=hq
 intro a' e' D he' hs' hx' hf' _ hd' hD hdef
 subst he'
 have ck:CKeep e'.w (e'.w.putObj D (.deferred none)):=⟨by simp,fun b c el fr hb=>by
  rw[World.putObj_heap_other (fun e=>by rw[e,hdef] at hb;cases hb)];exact hb⟩
 have hs3:St (e'.at (e'.w.putObj D (.deferred none))):=hs'.atW ck (csOnly_st hs' (by rw[hsame];exact hcs))
 have hx3:Ext e (e'.at (e'.w.putObj D (.deferred none))):=hx'.atW ck (fun b hb=>World.putObj_heap_other om) ⟨rfl,rfl,rfl⟩
 have hf3:FrRel (e'.at (e'.w.putObj D (.deferred none))) fr' a'.tmps:=fun k=>Rel.atW ck _ _ (hf' k)
 obtain⟨_,cv,h6,h7⟩:=results_sound (e:=e'.at (e'.w.putObj D (.deferred none))) (fn:=fn) (r:=v) (h':=e'.h) hs3 hf3 hr hro rfl
 have hfin:LeavesInM Fence.wide 5 PP fn a'.tmps (fun x w'=>∃v',x=.returned v'∧∃e2,e2.w=w'∧e2.h=hz∧St e2∧Ext e e2∧Rel e2 v v') a'.defers .returning e'.w:=by
  rw[hd']
  exact⟨by simp,.inl ⟨D,_,rfl,run_takeDeferred hdef,cv,h6,cv,rfl,e'.at (e'.w.putObj D (.deferred none)),rfl,hsame,hs3,hx3,h7⟩⟩
 rcases hex with rfl|rfl
 ·exact hfin
 ·exact hfin
end
end Go.Ev
end
noncomputable section
namespace Go.Ev
open Go.Proofs
def noId (x:AV):Bool:=@AV.casesOn (fun _=>Bool) x (fun _ _=>true) (fun _=>true) (fun _ _=>true) (fun _=>true) (fun _ _=>false) (fun _ _ _ _ _ _=>false) true (fun _ _=>true) (fun _ _ _=>true) (fun _ _ _=>false) (fun _ _=>false) (fun _=>false) (fun _=>false) (fun _=>false) false
theorem noId_ren {f:Id→Id}:∀{x:AV},noId x=true→AV.ren f x=x
 |.i ..,_=>by simp only[AV.ren]
 |.b ..,_=>by simp only[AV.ren]
 |.s ..,_=>by simp only[AV.ren]
 |.v ..,_=>by simp only[AV.ren]
 |.em,_=>by simp only[AV.ren]
 |.isl ..,_=>by simp only[AV.ren]
 |.ip ..,_=>by simp only[AV.ren]
 |.p ..,h|.sl ..,h|.f ..,h|.ifc ..,h|.ag ..,h|.tu ..,h|.m ..,h|.j,h=>by cases(show false=true from h)
theorem noId_ok {N:Nat}:∀{x:AV},noId x=true→avOk N x
 |.i ..,_=>by simp only[avOk]
 |.b ..,_=>by simp only[avOk]
 |.s ..,_=>by simp only[avOk]
 |.v ..,_=>by simp only[avOk]
 |.em,_=>by simp only[avOk]
 |.isl ..,_=>by simp only[avOk]
 |.ip ..,_=>by simp only[avOk]
 |.p ..,h|.sl ..,h|.f ..,h|.ifc ..,h|.ag ..,h|.tu ..,h|.m ..,h|.j,h=>by cases(show false=true from h)
def noIdL (l:List AV):Bool:=List.rec true (fun x _ r=>cd (noId x) r false) l
theorem noIdL_mem:∀{l:List AV},noIdL l=true→∀x∈l,noId x=true
 |y::l,h,x,hx=>by
  obtain⟨h1,h2⟩:=cd_true (show cd (noId y) (noIdL l) false=true from h)
  rcases List.mem_cons.1 hx with rfl|hx
  ·exact h1
  ·exact noIdL_mem h2 x hx
def noIdB (b:Option Blk):Bool:=Option.rec false (fun b=>Blk.rec (fun _ l _=>noIdL l) (fun _=>false) (fun _ _=>false) true b) b
theorem renL_noId {f:Id→Id}:∀{l:List AV},noIdL l=true→AV.renL f l=l
 |[],_=>by simp only[AV.renL]
 |y::l,h=>by
  obtain⟨h1,h2⟩:=cd_true (show cd (noId y) (noIdL l) false=true from h)
  simp only[AV.renL]
  rw[noId_ren h1,renL_noId h2]
theorem noIdB_ok {f:Id→Id}{N:Nat}{b:Blk} (h:noIdB (some b)=true):b.ren f=b∧blkOk N (some b):=by
 cases b with
 |cs el l fz=>
  have h:noIdL l=true:=h
  exact⟨by show Blk.cs el (AV.renL f l) fz=_;rw[renL_noId h],avOkL_all fun x hx=>noId_ok (noIdL_mem h x hx)⟩
 |mp es=>cases(show false=true from h)
 |it s p=>cases(show false=true from h)
 |dead=>exact⟨rfl,trivial⟩
def plK (N:Nat) (ks:List Kdc):Bool:=List.rec true (fun k _ r=>Kdc.rec r (fun _=>r) (fun c=>cd (Nat.blt (unpath c) N) r false) false false k) ks
theorem plK_ok {N:Nat}:∀{ks:List Kdc},plK N ks=true→ks.all (kdOk N)=true∧(∀k∈ks,k≠.fx∧k≠.ot)
 |[],_=>⟨rfl,fun k hk=>by cases hk⟩
 |k::ks,h=>by
  have h1:plK N ks=true∧kdOk N k=true∧k≠.fx∧k≠.ot:=by
   cases k with
   |sc=>exact⟨h,rfl,by simp,by simp⟩
   |fz t=>exact⟨h,rfl,by simp,by simp⟩
   |ow c=>
    obtain⟨h1,h2⟩:=cd_true (show cd (Nat.blt (unpath c) N) (plK N ks) false=true from h)
    exact⟨h2,h1,by simp,by simp⟩
   |fx=>cases(show false=true from h)
   |ot=>cases(show false=true from h)
  obtain⟨h2,h3,h4,h5⟩:=h1
  obtain⟨h6,h7⟩:=plK_ok h2
  refine⟨by simp only[List.all_cons,h3,h6,Bool.and_self],fun k' hk=>?_⟩
  rcases List.mem_cons.1 hk with rfl|hk
  ·exact⟨h4,h5⟩
  ·exact h7 k' hk
def plS (N:Nat) (sp:List Spc):List (Option Blk)→Bool:=List.rec (motive:=fun _=>List (Option Blk)→Bool) (fun _=>true)
 (fun s _ ih C=>List.rec false (fun c C _=>Spc.rec (fun _ _ ks=>cd (plK N ks) (ih C) false) (cd (noIdB c) (ih C) false) (ih C) s) C) sp
theorem plS_get {N:Nat}:∀{sp:List Spc}{C:List (Option Blk)},plS N sp C=true→∀(i:Nat) (s:Spc),sp[i]? =some s→(∀src el ks,s=.blk src el ks→plK N ks=true)∧(s=.lv→∃c,C[i]? =some c∧noIdB c=true)
 |[],_,_,i,s,hs=>by simp at hs
 |x::sp,[],h,_,_,_=>by cases(show false=true from h)
 |x::sp,c::C,h,i,s,hs=>by
  have key:plS N sp C=true∧(∀src el ks,x=.blk src el ks→plK N ks=true)∧(x=.lv→noIdB c=true):=by
   cases x with
   |blk src el ks=>
    obtain⟨h1,h2⟩:=cd_true (show cd (plK N ks) (plS N sp C) false=true from h)
    exact⟨h2,fun _ _ _ e=>by injection e with _ _ e;rw[←e];exact h1,fun e=>by cases e⟩
   |lv=>
    obtain⟨h1,h2⟩:=cd_true (show cd (noIdB c) (plS N sp C) false=true from h)
    exact⟨h2,fun _ _ _ e=>(by cases e),fun _=>h1⟩
   |dd=>exact⟨h,fun _ _ _ e=>(by cases e),fun e=>(by cases e)⟩
  cases i with
  |zero=>
   simp only[List.getElem?_cons_zero,Oj] at hs;subst hs
   exact⟨key.2.1,fun e=>⟨c,rfl,key.2.2 e⟩⟩
  |succ i=>exact plS_get key.1 i s (by simpa using hs)
theorem canon_plainQ {sp:List Spc}{h:H}{C:List (Option Blk)}{L:List (List Bool×AV)}{fr:T AV} (hc:canon sp h=some C) (hp:plS sp.length sp C=true) (hL:HoldsR fr (from1 0 (srcs sp 0)) L) (hLo:LOk sp.length L):EndCq 0 (srcs sp 0) L C fr h:=by
 have hg:=plS_get hp
 refine canon_endQ hc ?_ hL hLo ?_ ?_ ?_ ?_
 ·refine List.all_eq_true.2 fun s hs=>?_
  obtain⟨i,hi⟩:=List.mem_iff_getElem?.1 hs
  cases s with
  |blk src el ks=>exact(plK_ok ((hg i _ hi).1 src el ks rfl)).1
  |lv=>rfl
  |dd=>rfl
 ·intro i src el ks l j x hi _ hk _
  exact absurd rfl ((plK_ok ((hg i _ hi).1 src el ks rfl)).2 _ (List.mem_of_getElem? hk)).1
 ·intro i src el ks l j x hi _ hk _
  exact absurd rfl ((plK_ok ((hg i _ hi).1 src el ks rfl)).2 _ (List.mem_of_getElem? hk)).2
 ·intro i b hi hb
  obtain⟨c,h1,h2⟩:=(hg i _ hi).2 rfl
  rw[hb] at h1
  obtain rfl:=Oi h1
  exact noIdB_ok h2
 ·intro i hi hb
  obtain⟨c,h1,h2⟩:=(hg i _ hi).2 rfl
  rw[hb] at h1
  obtain rfl:=Oi h1
  cases(show false=true from h2)
theorem canon_plain {sp:List Spc}{h:H}{C:List (Option Blk)}{L:List (List Bool×AV)}{fr:T AV} (hc:canon sp h=some C) (hp:plS sp.length sp C=true) (hL:HoldsR fr (from1 0 (srcs sp 0)) L) (hLo:LOk sp.length L):EndC 0 L C fr h:=
 (canon_plainQ hc hp hL hLo).zero
def CX (X1 X2 X3:Nat→AV) (Y1 Y2 Y3:Nat→Blk) (t:Nat) (bx:AV) (b0:Blk):List (Option Blk):=
 cat pre_ (some (.cs 39 (wLx t bx) false)::some (.cs 87 (cat (cells52 X1) (cat (cells52 X2) (cells52 X3))) false)::some b0::[some (Y1 0),some (Y1 1),some (Y1 2),some (Y2 0),some (Y2 1),some (Y2 2),some (Y3 0),some (Y3 1),some (Y3 2)])
def HQ (X1 X2 X3:Nat→AV) (Y1 Y2 Y3:Nat→Blk) (t:Nat) (bx:AV) (b0:Blk):H:=hpH 53 (cat (CX X1 X2 X3 Y1 Y2 Y3 t bx b0) [some .dead])
def jY (j:JS) (k c:Nat) (i:Nat):Blk:=cd (Nat.beq i 0) (sBk (t:=.str) 9 j.f1 (stkOf (vJ j.p k c))) (cd (Nat.beq i 1) (sBk (t:=zRef) 80 j.f2 (refOf (vJ j.p k c))) (sBk (t:=zEvent) 135 false (evtOf (vJ j.p k c))))
section
variable {c1 c2 c3:Nat}
theorem vJ_id (p k c:Nat):(vJ p k c).1=N k:=by
 by_cases h:p<21
 ·match p,h with
  |0,_|1,_|2,_|3,_|4,_|5,_|6,_|7,_|8,_|9,_|10,_|11,_|12,_|13,_|14,_|15,_|16,_|17,_|18,_|19,_|20,_=>rfl
  |n+21,h=>exact absurd h om
 ·unfold vJ nthD
  rw[nth_eq,Lz (by show 21≤p;omega)]
theorem jX_id (j:JS) (k c:Nat):idX k (jX j k c)=jX j k c:=by
 funext i
 cases i with
 |zero=>show AV.i .i64 (N k)=_;rw[←vJ_id j.p k c];rfl
 |succ i=>rfl
theorem Cn_CX (a:WS):Cn c1 c2 c3 a=CX (jX a.j1 1 c1) (jX a.j2 2 c2) (jX a.j3 3 c3) (jY a.j1 1 c1) (jY a.j2 2 c2) (jY a.j3 3 c3) a.t (sAV (t:=zBatch) (path 42) false a.bs) (sBk (t:=zBatch) 121 false a.bs):=rfl
theorem Hd_HQ (a:WS):Hd c1 c2 c3 a=HQ (jX a.j1 1 c1) (jX a.j2 2 c2) (jX a.j3 3 c3) (jY a.j1 1 c1) (jY a.j2 2 c2) (jY a.j3 3 c3) a.t (sAV (t:=zBatch) (path 42) false a.bs) (sBk (t:=zBatch) 121 false a.bs):=rfl
end
def bt_ (k:Nat):den zBatch:=(N k,[(N 4,[67],[[49]],[],N 1)])
def Lc:List Con:=[tabC 46 [⟨true,y42⟩] [⟨false,.bool⟩] [((prg_,()),(true,()))]]
def rS (Bn k:Nat) (h:H):CR:=cZ Bn (evF (tblR Bn Lc EX) 60) 114 rest28 (mkFr (fr28 k)) h
def gl1 (Bn:Nat) (j:JS) (c:Nat) (X2 X3:Nat→AV) (Y2 Y3:Nat→Blk) (t:Nat) (bx:AV) (b0:Blk):=sumC 1 false Tryz.f28 (rS Bn 1 (HQ (jX j 1 c) (idX 2 X2) (idX 3 X3) (jY j 1 c) Y2 Y3 t bx b0))
def gr1 (v:Int) (j:JS) (c:Nat) (X2 X3:Nat→AV) (Y2 Y3:Nat→Blk) (t:Nat) (bx:AV) (b0:Blk):Option (AV×List (Option Blk)):=some (.i .i64 v,CX (jX j 1 c) (idX 2 X2) (idX 3 X3) (jY j 1 c) Y2 Y3 t bx b0)
def gl2 (Bn:Nat) (j:JS) (c:Nat) (X1 X3:Nat→AV) (Y1 Y3:Nat→Blk) (t:Nat) (bx:AV) (b0:Blk):=sumC 2 false Tryz.f28 (rS Bn 2 (HQ (idX 1 X1) (jX j 2 c) (idX 3 X3) Y1 (jY j 2 c) Y3 t bx b0))
def gr2 (v:Int) (j:JS) (c:Nat) (X1 X3:Nat→AV) (Y1 Y3:Nat→Blk) (t:Nat) (bx:AV) (b0:Blk):Option (AV×List (Option Blk)):=some (.i .i64 v,CX (idX 1 X1) (jX j 2 c) (idX 3 X3) Y1 (jY j 2 c) Y3 t bx b0)
def gl3 (Bn:Nat) (j:JS) (c:Nat) (X1 X2:Nat→AV) (Y1 Y2:Nat→Blk) (t:Nat) (bx:AV) (b0:Blk):=sumC 3 false Tryz.f28 (rS Bn 3 (HQ (idX 1 X1) (idX 2 X2) (jX j 3 c) Y1 Y2 (jY j 3 c) t bx b0))
def gr3 (v:Int) (j:JS) (c:Nat) (X1 X2:Nat→AV) (Y1 Y2:Nat→Blk) (t:Nat) (bx:AV) (b0:Blk):Option (AV×List (Option Blk)):=some (.i .i64 v,CX (idX 1 X1) (idX 2 X2) (jX j 3 c) Y1 Y2 (jY j 3 c) t bx b0)
variable {Bn:Nat} [BOk Bn] (X2 X3:Nat→AV) (Y2 Y3:Nat→Blk) (t c:Nat) (bx:AV) (b0:Blk)
theorem st1_0aa:gl1 Bn ⟨0,false,false⟩ c X2 X3 Y2 Y3 t bx b0=gr1 (N 0) ⟨1,false,false⟩ c X2 X3 Y2 Y3 t bx b0:=kr
theorem st1_1aa_49:gl1 Bn ⟨1,false,false⟩ 49 X2 X3 Y2 Y3 t bx b0=gr1 (N 0) ⟨2,false,false⟩ 49 X2 X3 Y2 Y3 t bx b0:=kr
theorem st1_1aa_50:gl1 Bn ⟨1,false,false⟩ 50 X2 X3 Y2 Y3 t bx b0=gr1 (N 0) ⟨2,false,false⟩ 50 X2 X3 Y2 Y3 t bx b0:=kr
theorem st1_1aa_51:gl1 Bn ⟨1,false,false⟩ 51 X2 X3 Y2 Y3 t bx b0=gr1 (N 0) ⟨2,false,false⟩ 51 X2 X3 Y2 Y3 t bx b0:=kr
theorem st1_1aa_52:gl1 Bn ⟨1,false,false⟩ 52 X2 X3 Y2 Y3 t bx b0=gr1 (N 0) ⟨2,false,false⟩ 52 X2 X3 Y2 Y3 t bx b0:=kr
theorem st1_1aa_53:gl1 Bn ⟨1,false,false⟩ 53 X2 X3 Y2 Y3 t bx b0=gr1 (N 0) ⟨2,false,false⟩ 53 X2 X3 Y2 Y3 t bx b0:=kr
theorem st1_1aa_54:gl1 Bn ⟨1,false,false⟩ 54 X2 X3 Y2 Y3 t bx b0=gr1 (N 0) ⟨2,false,false⟩ 54 X2 X3 Y2 Y3 t bx b0:=kr
theorem st1_1aa_55:gl1 Bn ⟨1,false,false⟩ 55 X2 X3 Y2 Y3 t bx b0=gr1 (N 0) ⟨2,false,false⟩ 55 X2 X3 Y2 Y3 t bx b0:=kr
variable {Bn:Nat} [BOk Bn] (X2 X3:Nat→AV) (Y2 Y3:Nat→Blk) (t c:Nat) (bx:AV) (b0:Blk)
theorem st1_1aa_56:gl1 Bn ⟨1,false,false⟩ 56 X2 X3 Y2 Y3 t bx b0=gr1 (N 0) ⟨2,false,false⟩ 56 X2 X3 Y2 Y3 t bx b0:=kr
theorem st1_1aa_57:gl1 Bn ⟨1,false,false⟩ 57 X2 X3 Y2 Y3 t bx b0=gr1 (N 0) ⟨2,false,false⟩ 57 X2 X3 Y2 Y3 t bx b0:=kr
theorem st1_2aa:gl1 Bn ⟨2,false,false⟩ c X2 X3 Y2 Y3 t bx b0=gr1 (N 0) ⟨3,false,false⟩ c X2 X3 Y2 Y3 t bx b0:=kr
theorem st1_3aa:gl1 Bn ⟨3,false,false⟩ c X2 X3 Y2 Y3 t bx b0=gr1 (N 0) ⟨4,false,true⟩ c X2 X3 Y2 Y3 t bx b0:=kr
theorem st1_4ab:gl1 Bn ⟨4,false,true⟩ c X2 X3 Y2 Y3 t bx b0=gr1 (N 0) ⟨5,true,true⟩ c X2 X3 Y2 Y3 t bx b0:=kr
theorem st1_5ba:gl1 Bn ⟨5,true,false⟩ c X2 X3 Y2 Y3 t bx b0=gr1 (N 0) ⟨6,true,true⟩ c X2 X3 Y2 Y3 t bx b0:=kr
theorem st1_5bb:gl1 Bn ⟨5,true,true⟩ c X2 X3 Y2 Y3 t bx b0=gr1 (N 0) ⟨6,true,true⟩ c X2 X3 Y2 Y3 t bx b0:=kr
theorem st1_6ab:gl1 Bn ⟨6,false,true⟩ c X2 X3 Y2 Y3 t bx b0=gr1 (N 0) ⟨7,true,true⟩ c X2 X3 Y2 Y3 t bx b0:=kr
end Go.Ev
end
