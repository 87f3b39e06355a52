/- A part of the proof that FnRolled returns true; no condition. -/
import Derived.Test.YtmkdnjbgmflnfaaGreatDoorPa
import Derived.Laws.Slices
import Derived.Laws.Strings
import Derived.Sort.Walk0
import Derived.Laws.Small
import Derived.Laws.Tables
set_option linter.all false
set_option maxRecDepth 100000
open List renaming length→U
open Int renaming ofNat→J,toNat→Jn
noncomputable section
namespace Go.Ev
section
variable {P:Program}{G:Gs}{o:Oper}{e:Env}{a:Act}{fr:T AV}{call:CallF}{id:Nat}{ao:AOp}{v:AV}{h':H}
theorem map_inv {α β:Type}{f:α→β}{x:Option α}{y:β} (h:x.map f=some y):∃z,x=some z∧f z=y:=by
 cases x with
 |none=>simp at h
 |some z=>exact⟨z,rfl,by simpa using h⟩
theorem bind_inv {α β:Type}{f:α→Option β}{x:Option α}{y:β} (h:x.bind f=some y):∃z,x=some z∧f z=some y:=by
 cases x with
 |none=>simp at h
 |some z=>exact⟨z,rfl,by simpa using h⟩
theorem sound_mv {x:Operand} (hs:St e) (hf:FrRel e fr a.tmps) (hg:GRel G e) (ho:o.op=.move x∨o.op=.assign x)
 (hc:(od G x).map AOp.mv=some ao) (hr:evOp call ao fr e.h id=.ok v h'):OpS P o e a v h':=by
 obtain⟨y,hy,rfl⟩:=map_inv hc
 have h1:R.ok (ev y fr) e.h=.ok v h':=hr
 injection h1 with h1 h2;subst h1 h2
 refine OpS.same hs ?_ (od_rel hf hg hy)
 rcases ho with ho|ho<;>simp[execOp,ho]
theorem rel_b {x:Bool}{cv:Value} (h:Rel e (.b x) cv):cv=.bool x:=by simpa[Rel] using h
theorem rel_i {k:IntKind}{n:Int}{cv:Value} (h:Rel e (.i k n) cv):cv=.int k n:=by simpa[Rel] using h
theorem rel_s {n:Nat}{l:List Nat}{cv:Value} (h:Rel e (.s n l) cv):n=l.length∧(∀c∈l,c<256)∧cv=.string (strOf l):=by simp only[Rel] at h;exact⟨h.1.1,h.2⟩
theorem rel_sB {n:Nat}{l:List Nat}{cv:Value} (h:Rel e (.s n l) cv):n≤1152921504606846976:=by simp only[Rel] at h;exact h.1.2
theorem rel_p {i:Id}{off:Nat}{cv:Value} (h:Rel e (.p i off) cv):known e i∧cv=.pointer (some ⟨(e.ρ i).1,(e.ρ i).2+off,none⟩):=by simpa[Rel] using h
theorem sound_pick {c x y:Operand} (hs:St e) (hf:FrRel e fr a.tmps) (hg:GRel G e) (ho:o.op=.pick c x y)
 (hc:compOp P G (.pick c x y)=some ao) (hr:evOp call ao fr e.h id=.ok v h'):OpS P o e a v h':=by
 simp only[compOp] at hc
 obtain⟨c',hc',hc⟩:=bind_inv hc
 obtain⟨x',hx',hc⟩:=bind_inv hc
 obtain⟨y',hy',rfl⟩:=map_inv hc
 have hr:(match ev c' fr with|.b b=>.ok (cd b (ev x' fr) (ev y' fr)) e.h|_=>.no:R)=.ok v h':=hr
 have rc:=od_rel hf hg hc'
 split at hr
 ·rename_i b hb
  injection hr with h1 h2;subst h1 h2
  rw[hb] at rc
  have rc:=rel_b rc
  refine OpS.same hs (cv:=if b then a.eval x else a.eval y) ?_ ?_
  ·cases b<;>simp[execOp,ho,rc,asBool]
  ·cases b
   ·exact od_rel hf hg hy'
   ·exact od_rel hf hg hx'
 ·exact absurd hr (by simp)
theorem cellAt_inv {x:AV}{h:H}{v:AV} (hr:cellAt x h=some v):
 (∃i off el l fz,x=.p i off∧h.get i=some (.cs el l fz)∧l[off]? =some v)∨(∃ty y off,x=.ip ty y off∧(tc ty y)[off]? =some v):=by
 cases x with
 |p i off=>
  have hr:blkNth (h.get i) off=some v:=hr
  cases hb:h.get i with
  |none=>rw[hb] at hr;exact absurd (show(none:Option AV)=some v from hr) (by simp)
  |some b=>
   rw[hb] at hr
   cases b with
   |cs el l fz=>
    have hr:nth l off=some v:=hr
    rw[nth_eq] at hr
    exact .inl ⟨i,off,el,l,fz,rfl,hb,hr⟩
   |mp es=>exact absurd (show(none:Option AV)=some v from hr) (by simp)
   |it s p=>exact absurd (show(none:Option AV)=some v from hr) (by simp)
   |dead=>exact absurd (show(none:Option AV)=some v from hr) (by simp)
 |ip ty y off=>
  have hr:nth (tc ty y) off=some v:=hr
  rw[nth_eq] at hr
  exact .inr ⟨ty,y,off,rfl,hr⟩
 |_=>exact absurd (show(none:Option AV)=some v from hr) (by simp)
theorem cellsAt_inv {x:AV}{h:H}{n:Nat}{r:List AV} (hr:cellsAt x n h=some r):
 (∃i off el l fz,x=.p i off∧h.get i=some (.cs el l fz)∧cut l off n=some r)∨(∃ty y off,x=.ip ty y off∧cut (tc ty y) off n=some r):=by
 cases x with
 |p i off=>
  have hr:blkCut (h.get i) off n=some r:=hr
  cases hb:h.get i with
  |none=>rw[hb] at hr;exact absurd (show(none:Option (List AV))=some r from hr) (by simp)
  |some b=>
   rw[hb] at hr
   cases b with
   |cs el l fz=>exact .inl ⟨i,off,el,l,fz,rfl,hb,hr⟩
   |mp es=>exact absurd (show(none:Option (List AV))=some r from hr) (by simp)
   |it s p=>exact absurd (show(none:Option (List AV))=some r from hr) (by simp)
   |dead=>exact absurd (show(none:Option (List AV))=some r from hr) (by simp)
 |ip ty y off=>exact .inr ⟨ty,y,off,rfl,hr⟩
 |_=>exact absurd (show(none:Option (List AV))=some r from hr) (by simp)
theorem RelCells.get:∀{cs:List AV}{b o' j:Nat}{x:AV},RelCells e cs b o'→cs[j]? =some x→one x=true∧∃u,e.w.cell? ⟨b,o'+j,none⟩=some u∧Rel e x u
 |[],_,_,_,_,_,h=>by simp at h
 |y::ys,b,o',0,x,hr,h=>by
  simp only[RelCells] at hr
  simp only[List.getElem?_cons_zero,Oj] at h;subst h
  exact hr.1
 |y::ys,b,o',j+1,x,hr,h=>by
  simp only[RelCells] at hr
  have:=RelCells.get hr.2 (by simpa using h)
  rw[show o'+(j+1)=o'+1+j by omega];exact this
theorem ptr_cells {x:AV}{cv:Value} (hs:St e) (hx:Rel e x cv){n:Nat}{r:List AV} (hr:cellsAt x n e.h=some r) (hn:0<n):
 ∃b o',cv=.pointer (some ⟨b,o',none⟩)∧r.length=n∧∀j y,r[j]? =some y→one y=true∧∃u,e.w.cell? ⟨b,o'+j,none⟩=some u∧Rel e y u:=by
 rcases cellsAt_inv hr with ⟨i,off,el,l,fz,rfl,hb,hcut⟩|⟨ty,ty',off,rfl,hcut⟩
 ·obtain⟨_,rfl⟩:=rel_p hx
  obtain⟨hl,hg⟩:=cut_get hcut
  refine⟨_,_,rfl,hl,fun j y hy=>?_⟩
  have hj:j<n:=by rw[←hl];exact(List.getElem?_eq_some_iff.1 hy).1
  rw[hg j hj] at hy
  obtain⟨c,fz',h1,h2,h3,_⟩:=hs.blk i _ hb
  obtain⟨ho,u,hu,hru⟩:=h3 _ _ hy
  refine⟨ho,u,?_,hru⟩
  rw[cell_of_row _ _ _ _ _ _ h1,←hu];congr 1;omega
 ·simp only[Rel] at hx
  obtain⟨b,o',us,rfl,_,hc0,hr0⟩:=hx
  have hrc:=relT_cells hr0 hc0
  obtain⟨hl,hg⟩:=cut_get hcut
  refine⟨_,_,rfl,hl,fun j y hy=>?_⟩
  have hj:j<n:=by rw[←hl];exact(List.getElem?_eq_some_iff.1 hy).1
  rw[hg j hj] at hy
  have:=RelCells.get hrc hy
  rw[←Nat.add_assoc] at this;exact this
theorem ptr_cell {x:AV}{cv:Value} (hs:St e) (hx:Rel e x cv){r:AV} (hr:cellAt x e.h=some r):
 ∃ad u,cv=.pointer (some ad)∧e.w.cell? ad=some u∧Rel e r u∧one r=true:=by
 rcases cellAt_inv hr with ⟨i,off,el,l,fz,rfl,hb,hl⟩|⟨ty,ty',off,rfl,hl⟩
 ·obtain⟨_,rfl⟩:=rel_p hx
  obtain⟨c,fz',h1,h2,h3,_⟩:=hs.blk i _ hb
  obtain⟨ho,u,hu,hru⟩:=h3 _ _ hl
  exact⟨_,u,rfl,by rw[cell_of_row _ _ _ _ _ _ h1];exact hu,hru,ho⟩
 ·simp only[Rel] at hx
  obtain⟨b,o',us,rfl,_,hc0,hr0⟩:=hx
  have hrc:=relT_cells hr0 hc0
  obtain⟨ho,u,hu,hru⟩:=RelCells.get hrc hl
  exact⟨_,u,rfl,hu,hru,ho⟩
theorem relL_of:∀(r:List AV) (f:Nat→Option Value),(∀j y,r[j]? =some y→∃u,f j=some u∧Rel e y u)→
 ∃vs:List Value,RelL e r vs∧vs.length=r.length∧∀j u,vs[j]? =some u→f j=some u
 |[],f,_=>⟨[],by simp[RelL],rfl,by simp⟩
 |y::r,f,h=>by
  obtain⟨u,hu,hr⟩:=h 0 y (by simp)
  obtain⟨vs,h1,h2,h3⟩:=relL_of r (fun j=>f (j+1)) (fun j z hz=>h (j+1) z (by simpa using hz))
  refine⟨u::vs,by simp only[RelL];exact⟨hr,h1⟩,by simp[h2],fun j w hw=>?_⟩
  cases j with
  |zero=>simp only[List.getElem?_cons_zero,Oj] at hw;subst hw;exact hu
  |succ j=>exact h3 j w (by simpa using hw)
theorem Addr.add_none (b o' n:Nat):(⟨b,o',none⟩:Addr).add n=⟨b,o'+n,none⟩:=by
 unfold Addr.add;split
 ·rename_i h;subst h;rfl
 ·rfl
theorem run_loadCells_at {P:Program}{w:World} (b o':Nat) (vs:List Value) (h:∀j u,vs[j]? =some u→w.cell? ⟨b,o'+j,none⟩=some u):
 (loadCells ⟨b,o',none⟩ vs.length).run P w=.ok vs.toArray w:=
 run_loadCells_list _ _ vs (fun j u hu=>by rw[Addr.add_none];exact h j u hu)
theorem sound_load {t:TypeId}{x:Operand} (hs:St e) (hf:FrRel e fr a.tmps) (hg:GRel G e) (ho:o.op=.load t x)
 (hc:compOp P G (.load t x)=some ao) (hr:evOp call ao fr e.h id=.ok v h'):OpS P o e a v h':=by
 simp only[compOp] at hc
 obtain⟨ag,hag,hc⟩:=bind_inv hc
 obtain⟨n,hn,hc⟩:=bind_inv hc
 obtain⟨y,hy,hc⟩:=map_inv hc
 have rx:=od_rel hf hg hy
 cases ag with
 |false=>
  simp only[Bool.false_eq_true,if_false] at hc;subst hc
  have hr:okV e.h (cellAt (ev y fr) e.h)=.ok v h':=hr
  obtain⟨hq,rfl⟩:=okV_inv hr
  obtain⟨ad,u,hcv,hu,hru,_⟩:=ptr_cell hs rx hq
  refine OpS.same hs (cv:=u) ?_ hru
  simp[execOp,ho,Instr.loadAt,hcv,Instr.sureAddr,loadVar,run_isAgg hag,hu]
 |true=>
  simp only[if_true] at hc;subst hc
  have hr:(Option.rec .no (fun l=>.ok (.ag l) e.h) (cellsAt (ev y fr) n e.h):R)=.ok v h':=hr
  cases hl:cellsAt (ev y fr) n e.h with
  |none=>rw[hl] at hr;exact absurd (show R.no=.ok v h' from hr) (by simp)
  |some l=>
   rw[hl] at hr
   have hr:R.ok (.ag l) e.h=.ok v h':=hr
   injection hr with h1 h2;subst h1 h2
   rcases Nat.eq_zero_or_pos n with hz|hz
   ·subst hz
    have hl0:l=[]:=by
     rcases cellsAt_inv hl with ⟨_,_,_,_,_,_,_,hcut⟩|⟨_,_,_,_,hcut⟩<;>exact List.eq_nil_of_length_eq_zero (cut_get hcut).1
    subst hl0
    have hcv:∃ad,a.eval x=.pointer (some ad):=by
     rcases cellsAt_inv hl with ⟨i,off,_,_,_,hx,_⟩|⟨ty,ty2,off,hx,_⟩
     ·rw[hx] at rx;exact⟨_,(rel_p rx).2⟩
     ·rw[hx] at rx;simp only[Rel] at rx;obtain⟨b,o',us,h,_⟩:=rx;exact⟨_,h⟩
    obtain⟨ad,hcv⟩:=hcv
    refine OpS.same hs (cv:=.agg #[]) ?_ (by simp only[Rel];exact⟨by simp,#[],rfl,by simp[RelL]⟩)
    simp[execOp,ho,Instr.loadAt,hcv,Instr.sureAddr,loadVar,run_isAgg hag,run_size hn,loadCells,loadCellsFrom]
   ·obtain⟨b,o',hcv,hlen,hcell⟩:=ptr_cells hs rx hl hz
    obtain⟨vs,hrel,hvl,hvs⟩:=relL_of l (fun j=>e.w.cell? ⟨b,o'+j,none⟩) (fun j y hy=>(hcell j y hy).2)
    have hone:∀c∈l,one c=true:=fun c hc=>by
     obtain⟨j,hj⟩:=List.mem_iff_getElem?.1 hc
     exact(hcell j c hj).1
    refine OpS.same hs (cv:=.agg vs.toArray) ?_ (by simp only[Rel];exact⟨hone,vs.toArray,rfl,hrel⟩)
    have hrun:=run_loadCells_at (P:=P) b o' vs hvs
    rw[hvl,hlen] at hrun
    simp[execOp,ho,Instr.loadAt,hcv,Instr.sureAddr,loadVar,run_isAgg hag,run_size hn,hrun]
end
end Go.Ev
namespace Go.Ev
theorem wrap_in (k:IntKind) (n:Int) (h:k.min≤n∧n≤k.max):k.wrap n=n:=by
 cases k<;>simp only[IntKind.min,IntKind.max,IntKind.wrap,IntKind.bits,IntKind.signed,if_true,Bool.false_eq_true,if_false,Bool.true_and,Bool.false_and,ge_iff_le,decide_eq_true_eq] at* <;>
  first
  |omega
  |(split<;>rename_i hd<;>simp at hd<;>omega)
theorem kMax_eq (k:IntKind):((kMax k:Nat):Int)=k.max:=by
 cases k<;>rfl
theorem kNeg_eq (k:IntKind):kNeg k=k.signed:=by cases k<;>rfl
theorem min_eq (k:IntKind):k.min=if k.signed then -k.max - 1 else 0:=by cases k<;>rfl
theorem wr_eq (k:IntKind) (n:Int):wr k n=k.wrap n:=by
 cases n with
 |ofNat m=>
  show cd (Nat.ble m (kMax k)) (J m) (k.wrap (.ofNat m))=_
  rw[cd_eq,ble_nat]
  by_cases h:m≤kMax k
  ·simp only[h,decide_true,if_true]
   symm;apply wrap_in
   have:=kMax_eq k
   rw[min_eq]
   constructor
   ·split
    ·simp only[Ioz];omega
    ·simp
   ·simp only[Ioz];omega
  ·simp[h]
 |negSucc m=>
  show cd (cd (kNeg k) (Nat.ble m (kMax k)) false) (Int.negSucc m) (k.wrap (.negSucc m))=_
  rw[cd_eq,cd_eq,ble_nat,kNeg_eq]
  by_cases hs:k.signed=true
  ·simp only[hs,if_true]
   by_cases h:m≤kMax k
   ·simp only[h,decide_true,if_true]
    symm;apply wrap_in
    have:=kMax_eq k
    rw[min_eq,if_pos hs]
    omega
   ·simp[h]
  ·simp[hs]
theorem kEq_eq (a b:IntKind):kEq a b=decide (a=b):=by cases a<;>cases b<;>rfl
section
variable {P:Program}{G:Gs}{o:Oper}{e:Env}{a:Act}{fr:T AV}{call:CallF}{id:Nat}{ao:AOp}{v:AV}{h':H}
theorem sound_nilc {x:Operand} (hs:St e) (hf:FrRel e fr a.tmps) (hg:GRel G e) (ho:o.op=.nilCheck x)
 (hc:compOp P G (.nilCheck x)=some ao) (hr:evOp call ao fr e.h id=.ok v h'):OpS P o e a v h':=by
 simp only[compOp] at hc
 obtain⟨y,hy,rfl⟩:=map_inv hc
 have hr:nilA (ev y fr) (ev y fr) e.h=.ok v h':=hr
 have rx:=od_rel hf hg hy
 have key:∀(cv:Value),a.eval x=cv→(match cv with|.pointer none|.nilIface|.nilFunc=>False|.func (.method _) _ _=>False|_=>True)→Rel e v cv→e.h=h'→OpS P o e a v h':=by
  intro cv hcv hm hrel hh
  subst hh
  refine OpS.same hs (cv:=cv) ?_ hrel
  simp only[execOp,ho,hcv]
  cases cv with
  |pointer p=>cases p with
   |none=>exact absurd hm (by simp)
   |some p=>simp
  |func fn f c=>cases fn with
   |method n=>exact absurd hm (by simp)
   |_=>simp
  |nilIface=>exact absurd hm (by simp)
  |nilFunc=>exact absurd hm (by simp)
  |_=>simp
 generalize hw:ev y fr=x' at hr rx
 cases x' with
 |i k n=>injection hr with h1 h2;subst h1;exact key _ (rel_i rx) (by simp) (by rw[←rel_i rx];exact rx) h2
 |b n=>injection hr with h1 h2;subst h1;exact key _ (rel_b rx) (by simp) (by rw[←rel_b rx];exact rx) h2
 |s n l=>injection hr with h1 h2;subst h1;exact key _ (rel_s rx).2.2 (by simp) (by rw[←(rel_s rx).2.2];exact rx) h2
 |v n=>exact absurd (show R.no=.ok v h' from hr) (by simp)
 |p i off=>injection hr with h1 h2;subst h1;exact key _ (rel_p rx).2 (by simp) (by rw[←(rel_p rx).2];exact rx) h2
 |sl i off sz n lo ex=>
  injection hr with h1 h2;subst h1
  have rx':=rx;simp only[Rel] at rx'
  obtain⟨_,ad,cap,hv,_⟩:=rx'
  exact key _ hv (by simp) (by rw[←hv];exact rx) h2
 |em=>
  injection hr with h1 h2;subst h1
  have rx':=rx;simp only[Rel] at rx'
  obtain⟨ad,hv⟩:=rx'
  exact key _ hv (by simp) (by rw[←hv];exact rx) h2
 |isl sz xs=>
  injection hr with h1 h2;subst h1
  rcases rel_isl.1 rx with ⟨_,hv⟩|⟨ad,cap,hv,_⟩
  ·exact key _ hv (by simp) (by rw[←hv];exact rx) h2
  ·exact key _ hv (by simp) (by rw[←hv];exact rx) h2
 |ip ty y off=>
  injection hr with h1 h2;subst h1
  have rx':=rx;simp only[Rel] at rx'
  obtain⟨b,o',us,hv,_⟩:=rx'
  exact key _ hv (by simp) (by rw[←hv];exact rx) h2
 |f fn first cap=>
  cases fn with
  |func g=>
   injection hr with h1 h2;subst h1
   have rx':=rx;simp only[Rel] at rx'
   obtain⟨vs,ws,hv,_⟩:=rx'
   exact key _ hv (by simp) (by rw[←hv];exact rx) h2
  |_=>exact absurd (show R.no=.ok v h' from hr) (by simp)
 |ifc t z=>
  injection hr with h1 h2;subst h1
  have rx':=rx;simp only[Rel] at rx'
  obtain⟨u,hv,_⟩:=rx'
  exact key _ hv (by simp) (by rw[←hv];exact rx) h2
 |ag cs=>
  injection hr with h1 h2;subst h1
  have rx':=rx;simp only[Rel] at rx'
  obtain⟨_,vs,hv,_⟩:=rx'
  exact key _ hv (by simp) (by rw[←hv];exact rx) h2
 |tu cs=>
  injection hr with h1 h2;subst h1
  have rx':=rx;simp only[Rel] at rx'
  obtain⟨vs,hv,_⟩:=rx'
  exact key _ hv (by simp) (by rw[←hv];exact rx) h2
 |m i=>
  injection hr with h1 h2;subst h1
  have rx':=rx;simp only[Rel] at rx'
  exact key _ rx'.2 (by simp) (by rw[←rx'.2];exact rx) h2
 |j=>exact absurd (show R.no=.ok v h' from hr) (by simp)
theorem sound_fa {t:TypeId}{x:Operand}{f:Nat} (hs:St e) (hf:FrRel e fr a.tmps) (hg:GRel G e) (ho:o.op=.fieldAddr t x f)
 (hc:compOp P G (.fieldAddr t x f)=some ao) (hr:evOp call ao fr e.h id=.ok v h'):OpS P o e a v h':=by
 simp only[compOp] at hc
 obtain⟨d,hd,hc⟩:=bind_inv hc
 split at hc
 ·rename_i fs
  obtain⟨fl,hfl,hc⟩:=bind_inv hc
  obtain⟨n,hn,hc⟩:=bind_inv hc
  split at hc
  ·simp at hc
  ·rename_i hn0
   obtain⟨y,hy,rfl⟩:=map_inv hc
   have hr:faA (ev y fr) fl.offset e.h=.ok v h':=hr
   have rx:=od_rel hf hg hy
   have hplace:∀b off',(fieldPlace ⟨b,off',none⟩ fl).run P e.w=.ok ⟨b,off'+fl.offset,none⟩ e.w:=by
    intro b off'
    simp[fieldPlace,run_size hn,hn0,Addr.add_none]
   generalize hw:ev y fr=x' at hr rx
   cases x' with
   |p i off=>
    injection hr with h1 h2;subst h1 h2
    obtain⟨k,rx⟩:=rel_p rx
    refine OpS.same hs (cv:=.pointer (some ⟨(e.ρ i).1,(e.ρ i).2+off+fl.offset,none⟩)) ?_ (by simp only[Rel];exact⟨k,by rw[Nat.add_assoc];rfl⟩)
    simp[execOp,ho,Instr.fieldAt,run_underlying hd,hfl,rx,Instr.sureAddr,hplace]
   |ip ty y off=>
    injection hr with h1 h2;subst h1 h2
    simp only[Rel] at rx
    obtain⟨b,o',us,rx,hi,hcs⟩:=rx
    refine OpS.same hs (cv:=.pointer (some ⟨b,o'+off+fl.offset,none⟩)) ?_ (by simp only[Rel];exact⟨b,o',us,by rw[Nat.add_assoc];rfl,hi,hcs⟩)
    simp[execOp,ho,Instr.fieldAt,run_underlying hd,hfl,rx,Instr.sureAddr,hplace]
   |_=>exact absurd (show R.no=.ok v h' from hr) (by simp)
 ·simp at hc
theorem RelL.get:∀{xs:List AV}{vs:List Value}{j:Nat}{x:AV},RelL e xs vs→xs[j]? =some x→∃u,vs[j]? =some u∧Rel e x u
 |[],_,_,_,_,h=>by simp at h
 |y::ys,[],_,_,hr,_=>by simp[RelL] at hr
 |y::ys,u::us,0,x,hr,h=>by
  simp only[RelL] at hr
  simp only[List.getElem?_cons_zero,Oj] at h;subst h
  exact⟨u,rfl,hr.1⟩
 |y::ys,u::us,j+1,x,hr,h=>by
  simp only[RelL] at hr
  simpa using RelL.get hr.2 (by simpa using h)
theorem RelL.len:∀{xs:List AV}{vs:List Value},RelL e xs vs→vs.length=xs.length
 |[],[],_=>rfl
 |[],_::_,h=>by simp[RelL] at h
 |_::_,[],h=>by simp[RelL] at h
 |_::_,_::_,h=>by simp only[RelL] at h;simp[RelL.len h.2]
theorem sound_ext {x:Operand}{i:Nat} (hs:St e) (hf:FrRel e fr a.tmps) (hg:GRel G e) (ho:o.op=.extract x i)
 (hc:compOp P G (.extract x i)=some ao) (hr:evOp call ao fr e.h id=.ok v h'):OpS P o e a v h':=by
 simp only[compOp] at hc
 obtain⟨y,hy,rfl⟩:=map_inv hc
 have hr:extA (ev y fr) i e.h=.ok v h':=hr
 have rx:=od_rel hf hg hy
 generalize hw:ev y fr=x' at hr rx
 cases x' with
 |tu vs=>
  have hr:okV e.h (nth vs i)=.ok v h':=hr
  obtain⟨hq,rfl⟩:=okV_inv hr
  rw[nth_eq] at hq
  simp only[Rel] at rx
  obtain⟨us,hv,hl⟩:=rx
  obtain⟨u,hu,hru⟩:=RelL.get hl hq
  refine OpS.same hs (cv:=u) ?_ hru
  have hu':us[i]? =some u:=by simpa using hu
  simp[execOp,ho,Instr.extract,hv,hu']
 |_=>exact absurd (show R.no=.ok v h' from hr) (by simp)
theorem asN_inv {x:AV}{n:Nat} (h:asN x=some n):∃k,x=.i k (.ofNat n):=by
 cases x with
 |i k m=>
  cases m with
  |ofNat m=>exact⟨k,by rw[Oi (show some m=some n from h)]⟩
  |negSucc m=>exact absurd (show(none:Option Nat)=some n from h) (by simp)
 |_=>exact absurd (show(none:Option Nat)=some n from h) (by simp)
theorem run_indexAt_slice {t el:TypeId}{sz n cap i:Nat}{ad:Addr}{k:IntKind}{w:World} (hd:P.underlying t=some (.slice el)) (hsz:sizeOf? P el=some sz) (hlt:i<n):
 (Instr.indexAt t (.slice (some ad) n cap) (.int k (.ofNat i))).run P w=.ok (.pointer (some (ad.add (i*sz)))) w:=by
 have h1:(0:Int)≤J i∧J i<(n:Int):=by simp only[Ioz];omega
 simp only[Instr.indexAt,asIntOf,Sem.run_bind,Sem.run_pure,Result.andThen_ok,run_underlying hd,run_size hsz,h1,and_self,if_true]
 simp[run_size hsz]
theorem run_indexAt_array {t el:TypeId}{sz n i:Nat}{ad:Addr}{k:IntKind}{w:World} (hd:P.underlying t=some (.array n el)) (hsz:sizeOf? P el=some sz) (hlt:i<n):
 (Instr.indexAt t (.pointer (some ad)) (.int k (.ofNat i))).run P w=.ok (.pointer (some (ad.add (i*sz)))) w:=by
 have h1:(0:Int)≤J i∧J i<(n:Int):=by simp only[Ioz];omega
 simp only[Instr.indexAt,asIntOf,Sem.run_bind,Sem.run_pure,Result.andThen_ok,run_underlying hd,run_size hsz,Instr.sureAddr,h1,and_self,if_true]
 simp[run_size hsz]
theorem sound_ia {t:TypeId}{x ix:Operand} (hs:St e) (hf:FrRel e fr a.tmps) (hg:GRel G e) (ho:o.op=.indexAddr t x ix)
 (hc:compOp P G (.indexAddr t x ix)=some ao) (hr:evOp call ao fr e.h id=.ok v h'):OpS P o e a v h':=by
 simp only[compOp] at hc
 obtain⟨k,hk,hc⟩:=bind_inv hc
 obtain⟨y,hy,hc⟩:=bind_inv hc
 obtain⟨iy,hiy,rfl⟩:=map_inv hc
 have hr:(match asN (ev iy fr) with|some i=>okV e.h (indexA k (ev y fr) i)|none=>.no:R)=.ok v h':=hr
 have rx:=od_rel hf hg hy
 have ri:=od_rel hf hg hiy
 split at hr
 ·rename_i i hi
  obtain⟨kk,hi⟩:=asN_inv hi
  rw[hi] at ri
  have ri:=rel_i ri
  obtain⟨hq,rfl⟩:=okV_inv hr
  unfold skOf at hk
  obtain⟨d,hd,hk⟩:=bind_inv hk
  generalize hw:ev y fr=x' at hq rx
  split at hk
  ·simp only[Oj] at hk;subst hk
   cases x'<;>simp[indexA] at hq
  ·rename_i el
   obtain⟨sz,hsz,rfl⟩:=map_inv hk
   cases x' with
   |sl i' off sz' n lo ex=>
    have hq:cd (Nat.blt i n) (some (AV.p i' (Nat.add off (Nat.mul i sz)))) none=some v:=hq
    rw[cd_eq,blt_nat] at hq
    by_cases hlt:i<n
    ·simp only[hlt,decide_true,if_true,Oj] at hq;subst hq
     simp only[Rel] at rx
     obtain⟨kn,ad,cap,hv,h1,h2,h3,h4⟩:=rx
     rcases h4 with h4|⟨h4,h5⟩
     ·omega
     ·subst h4
      refine OpS.same hs (cv:=.pointer (some ⟨(e.ρ i').1,(e.ρ i').2+off+i*sz,none⟩)) ?_ (by simp only[Rel];exact⟨kn,by rw[Nat.add_assoc];rfl⟩)
      simp only[execOp,ho,ri,hv,Sem.run_bind,run_indexAt_slice hd hsz hlt,Result.andThen_ok,Sem.run_pure,Addr.add_none]
    ·simp[hlt] at hq
   |isl ty xs=>
    have hq:cd (Nat.beq sz (wd ty)) (Option.rec none (fun c=>some (AV.ip ty c 0)) (nth xs i):Option AV) none=some v:=hq
    rw[nth_eq,cd_eq,beq_nat] at hq
    by_cases hze:sz=wd ty
    case neg=>simp[hze] at hq
    subst hze
    simp only[decide_true,if_true] at hq
    cases hx:xs[i]? with
    |none=>rw[hx] at hq;exact absurd (show(none:Option AV)=some v from hq) (by simp)
    |some c=>
     rw[hx] at hq
     have hq:some (AV.ip ty c 0)=some v:=hq
     simp only[Oj] at hq;subst hq
     have hlt:i<xs.length:=(List.getElem?_eq_some_iff.1 hx).1
     rcases rel_isl.1 rx with ⟨h2,_⟩|⟨ad,cap,hv,h1,_,h2⟩
     ·subst h2;simp at hlt
     rcases h2 with h2|⟨hsp,hi2,hrw⟩
     ·subst h2;simp at hlt
     ·obtain⟨us,hcl,hcs⟩:=hrw i c hx
      have had:ad=⟨ad.block,ad.off,none⟩:=by cases ad;simp_all
      refine OpS.same hs (cv:=.pointer (some ⟨ad.block,ad.off+i*wd ty,none⟩)) ?_ (by simp only[Rel];exact⟨ad.block,ad.off+i*wd ty,us,rfl,hi2,hcl,hcs⟩)
      rw[had] at hv
      simp only[execOp,ho,ri,hv,Sem.run_bind,run_indexAt_slice hd hsz hlt,Result.andThen_ok,Sem.run_pure,Addr.add_none]
   |_=>exact absurd (show(none:Option AV)=some v from hq) (by simp)
  ·rename_i n el
   obtain⟨sz,hsz,rfl⟩:=map_inv hk
   cases x' with
   |p i' off=>
    have hq:cd (Nat.blt i n) (some (AV.p i' (Nat.add off (Nat.mul i sz)))) none=some v:=hq
    rw[cd_eq,blt_nat] at hq
    by_cases hlt:i<n
    ·simp only[hlt,decide_true,if_true,Oj] at hq;subst hq
     obtain⟨kn,rx⟩:=rel_p rx
     refine OpS.same hs (cv:=.pointer (some ⟨(e.ρ i').1,(e.ρ i').2+off+i*sz,none⟩)) ?_ (by simp only[Rel];exact⟨kn,by rw[Nat.add_assoc];rfl⟩)
     simp only[execOp,ho,ri,rx,Sem.run_bind,run_indexAt_array hd hsz hlt,Result.andThen_ok,Sem.run_pure,Addr.add_none]
    ·simp[hlt] at hq
   |ip ty y off=>
    have hq:cd (Nat.blt i n) (some (AV.ip ty y (Nat.add off (Nat.mul i sz)))) none=some v:=hq
    rw[cd_eq,blt_nat] at hq
    by_cases hlt:i<n
    ·simp only[hlt,decide_true,if_true,Oj] at hq;subst hq
     simp only[Rel] at rx
     obtain⟨b,o',us,rx,hi2,hcs⟩:=rx
     refine OpS.same hs (cv:=.pointer (some ⟨b,o'+off+i*sz,none⟩)) ?_ (by simp only[Rel];exact⟨b,o',us,by rw[Nat.add_assoc];rfl,hi2,hcs⟩)
     simp only[execOp,ho,ri,rx,Sem.run_bind,run_indexAt_array hd hsz hlt,Result.andThen_ok,Sem.run_pure,Addr.add_none]
    ·simp[hlt] at hq
   |_=>exact absurd (show(none:Option AV)=some v from hq) (by simp)
  ·simp at hk
 ·exact absurd hr (by simp)
end
end Go.Ev
namespace Go.Ev
theorem toNat_ofNat {c:Nat} (h:c<256):(UInt8.ofNat c).toNat=c:=by simp[UInt8.toNat_ofNat'];omega
theorem strOf_size (l:List Nat):(strOf l).size=l.length:=by simp[strOf,ByteArray.size]
theorem strOf_toList (l:List Nat):(strOf l).toList=l.map UInt8.ofNat:=by
 rw[ByteArray.toList_eq];simp[strOf]
theorem ofNat_inj {c d:Nat} (hc:c<256) (hd:d<256) (h:UInt8.ofNat c=UInt8.ofNat d):c=d:=by
 have:(UInt8.ofNat c).toNat=(UInt8.ofNat d).toNat:=by rw[h]
 simp[UInt8.toNat_ofNat'] at this;omega
theorem map_ofNat_inj:∀{l m:List Nat},(∀c∈l,c<256)→(∀c∈m,c<256)→l.map UInt8.ofNat=m.map UInt8.ofNat→l=m
 |[],[],_,_,_=>rfl
 |[],_::_,_,_,h=>by simp at h
 |_::_,[],_,_,h=>by simp at h
 |c::l,d::m,hl,hm,h=>by
  simp only[List.map_cons,List.cons.injEq] at h
  rw[ofNat_inj (hl c (by simp)) (hm d (by simp)) h.1,map_ofNat_inj (fun c hc=>hl c (by simp[hc])) (fun c hc=>hm c (by simp[hc])) h.2]
theorem strOf_eq_iff {l m:List Nat} (hl:∀c∈l,c<256) (hm:∀c∈m,c<256):((strOf l).toList==(strOf m).toList)=decide (l=m):=by
 rw[strOf_toList,strOf_toList]
 by_cases h:l=m
 ·subst h;simp
 ·have:¬l.map UInt8.ofNat=m.map UInt8.ofNat:=fun hh=>h (map_ofNat_inj hl hm hh)
  simp[h,this]
theorem strOf_lt:∀{l m:List Nat},(∀c∈l,c<256)→(∀c∈m,c<256)→Op.bytesLess (l.map UInt8.ofNat) (m.map UInt8.ofNat)=sLt l m
 |[],[],_,_=>rfl
 |[],_::_,_,_=>rfl
 |_::_,[],_,_=>rfl
 |c::l,d::m,hl,hm=>by
  have hc:=hl c (by simp)
  have hd:=hm d (by simp)
  have ih:=strOf_lt (l:=l) (m:=m) (fun c hc=>hl c (by simp[hc])) (fun c hc=>hm c (by simp[hc]))
  show(decide (UInt8.ofNat c<UInt8.ofNat d)||(UInt8.ofNat c==UInt8.ofNat d&&Op.bytesLess (l.map UInt8.ofNat) (m.map UInt8.ofNat)))=cd (Nat.blt c d) true (cd (Nat.beq c d) (sLt l m) false)
  rw[cd_eq,cd_eq,beq_nat,blt_nat,ih]
  have h1:(UInt8.ofNat c<UInt8.ofNat d)↔c<d:=by
   rw[UInt8.lt_iff_toNat_lt,toNat_ofNat hc,toNat_ofNat hd]
  have h2:(UInt8.ofNat c==UInt8.ofNat d)=decide (c=d):=by
   by_cases h:c=d
   ·subst h;simp
   ·have:¬UInt8.ofNat c=UInt8.ofNat d:=fun hh=>h (ofNat_inj hc hd hh)
    simp[h,this]
  rw[h2]
  by_cases hlt:c<d<;>by_cases heq:c=d<;>simp[h1,hlt,heq]
theorem strOf_append (l m:List Nat):strOf l++strOf m=strOf (l++m):=by
 apply ByteArray.ext
 simp[strOf]
theorem strOf_extract (l:List Nat) (b n:Nat) (h:b+n≤l.length):(strOf l).extract b (b+n)=strOf ((l.drop b).take n):=by
 apply ByteArray.ext
 simp only[strOf,ByteArray.data_extract]
 apply Array.ext'
 simp[List.map_take,List.map_drop]
theorem strOf_get (l:List Nat) (i:Nat):(strOf l)[i]? =(l[i]?).map UInt8.ofNat:=by
 by_cases h:i<l.length
 ·rw[getElem?_pos _ _ (by rw[strOf_size];exact h)]
  simp[strOf,ByteArray.getElem_eq_getElem_data,Lq h]
 ·rw[getElem?_neg _ _ (by rw[strOf_size];exact h)]
  simp[Lz (Nat.le_of_not_lt h)]
section
variable {P:Program}{G:Gs}{o:Oper}{e:Env}{a:Act}{fr:T AV}{call:CallF}{id:Nat}{ao:AOp}{v:AV}{h':H}
theorem sound_index {t:TypeId}{x ix:Operand} (hs:St e) (hf:FrRel e fr a.tmps) (hg:GRel G e) (ho:o.op=.index t x ix)
 (hc:compOp P G (.index t x ix)=some ao) (hr:evOp call ao fr e.h id=.ok v h'):OpS P o e a v h':=by
 simp only[compOp] at hc
 obtain⟨y,hy,hc⟩:=bind_inv hc
 obtain⟨iy,hiy,hc⟩:=bind_inv hc
 obtain⟨d,hd,hc⟩:=bind_inv hc
 have rx:=od_rel hf hg hy
 have ri:=od_rel hf hg hiy
 split at hc
 ·simp only[Oj] at hc;subst hc
  have hr:(Option.rec .no (fun i=>ixsA (ev y fr) i e.h) (asN (ev iy fr)):R)=.ok v h':=hr
  cases hi:asN (ev iy fr) with
  |none=>rw[hi] at hr;exact absurd (show R.no=.ok v h' from hr) (by simp)
  |some i=>
   rw[hi] at hr
   have hr:ixsA (ev y fr) i e.h=.ok v h':=hr
   obtain⟨kk,hi⟩:=asN_inv hi
   rw[hi] at ri
   have ri:=rel_i ri
   generalize hw:ev y fr=x' at hr rx
   cases x' with
   |s n l=>
    have hr:(Option.rec .no (fun c=>.ok (.i .u8 (.ofNat c)) e.h) (nth l i):R)=.ok v h':=hr
    rw[nth_eq] at hr
    cases hl:l[i]? with
    |none=>rw[hl] at hr;exact absurd (show R.no=.ok v h' from hr) (by simp)
    |some c=>
     rw[hl] at hr
     have hr:R.ok (.i .u8 (.ofNat c)) e.h=.ok v h':=hr
     injection hr with h1 h2;subst h1 h2
     obtain⟨_,h256,rx⟩:=rel_s rx
     refine OpS.same hs (cv:=.int .u8 (.ofNat c)) ?_ (by simp[Rel])
     have hc:c<256:=h256 c (List.mem_of_getElem? hl)
     have hget:(strOf l)[i]? =some (UInt8.ofNat c):=by rw[strOf_get,hl];rfl
     simp[execOp,ho,Instr.index,run_underlying hd,ri,asIntOf,rx,hget,toNat_ofNat hc]
   |_=>exact absurd (show R.no=.ok v h' from hr) (by simp)
 ·simp at hc
theorem sound_cvi {s d:TypeId}{x:Operand}{k ks:IntKind}{y:Od} (hs:St e) (hf:FrRel e fr a.tmps) (hg:GRel G e) (ho:o.op=.convert s d x)
 (hy:od G x=some y) (hS:P.underlying s=some (.int ks)) (hD:P.underlying d=some (.int k)) (hr:evOp call (.cvi k y) fr e.h id=.ok v h'):OpS P o e a v h':=by
 have hr:(match ev y fr with|.i _ n=>.ok (.i k (wr k n)) e.h|_=>.no:R)=.ok v h':=hr
 have rx:=od_rel hf hg hy
 split at hr
 ·rename_i k' n hn
  rw[hn] at rx
  have rx:=rel_i rx
  injection hr with h1 h2;subst h1 h2
  refine OpS.same hs (cv:=.int k (k.wrap n)) ?_ (by simp[Rel,wr_eq])
  simp[execOp,ho,convert,run_underlying hS,run_underlying hD,rx,Conv.intToInt]
 ·exact absurd hr (by simp)
theorem sound_un {op:UnOp}{t:TypeId}{x:Operand} (hs:St e) (hf:FrRel e fr a.tmps) (hg:GRel G e) (ho:o.op=.unOp op t x)
 (hc:compOp P G (.unOp op t x)=some ao) (hr:evOp call ao fr e.h id=.ok v h'):OpS P o e a v h':=by
 simp only[compOp] at hc
 obtain⟨y,hy,rfl⟩:=map_inv hc
 have hr:okV e.h (unA op (ev y fr))=.ok v h':=hr
 have rx:=od_rel hf hg hy
 obtain⟨hq,rfl⟩:=okV_inv hr
 generalize ev y fr=x' at hq rx
 cases op<;>cases x'<;>(try (cases hq;done))
 ·rename_i k n
  have rx:=rel_i rx
  obtain rfl:=Oi (show some _=some v from hq)
  refine OpS.same hs (cv:=.int k (k.wrap (0 - n))) ?_ (by simp only[Rel,wr_eq];rfl)
  simp[execOp,ho,Op.unary,rx,Op.intArith]
 ·rename_i k n
  have rx:=rel_i rx
  have hq:some (AV.i k (k.wrap (BitVec.ofInt k.bits (if k.signed then -1 else k.max) ^^^ BitVec.ofInt k.bits n).toNat))=some v:=hq
  simp only[Oj] at hq;subst hq
  refine OpS.same hs (cv:=.int k (k.wrap (BitVec.ofInt k.bits (if k.signed then -1 else k.max) ^^^ BitVec.ofInt k.bits n).toNat)) ?_ (by simp[Rel])
  simp[execOp,ho,Op.unary,rx,Op.intBits]
 ·rename_i b
  have rx:=rel_b rx
  obtain rfl:=Oi (show some _=some v from hq)
  refine OpS.same hs (cv:=.bool (!b)) ?_ (by simp[Rel])
  simp[execOp,ho,Op.unary,rx]
theorem run_eqGuard_int (op:BinOp) (t:TypeId) (x y:Operand) (k k':IntKind) (m n:Int) (w:World):(eqGuard op t x y (.int k m) (.int k' n)).run P w=.ok () w:=by
 unfold eqGuard;split<;>simp
theorem run_eqGuard_str (op:BinOp) (t:TypeId) (x y:Operand) (m n:ByteArray) (w:World):(eqGuard op t x y (.string m) (.string n)).run P w=.ok () w:=by
 unfold eqGuard;split<;>simp
theorem run_eqGuard_bool (op:BinOp) (t:TypeId) (x y:Operand) (m n:Bool) (w:World):(eqGuard op t x y (.bool m) (.bool n)).run P w=.ok () w:=by
 unfold eqGuard;split<;>simp
theorem run_binI (op:BinOp) (t:TypeId) (k:IntKind) (m n:Int) (r:AV) (hsh:isSh op=false) (h:binI op k m n=some r) (w:World):
 ∃cv,(binOp op t (.int k m) (.int k n)).run P w=.ok cv w∧∀e,Rel e r cv:=by
 cases op with
 |add=>obtain rfl:=Oi (show some _=some r from h);exact⟨.int k (k.wrap (m+n)),by simp[binOp,Op.intArith],fun e=>by simp[Rel,wr_eq]⟩
 |sub=>obtain rfl:=Oi (show some _=some r from h);exact⟨.int k (k.wrap (m - n)),by simp[binOp,Op.intArith],fun e=>by simp[Rel,wr_eq]⟩
 |mul=>obtain rfl:=Oi (show some _=some r from h);exact⟨.int k (k.wrap (m*n)),by simp[binOp,Op.intArith],fun e=>by simp[Rel,wr_eq]⟩
 |quo=>
  have h:cd (iEq n (J 0)) none (some (AV.i k (wr k (m.tdiv n))))=some r:=h
  rw[cd_eq,iEq_eq] at h
  by_cases hn:n=0
  ·subst hn;simp at h
  ·have hn':¬n=J 0:=hn
   simp only[hn',decide_false,Bool.false_eq_true,if_false,Oj] at h;subst h
   exact⟨.int k (k.wrap (m.tdiv n)),by simp[binOp,Op.intDiv,hn],fun e=>by simp[Rel,wr_eq]⟩
 |rem=>
  have h:cd (iEq n (J 0)) none (some (AV.i k (m.tmod n)))=some r:=h
  rw[cd_eq,iEq_eq] at h
  by_cases hn:n=0
  ·subst hn;simp at h
  ·have hn':¬n=J 0:=hn
   simp only[hn',decide_false,Bool.false_eq_true,if_false,Oj] at h;subst h
   exact⟨.int k (m.tmod n),by simp[binOp,Op.intDiv,hn],fun e=>by simp[Rel]⟩
 |and=>obtain rfl:=Oi (show some _=some r from h);exact⟨_,by simp only[binOp,ne_eq,not_true_eq_false,if_false,Op.intBits,Sem.run_pure];rfl,fun e=>by simp[Rel]⟩
 |or=>obtain rfl:=Oi (show some _=some r from h);exact⟨_,by simp only[binOp,ne_eq,not_true_eq_false,if_false,Op.intBits,Sem.run_pure];rfl,fun e=>by simp[Rel]⟩
 |xor=>obtain rfl:=Oi (show some _=some r from h);exact⟨_,by simp only[binOp,ne_eq,not_true_eq_false,if_false,Op.intBits,Sem.run_pure];rfl,fun e=>by simp[Rel]⟩
 |andNot=>obtain rfl:=Oi (show some _=some r from h);exact⟨_,by simp only[binOp,ne_eq,not_true_eq_false,if_false,Op.intBits,Sem.run_pure];rfl,fun e=>by simp[Rel]⟩
 |shl=>exact absurd hsh (by decide)
 |shr=>exact absurd hsh (by decide)
 |eql=>obtain rfl:=Oi (show some _=some r from h);exact⟨.bool (m==n),by simp[binOp,Op.intCmp],fun e=>by simp only[Rel,iEq_eq];rfl⟩
 |neq=>obtain rfl:=Oi (show some _=some r from h);exact⟨.bool (m !=n),by simp[binOp,Op.intCmp],fun e=>by simp only[Rel,iEq_eq];rfl⟩
 |lss=>obtain rfl:=Oi (show some _=some r from h);exact⟨.bool (m<n),by simp[binOp,Op.intCmp],fun e=>by simp only[Rel,iLe_eq];congr 1;by_cases h:m<n<;>simp[h]<;>omega⟩
 |leq=>obtain rfl:=Oi (show some _=some r from h);exact⟨.bool (m≤n),by simp[binOp,Op.intCmp],fun e=>by simp only[Rel,iLe_eq]⟩
 |gtr=>obtain rfl:=Oi (show some _=some r from h);exact⟨.bool (m>n),by simp[binOp,Op.intCmp],fun e=>by simp only[Rel,iLe_eq];congr 1;by_cases h:m>n<;>simp[h]<;>omega⟩
 |geq=>obtain rfl:=Oi (show some _=some r from h);exact⟨.bool (m≥n),by simp[binOp,Op.intCmp],fun e=>by simp only[Rel,iLe_eq]⟩
end
end Go.Ev
end
noncomputable section
namespace Go.Ev
section
variable {P:Program}{G:Gs}{o:Oper}{e:Env}{a:Act}{fr:T AV}{call:CallF}{id:Nat}{ao:AOp}{v:AV}{h':H}
theorem run_binS (op:BinOp) (t:TypeId){n m:Nat}{l l':List Nat}{r:AV} (hn:n=l.length) (hm:m=l'.length) (h1:∀c∈l,c<256) (h2:∀c∈l',c<256)
 (h:binS op n l m l'=some r) (w:World):
 ∃cv,(binOp op t (.string (strOf l)) (.string (strOf l'))).run P w=.ok cv w∧∀e,Rel e r cv:=by
 have hlt:Op.bytesLess (strOf l).toList (strOf l').toList=sLt l l':=by rw[strOf_toList,strOf_toList];exact strOf_lt h1 h2
 have heq:=strOf_eq_iff h1 h2
 cases op with
 |add=>
  have h:cd (Nat.ble (Nat.add n m) 1099511627776) (some (AV.s (Nat.add n m) (cat l l'))) none=some r:=h
  rw[cd_eq,ble_nat] at h
  by_cases hb:Nat.add n m≤1099511627776
  case neg=>rw[Df hb] at h;cases h
  rw[Dt hb] at h
  obtain rfl:=Oi (show some _=some r from h)
  have hsum:l.length+l'.length≤1099511627776:=by subst hn hm;exact hb
  refine⟨.string (strOf l++strOf l'),?_,fun e=>?_⟩
  ·have hmax:¬(((strOf l).size+(strOf l').size:Nat):Int)>IntKind.i64.max:=by
    rw[strOf_size,strOf_size]
    have:IntKind.i64.max=9223372036854775807:=rfl
    omega
   simp only[binOp,Op.stringOp,if_neg hmax,Sem.run_pure]
  ·simp only[Rel,cat_eq]
   refine⟨⟨?_,by have hb:Nat.add n m≤1099511627776:=hb;omega⟩,?_,by rw[strOf_append]⟩
   ·subst hn hm;simp
   ·intro c hc
    rcases List.mem_append.1 hc with hc|hc
    ·exact h1 c hc
    ·exact h2 c hc
 |eql=>obtain rfl:=Oi (show some _=some r from h);exact⟨_,by simp only[binOp,Op.stringOp,Sem.run_pure];rfl,fun e=>by simp only[Rel,heq,sEq_eq]⟩
 |neq=>obtain rfl:=Oi (show some _=some r from h);exact⟨_,by simp only[binOp,Op.stringOp,Sem.run_pure];rfl,fun e=>by simp only[Rel,heq,sEq_eq]⟩
 |lss=>obtain rfl:=Oi (show some _=some r from h);exact⟨_,by simp only[binOp,Op.stringOp,Sem.run_pure];rfl,fun e=>by simp only[Rel,hlt]⟩
 |leq=>obtain rfl:=Oi (show some _=some r from h);exact⟨_,by simp only[binOp,Op.stringOp,Sem.run_pure];rfl,fun e=>by simp only[Rel,hlt,heq,cd_eq,sEq_eq];cases sLt l l'<;>simp⟩
 |gtr=>obtain rfl:=Oi (show some _=some r from h);exact⟨_,by simp only[binOp,Op.stringOp,Sem.run_pure];rfl,fun e=>by simp only[Rel,hlt,heq,cd_eq,sEq_eq];cases sLt l l'<;>simp⟩
 |geq=>obtain rfl:=Oi (show some _=some r from h);exact⟨_,by simp only[binOp,Op.stringOp,Sem.run_pure];rfl,fun e=>by simp only[Rel,hlt]⟩
 |_=>cases h
theorem run_shI (op:BinOp) (t:TypeId) (k k':IntKind) (m n:Int) (r:AV) (h:shI op k m n=some r) (w:World):
 ∃cv,(binOp op t (.int k m) (.int k' n)).run P w=.ok cv w∧∀e,Rel e r cv:=by
 cases n with
 |negSucc n=>cases op<;>cases h
 |ofNat n=>
  cases op<;>(try (cases h;done))
  ·obtain rfl:=Oi (show some _=some r from h)
   refine⟨.int k (k.wrap (m*2 ^ (min n k.bits))),?_,fun e=>by simp[Rel]⟩
   have:¬(J n:Int)<0:=by simp
   simp only[binOp,Op.shift,this,if_false,Sem.run_pure]
   rfl
  ·obtain rfl:=Oi (show some _=some r from h)
   refine⟨.int k (m.fdiv (2 ^ (min n k.bits))),?_,fun e=>by simp[Rel]⟩
   have:¬(J n:Int)<0:=by simp
   simp only[binOp,Op.shift,this,if_false,Sem.run_pure]
   rfl
theorem sound_binNum {op:BinOp}{t t':TypeId}{x y:Operand}{x' y':Od} (hs:St e) (hf:FrRel e fr a.tmps) (hg:GRel G e) (ho:o.op=.binOp op t x y t')
 (hx:od G x=some x') (hy:od G y=some y') (hr:evOp call (.bin op x' y') fr e.h id=.ok v h'):OpS P o e a v h':=by
 have hr:okV e.h (binA op (ev x' fr) (ev y' fr))=.ok v h':=hr
 have rx:=od_rel hf hg hx
 have ry:=od_rel hf hg hy
 obtain⟨hq,rfl⟩:=okV_inv hr
 generalize ev x' fr=u at hq rx
 generalize ev y' fr=u' at hq ry
 cases u<;>(try (cases hq;done))
 ·rename_i k m
  cases u'<;>(try (cases hq;done))
  rename_i k' n
  have hq:cd (isSh op) (shI op k m n) (cd (kEq k k') (binI op k m n) none)=some v:=hq
  rw[cd_eq,cd_eq,kEq_eq] at hq
  have rx:=rel_i rx
  have ry:=rel_i ry
  by_cases hsh:isSh op=true
  ·rw[if_pos hsh] at hq
   obtain⟨cv,hrun,hrel⟩:=run_shI (P:=P) op t k k' m n v hq e.w
   refine OpS.same hs (cv:=cv) ?_ (hrel e)
   simp only[execOp,ho,rx,ry,Sem.run_bind,run_eqGuard_int,Result.andThen_ok,hrun,Sem.run_pure]
  ·rw[if_neg hsh] at hq
   by_cases hk:k=k'
   ·subst hk
    simp only[decide_true,if_true] at hq
    obtain⟨cv,hrun,hrel⟩:=run_binI (P:=P) op t k m n v (by simpa using hsh) hq e.w
    refine OpS.same hs (cv:=cv) ?_ (hrel e)
    simp only[execOp,ho,rx,ry,Sem.run_bind,run_eqGuard_int,Result.andThen_ok,hrun,Sem.run_pure]
   ·simp[hk] at hq
 ·rename_i n l
  cases u'<;>(try (cases hq;done))
  rename_i m l'
  have hq:binS op n l m l'=some v:=hq
  obtain⟨hn,h1,rx⟩:=rel_s rx
  obtain⟨hm,h2,ry⟩:=rel_s ry
  obtain⟨cv,hrun,hrel⟩:=run_binS (P:=P) op t hn hm h1 h2 hq e.w
  refine OpS.same hs (cv:=cv) ?_ (hrel e)
  simp only[execOp,ho,rx,ry,Sem.run_bind,run_eqGuard_str,Result.andThen_ok,hrun,Sem.run_pure]
theorem isEq_inv {op:BinOp}{neg:Bool} (h:isEq op=some neg):(op=.eql∧neg=false)∨(op=.neq∧neg=true):=by
 cases op<;>simp[isEq] at h<;>simp[h]
theorem sound_eqb {op:BinOp}{t t':TypeId}{x y:Operand}{x' y':Od}{neg:Bool} (hs:St e) (hf:FrRel e fr a.tmps) (hg:GRel G e) (ho:o.op=.binOp op t x y t')
 (hx:od G x=some x') (hy:od G y=some y') (hn:isEq op=some neg) (hd:P.underlying t=some .bool) (hr:evOp call (.o2 (.eqb neg x' y')) fr e.h id=.ok v h'):OpS P o e a v h':=by
 have hr:(match ev x' fr,ev y' fr with
  |.b x,.b y=>.ok (.b (cd neg (!cd x y (!y)) (cd x y (!y)))) e.h
  |_,_=>.no:R)=.ok v h':=hr
 have rx:=od_rel hf hg hx
 have ry:=od_rel hf hg hy
 split at hr
 ·rename_i b c hb hc
  rw[hb] at rx;rw[hc] at ry
  have rx:=rel_b rx
  have ry:=rel_b ry
  injection hr with h1 h2;subst h1 h2
  have hcd:cd b c (!c)=(b==c):=by cases b<;>cases c<;>rfl
  rcases isEq_inv hn with ⟨rfl,rfl⟩|⟨rfl,rfl⟩
  ·refine OpS.same hs (cv:=.bool (b==c)) ?_ (by simp only[Rel];rw[hcd];rfl)
   simp only[execOp,ho,rx,ry,Sem.run_bind,run_eqGuard_bool,Result.andThen_ok,run_eql_bool e.w t b c hd,Sem.run_pure]
  ·refine OpS.same hs (cv:=.bool (!(b==c))) ?_ (by simp only[Rel];rw[hcd];rfl)
   simp only[execOp,ho,rx,ry,Sem.run_bind,run_eqGuard_bool,Result.andThen_ok,run_neq_bool e.w t b c hd,Sem.run_pure]
 ·exact absurd hr (by simp)
theorem sound_mkif {t:TypeId}{x:Operand} (hs:St e) (hf:FrRel e fr a.tmps) (hg:GRel G e) (ho:o.op=.makeInterface t x)
 (hc:compOp P G (.makeInterface t x)=some ao) (hr:evOp call ao fr e.h id=.ok v h'):OpS P o e a v h':=by
 simp only[compOp] at hc
 obtain⟨d,hd,hc⟩:=bind_inv hc
 split at hc
 ·simp at hc
 ·rename_i hni
  obtain⟨y,hy,rfl⟩:=map_inv hc
  have hr:R.ok (.ifc t (ev y fr)) e.h=.ok v h':=hr
  injection hr with h1 h2;subst h1 h2
  refine OpS.same hs (cv:=.iface t (a.eval x)) ?_ (by simp only[Rel];exact⟨_,rfl,od_rel hf hg hy⟩)
  have:(Instr.makeInterface t (a.eval x)).run P e.w=.ok (.iface t (a.eval x)) e.w:=by
   cases d<;>first|(exact absurd rfl (hni _))|simp[Instr.makeInterface,run_underlying hd]
  simp[execOp,ho,this]
theorem sound_mkfn {fn:Fn}{xs ys:Array Operand} (hs:St e) (hf:FrRel e fr a.tmps) (hg:GRel G e) (ho:o.op=.makeFunc fn xs ys)
 (hc:compOp P G (.makeFunc fn xs ys)=some ao) (hr:evOp call ao fr e.h id=.ok v h'):OpS P o e a v h':=by
 simp only[compOp] at hc
 obtain⟨xs',hx,hc⟩:=bind_inv hc
 obtain⟨ys',hy,rfl⟩:=map_inv hc
 have hr:R.ok (.f fn (evs xs' fr) (evs ys' fr)) e.h=.ok v h':=hr
 injection hr with h1 h2;subst h1 h2
 refine OpS.same hs (cv:=.func fn (xs.map a.eval) (ys.map a.eval)) ?_ ?_
 ·simp[execOp,ho,Instr.makeFunc]
 ·simp only[Rel]
  exact⟨_,_,rfl,by simpa using ods_rel hf hg hx,by simpa using ods_rel hf hg hy⟩
theorem RelL.cut:∀{xs:List AV}{vs:List Value} (off n:Nat){r:List AV},RelL e xs vs→cut xs off n=some r→RelL e r ((vs.drop off).take n):=by
 intro xs vs off n r hl hc
 obtain⟨hlen,hget⟩:=cut_get hc
 have hle:=hl.len
 obtain⟨us,h1,h2,h3⟩:=relL_of (e:=e) r (fun j=>vs[off+j]?) (fun j y hy=>by
  have hj:j<n:=by rw[←hlen];exact(List.getElem?_eq_some_iff.1 hy).1
  rw[hget j hj] at hy
  exact hl.get hy)
 have:us=(vs.drop off).take n:=by
  apply List.ext_getElem?
  intro j
  by_cases hj:j<n
  ·rw[List.getElem?_take_of_lt hj,List.getElem?_drop]
   have hju:j<us.length:=om
   rw[Lq hju]
   exact(h3 j _ (Lq hju)).symm
  ·rw[Lz om,Lz (by simp;omega)]
 rw[←this];exact h1
end
end Go.Ev
namespace Go.Ev
def nilV:NK→Value
 |.sli=>.slice none 0 0
 |.ptr=>.pointer none
 |.map=>.map none
 |.fn=>.nilFunc
 |.ifc=>.nilIface
def NonNil:NK→Value→Prop
 |.sli,v=>∃a n c,v=.slice (some a) n c
 |.ptr,v=>∃a,v=.pointer (some a)
 |.map,v=>∃a,v=.map (some a)
 |.fn,v=>∃f x y,v=.func f x y
 |.ifc,v=>∃t x,v=.iface t x
def KindOf:NK→TypeDesc→Prop
 |.sli,d=>∃e,d=.slice e
 |.ptr,d=>∃e,d=.pointer e
 |.map,d=>∃k e,d=.map k e
 |.fn,d=>∃x y z,d=.func x y z
 |.ifc,d=>∃ms,d=.interface ms
section
variable {P:Program}{G:Gs}{o:Oper}{e:Env}{a:Act}{fr:T AV}{call:CallF}{id:Nat}{ao:AOp}{v:AV}{h':H}
theorem cd_some {α:Type}{b:Bool}{x:Option α}{y:α} (h:cd b x none=some y):b=true∧x=some y:=by
 cases b with
 |false=>cases h
 |true=>exact⟨rfl,h⟩
theorem isNil_inv {k:NK}{x:AV}{cv:Value}{b:Bool} (hr:Rel e x cv) (h:isNil k x=some b):(b=true→cv=nilV k)∧(b=false→NonNil k cv):=by
 unfold isNil at h
 split at h<;>first
  |(cases h;done)
  |(obtain⟨hb0,h⟩:=cd_some h
    obtain rfl:=Oi h
    simp only[Rel] at hr
    refine⟨fun hb=>absurd hb (by simp),fun _=>?_⟩
    obtain⟨_,ad,cap,hv,h1,h2,h3,h4⟩:=hr
    have h5:=Nb hb0
    rcases h4 with h4|⟨h4,_⟩
    ·omega
    ·subst h4;exact⟨_,_,_,hv⟩)
  |(obtain rfl:=Oi h
    simp only[Rel] at hr
    refine⟨fun _=>hr.1,fun hb=>absurd hb (by simp)⟩)
  |(obtain rfl:=Oi h
    have hr0:=hr
    simp only[Rel] at hr
    refine⟨fun hb=>absurd hb (by simp),fun _=>?_⟩
    first
     |exact⟨_,_,_,hr.1⟩
     |(rcases rel_isl.1 hr0 with ⟨h0,_⟩|⟨ad,cap,hv,_⟩<;>first|(cases h0;done)|exact⟨_,_,_,hv⟩)
     |(obtain⟨_,ad,cap,hv,_⟩:=hr;exact⟨_,_,_,hv⟩)
     |(obtain⟨ad,cap,hv,_⟩:=hr;exact⟨_,_,_,hv⟩)
     |(obtain⟨ad,hv⟩:=hr;exact⟨_,_,_,hv⟩)
     |(obtain⟨_,hv⟩:=hr;exact⟨_,hv⟩)
     |(obtain⟨b,o',us,hv,_⟩:=hr;exact⟨_,hv⟩)
     |(obtain⟨b,o',hv,_⟩:=hr;exact⟨_,hv⟩)
     |(obtain⟨vs,ws,hv,_⟩:=hr;exact⟨_,_,_,hv⟩)
     |(obtain⟨u,hv,_⟩:=hr;exact⟨_,_,hv⟩))
theorem run_eq_nil {k:NK}{t:TypeId}{d:TypeDesc} (hd:P.underlying t=some d) (hk:KindOf k d) (w:World) (n:Nat):
 ((Op.equalIn (n+1) t (nilV k) (nilV k)).run P w=.ok true w)∧(∀u,NonNil k u→(Op.equalIn (n+1) t (nilV k) u).run P w=.ok false w∧(Op.equalIn (n+1) t u (nilV k)).run P w=.ok false w):=by
 cases k<;>simp only[KindOf] at hk
 ·obtain⟨el,rfl⟩:=hk
  refine⟨by simp[Op.equalIn,nilV,run_underlying hd],fun u hu=>?_⟩
  obtain⟨ad,m,c,rfl⟩:=hu
  constructor<;>simp[Op.equalIn,nilV,run_underlying hd]
 ·obtain⟨el,rfl⟩:=hk
  refine⟨by simp[Op.equalIn,nilV,run_underlying hd],fun u hu=>?_⟩
  obtain⟨ad,rfl⟩:=hu
  constructor<;>simp[Op.equalIn,nilV,run_underlying hd]
 ·obtain⟨k,el,rfl⟩:=hk
  refine⟨by simp[Op.equalIn,nilV,run_underlying hd],fun u hu=>?_⟩
  obtain⟨ad,rfl⟩:=hu
  constructor<;>simp[Op.equalIn,nilV,run_underlying hd]
 ·obtain⟨x,y,z,rfl⟩:=hk
  refine⟨by simp[Op.equalIn,nilV,run_underlying hd],fun u hu=>?_⟩
  obtain⟨f,x',y',rfl⟩:=hu
  constructor<;>simp[Op.equalIn,nilV,run_underlying hd]
 ·obtain⟨ms,rfl⟩:=hk
  refine⟨by simp[Op.equalIn,nilV,run_underlying hd],fun u hu=>?_⟩
  obtain⟨t',x',rfl⟩:=hu
  constructor<;>simp[Op.equalIn,nilV,run_underlying hd]
theorem run_eq_same {t el:TypeId}{n:Nat} (hd:P.underlying t=some (.pointer el)) (hn:sizeOf? P el=some n) (h0:n≠0) (b o1 o2:Nat) (w:World) (m:Nat):
 (Op.equalIn (m+1) t (.pointer (some ⟨b,o1,none⟩)) (.pointer (some ⟨b,o2,none⟩))).run P w=.ok (decide (o1=o2)) w:=by
 have hb:((⟨b,o1,none⟩:Addr)==⟨b,o2,none⟩)=decide (o1=o2):=by
  by_cases h:o1=o2<;>simp[h]
 simp[Op.equalIn,run_underlying hd,run_size hn,h0,sameAddr,hb]
theorem eqN_inv {k:NK}{x y:AV}{b:Bool} (h:eqN k x y=some b):
 (∃i off off',k=.ptr∧x=.p i off∧y=.p i off'∧b=decide (off=off'))∨
 (isNil k x=some true∧isNil k y=some b)∨(isNil k x=some b∧isNil k y=some true):=by
 unfold eqN at h
 split at h
 ·rename_i i off j off'
  rw[cd_eq,idEq_eq,beq_nat] at h
  by_cases hij:i=j
  ·subst hij
   simp only[decide_true,if_true,Oj] at h
   exact .inl ⟨i,off,off',rfl,rfl,rfl,h.symm⟩
  ·simp[hij] at h
 ·right
  split at h
  ·rename_i r hx hy
   obtain rfl:=Oi h
   exact .inl ⟨hx,hy⟩
  ·rename_i r hx hy
   obtain rfl:=Oi h
   exact .inr ⟨hx,hy⟩
  ·cases h
def Plainish:Value→Prop
 |.pointer _|.slice _ _ _|.map _|.func _ _ _|.nilFunc|.iface _ _|.nilIface=>True
 |_=>False
theorem plain_nil (k:NK):Plainish (nilV k):=by cases k<;>trivial
theorem plain_non {k:NK}{u:Value} (h:NonNil k u):Plainish u:=by
 cases k<;>simp only[NonNil] at h
 ·obtain⟨_,_,_,rfl⟩:=h;trivial
 ·obtain⟨_,rfl⟩:=h;trivial
 ·obtain⟨_,rfl⟩:=h;trivial
 ·obtain⟨_,_,_,rfl⟩:=h;trivial
 ·obtain⟨_,_,rfl⟩:=h;trivial
theorem run_eqGuard_plain (op:BinOp) (t:TypeId) (x y:Operand){u u':Value} (hu:Plainish u) (hu':Plainish u') (hc:u=.nilIface→u'=.nilIface→(isConstO x||isConstO y)=true) (w:World):
 (eqGuard op t x y u u').run P w=.ok () w:=by
 have hcon:∀(hu0:u=.nilIface) (hu0':u'=.nilIface),((match x with|.const _=>true|_=>false)||(match y with|.const _=>true|_=>false))=true:=by
  intro h1 h2
  have hc:=hc h1 h2
  cases x<;>cases y<;>simp_all [isConstO]
 cases op<;>first
  |rfl
  |(cases u<;>simp only[Plainish] at hu<;>cases u'<;>simp only[Plainish] at hu'<;>first
   |rfl
   |(have h:=hcon rfl rfl
     cases x<;>cases y<;>first
      |rfl
      |(simp at h;done)))
theorem run_binOp_eq {op:BinOp}{neg:Bool} (hn:isEq op=some neg) (t:TypeId){u u':Value} (hu:Plainish u) (hu':Plainish u'){b:Bool} (w:World)
 (hr:(Op.equalIn (9999+1) t u u').run P w=.ok b w):(binOp op t u u').run P w=.ok (.bool (cd neg (!b) b)) w:=by
 have hr':(Op.equal t u u').run P w=.ok b w:=hr
 rcases isEq_inv hn with ⟨rfl,rfl⟩|⟨rfl,rfl⟩
 ·have:binOp .eql t u u'=(do pure (.bool (←Op.equal t u u'))):=by
   cases u<;>simp only[Plainish] at hu<;>cases u'<;>simp only[Plainish] at hu'<;>rfl
  rw[this];simp[hr',cd_eq]
 ·have:binOp .neq t u u'=(do pure (.bool (!(←Op.equal t u u')))):=by
   cases u<;>simp only[Plainish] at hu<;>cases u'<;>simp only[Plainish] at hu'<;>rfl
  rw[this];simp[hr',cd_eq]
theorem sound_eqn {op:BinOp}{t t':TypeId}{x y:Operand}{x' y':Od}{neg:Bool}{k:NK}{d:TypeDesc} (hs:St e) (hf:FrRel e fr a.tmps) (hg:GRel G e) (ho:o.op=.binOp op t x y t')
 (hx:od G x=some x') (hy:od G y=some y') (hn:isEq op=some neg) (hd:P.underlying t=some d) (hk:KindOf k d) (hp:∀el,d=.pointer el→∃n,sizeOf? P el=some n∧n≠0)
 (hc:k=.ifc→(isConstO x||isConstO y)=true) (hr:evOp call (.o2 (.eqn neg k x' y')) fr e.h id=.ok v h'):OpS P o e a v h':=by
 have hr:(Option.rec .no (fun b=>.ok (.b (cd neg (!b) b)) e.h) (eqN k (ev x' fr) (ev y' fr)):R)=.ok v h':=hr
 have rx:=od_rel hf hg hx
 have ry:=od_rel hf hg hy
 cases hq:eqN k (ev x' fr) (ev y' fr) with
 |none=>rw[hq] at hr;exact absurd (show R.no=.ok v h' from hr) (by simp)
 |some b=>
  rw[hq] at hr
  have hr:R.ok (.b (cd neg (!b) b)) e.h=.ok v h':=hr
  injection hr with h1 h2;subst h1 h2
  have key:∀u u',a.eval x=u→a.eval y=u'→Plainish u→Plainish u'→(u=.nilIface→u'=.nilIface→(isConstO x||isConstO y)=true)→(Op.equalIn (9999+1) t u u').run P e.w=.ok b e.w→
   OpS P o e a (.b (cd neg (!b) b)) e.h:=by
   intro u u' h1 h2 p1 p2 hcc hrun
   refine OpS.same hs (cv:=.bool (cd neg (!b) b)) ?_ (by simp[Rel])
   simp only[execOp,ho,h1,h2,Sem.run_bind,run_eqGuard_plain op t x y p1 p2 hcc,Result.andThen_ok,run_binOp_eq hn t p1 p2 e.w hrun,Sem.run_pure]
  have hcc:∀u u':Value,(u=nilV k∨NonNil k u)→(u'=nilV k∨NonNil k u')→u=.nilIface→u'=.nilIface→(isConstO x||isConstO y)=true:=by
   intro u u' hu _ he _
   apply hc
   subst he
   rcases hu with hu|hu
   ·cases k<;>simp[nilV] at hu;rfl
   ·cases k<;>simp[NonNil] at hu
  rcases eqN_inv hq with ⟨i,off,off',rfl,hxv,hyv,rfl⟩|⟨hxv,hyv⟩|⟨hxv,hyv⟩
  ·rw[hxv] at rx;rw[hyv] at ry
   obtain⟨el,rfl⟩:=hk
   obtain⟨n,hsz,hn0⟩:=hp el rfl
   refine key _ _ (rel_p rx).2 (rel_p ry).2 trivial trivial (fun h=>by simp at h) ?_
   rw[run_eq_same hd hsz hn0]
   congr 1
   exact decide_eq_decide.2 om
  ·have h1:=(isNil_inv rx hxv).1 rfl
   have h2:=isNil_inv ry hyv
   have he:=run_eq_nil hd hk e.w 9999
   cases b with
   |true=>exact key _ _ h1 (h2.1 rfl) (plain_nil k) (plain_nil k) (hcc _ _ (.inl rfl) (.inl rfl)) he.1
   |false=>exact key _ _ h1 rfl (plain_nil k) (plain_non (h2.2 rfl)) (hcc _ _ (.inl rfl) (.inr (h2.2 rfl))) (he.2 _ (h2.2 rfl)).1
  ·have h1:=(isNil_inv ry hyv).1 rfl
   have h2:=isNil_inv rx hxv
   have he:=run_eq_nil hd hk e.w 9999
   cases b with
   |true=>exact key _ _ (h2.1 rfl) h1 (plain_nil k) (plain_nil k) (hcc _ _ (.inl rfl) (.inl rfl)) he.1
   |false=>exact key _ _ rfl h1 (plain_non (h2.2 rfl)) (plain_nil k) (hcc _ _ (.inr (h2.2 rfl)) (.inl rfl)) (he.2 _ (h2.2 rfl)).2
end
end Go.Ev
namespace Go.Ev
section
variable {P:Program}{G:Gs}{o:Oper}{e:Env}{a:Act}{fr:T AV}{call:CallF}{id:Nat}{ao:AOp}{v:AV}{h':H}
def NumO (x:Option Value) (n:Option Nat):Prop:=(x=none∧n=none)∨∃k m,x=some (.int k (.ofNat m))∧n=some m
theorem optN_inv (hf:FrRel e fr a.tmps) (hg:GRel G e){x:Option Operand}{y:Option Od} (h:odo G x=some y){n:Option Nat} (hn:optN y fr=some n):NumO (x.map a.eval) n:=by
 cases x with
 |none=>
  simp only[odo,Oj] at h;subst h
  simp only[optN,Oj] at hn;subst hn
  exact .inl ⟨rfl,rfl⟩
 |some x=>
  simp only[odo] at h
  obtain⟨z,hz,rfl⟩:=map_inv h
  have hn:(Option.rec none (fun n=>some (some n)) (asN (ev z fr)):Option (Option Nat))=some n:=hn
  cases hm:asN (ev z fr) with
  |none=>rw[hm] at hn;cases hn
  |some m=>
   rw[hm] at hn
   obtain rfl:=Oi (show some (some m)=some n from hn)
   obtain⟨k,hk⟩:=asN_inv hm
   have:=od_rel hf hg hz
   rw[hk] at this
   exact .inr ⟨k,m,by rw[Option.map_some,rel_i this],rfl⟩
theorem run_sliceBound' (k:IntKind) (i y:Nat) (code:BoundsCode) (h:i≤y) (w:World):(Instr.sliceBound (.int k (.ofNat i)) y code).run P w=.ok i w:=by
 have h1:(0:Int)≤J i∧J i≤(y:Int):=by simp only[Ioz];omega
 simp only[Instr.sliceBound,asIntOf,Sem.run_bind,Sem.run_pure,Result.andThen_ok,h1,and_self,if_true]
 rfl
theorem run_sliceBoundC (k:IntKind) (i y:Nat) (code:BoundsCode) (h:i≤y) (w:World):(Instr.sliceBound (.int k (i:Int)) y code).run P w=.ok i w:=run_sliceBound' k i y code h w
theorem run_sliceBounds {isS:Bool}{n cap:Nat}{lo hi mx:Option Value}{lo' hi' mx':Option Nat} (hlo:NumO lo lo') (hhi:NumO hi hi') (hmx:NumO mx mx') (hm:hi'=none→mx'=none)
 (h1:orN lo' 0≤orN hi' n) (h2:hi'=none∨orN hi' n≤orN mx' cap) (h3:orN mx' cap≤cap) (w:World):
 (Instr.sliceBounds isS n cap lo hi mx).run P w=.ok (orN lo' 0,orN hi' n,orN mx' cap) w:=by
 rcases hmx with ⟨rfl,rfl⟩|⟨km,m,rfl,rfl⟩
 ·rcases hhi with ⟨rfl,rfl⟩|⟨kh,h,rfl,rfl⟩
  ·rcases hlo with ⟨rfl,rfl⟩|⟨kl,l,rfl,rfl⟩
   ·simp[Instr.sliceBounds,orN]
   ·have h1:l≤n:=h1
    simp[Instr.sliceBounds,orN,run_sliceBoundC kl l n _ h1]
  ·have h2:h≤cap:=by rcases h2 with h2|h2;·cases h2
                     ·exact h2
   rcases hlo with ⟨rfl,rfl⟩|⟨kl,l,rfl,rfl⟩
   ·simp[Instr.sliceBounds,orN,run_sliceBoundC kh h cap _ h2]
   ·have h1:l≤h:=h1
    simp[Instr.sliceBounds,orN,run_sliceBoundC kh h cap _ h2,run_sliceBoundC kl l h _ h1]
 ·have h3:m≤cap:=h3
  rcases hhi with ⟨rfl,rfl⟩|⟨kh,h,rfl,rfl⟩
  ·cases hm rfl
  ·have h2:h≤m:=by rcases h2 with h2|h2;·cases h2
                   ·exact h2
   rcases hlo with ⟨rfl,rfl⟩|⟨kl,l,rfl,rfl⟩
   ·simp[Instr.sliceBounds,orN,run_sliceBoundC km m cap _ h3,run_sliceBoundC kh h m _ h2]
   ·have h1:l≤h:=h1
    simp[Instr.sliceBounds,orN,run_sliceBoundC km m cap _ h3,run_sliceBoundC kh h m _ h2,run_sliceBoundC kl l h _ h1]
theorem run_slice_of {t el:TypeId}{sz:Nat} (hd:P.underlying t=some (.slice el)) (hsz:sizeOf? P el=some sz){ad:Option Addr}{n cap:Nat}{lo hi mx:Option Value}{b c m:Nat}{w:World}
 (hb:(Instr.sliceBounds true n cap lo hi mx).run P w=.ok (b,c,m) w):
 (Instr.sliceAt t (.slice ad n cap) lo hi mx).run P w=.ok (.slice (if m=b then ad else ad.map (·.add (b*sz))) (c - b) (m - b)) w:=by
 simp[Instr.sliceAt,Instr.slice,run_underlying hd,hb,run_size hsz]
theorem run_slice_str {t:TypeId} (hd:P.underlying t=some .string){s:ByteArray}{lo hi:Option Value}{b c m:Nat}{w:World}
 (hb:(Instr.sliceBounds false s.size s.size lo hi none).run P w=.ok (b,c,m) w):
 (Instr.sliceAt t (.string s) lo hi none).run P w=.ok (.string (s.extract b c)) w:=by
 simp[Instr.sliceAt,Instr.slice,run_underlying hd,hb]
theorem NumO.none_of {x:Option Value} (h:NumO x none):x=none:=by
 rcases h with ⟨h,_⟩|⟨_,_,_,h⟩
 ·exact h
 ·cases h
theorem ble_true {m n:Nat} (h:Nat.ble m n=true):m≤n:=Nb h
theorem beq_true {m n:Nat} (h:Nat.beq m n=true):m=n:=Nq h
theorem rel_slice {i:Id}{off sz n cl:Nat}{ex:Bool}{cv:Value} (hr:Rel e (.sl i off sz n cl ex) cv) (b c:Nat) (hb:b≤c) (hc:c≤cl):
 ∃ad cap,cv=.slice ad n cap∧cl≤cap∧Rel e (.sl i (Nat.add off (Nat.mul b sz)) sz (Nat.sub c b) (Nat.sub cl b) ex) (.slice (if cap=b then ad else ad.map (·.add (b*sz))) (c - b) (cap - b)):=by
 simp only[Rel] at hr
 obtain⟨kn,ad,cap,hv,h1,h2,h3,h4⟩:=hr
 refine⟨ad,cap,hv,h2,?_⟩
 simp only[Rel,Nat.add_eq,Nat.mul_eq,Nat.sub_eq]
 by_cases hcb:cap=b
 ·refine⟨kn,ad,cap - b,by simp[hcb],om,om,fun h=>by rw[h3 h],.inl om⟩
 ·rcases h4 with h4|⟨h4,h5⟩
  ·omega
  ·subst h4
   refine⟨kn,_,cap - b,by rw[if_neg hcb],om,om,fun h=>by rw[h3 h],.inr ⟨by show some (Addr.add _ _)=_;rw[Addr.add_none];simp[Nat.add_assoc],?_⟩⟩
   have:(cap - b)*sz+b*sz=cap*sz:=by rw[←Nat.add_mul];congr 1;omega
   omega
theorem rel_slice3 {i:Id}{off sz n cl:Nat}{ex:Bool}{cv:Value} (hr:Rel e (.sl i off sz n cl ex) cv) (b c m:Nat) (hb:b≤c) (hc:c≤m) (hm:m≤cl) (hne:m≠b):
 ∃ad cap,cv=.slice ad n cap∧cl≤cap∧Rel e (.sl i (Nat.add off (Nat.mul b sz)) sz (Nat.sub c b) (Nat.sub m b) true) (.slice (if m=b then ad else ad.map (·.add (b*sz))) (c - b) (m - b)):=by
 simp only[Rel] at hr
 obtain⟨kn,ad,cap,hv,h1,h2,h3,h4⟩:=hr
 refine⟨ad,cap,hv,h2,?_⟩
 simp only[Rel,Nat.add_eq,Nat.mul_eq,Nat.sub_eq]
 rcases h4 with h4|⟨h4,h5⟩
 ·omega
 ·subst h4
  refine⟨kn,_,m - b,by rw[if_neg hne],om,om,fun _=>rfl,.inr ⟨by show some (Addr.add _ _)=_;rw[Addr.add_none];simp[Nat.add_assoc],?_⟩⟩
  have h6:(m - b)*sz+b*sz=m*sz:=by rw[←Nat.add_mul];congr 1;omega
  have h7:m*sz≤cap*sz:=Nat.mul_le_mul_right _ om
  omega
theorem sound_slc {t:TypeId}{x:Operand}{l h m:Option Operand}{k:SK}{x':Od}{l' h2 m':Option Od} (hs:St e) (hf:FrRel e fr a.tmps) (hg:GRel G e) (ho:o.op=.slice t x l h m)
 (hk:skOf P t=some k) (hx:od G x=some x') (hl:odo G l=some l') (hh:odo G h=some h2) (hm:odo G m=some m') (hhm:h=none→m=none)
 (hr:evOp call (.slc k x' l' h2 m') fr e.h id=.ok v h'):OpS P o e a v h':=by
 have hr:(match optN l' fr,optN h2 fr,optN m' fr with
  |some lo,some hi,some mx=>okV e.h (sliceA k (ev x' fr) lo hi mx)
  |_,_,_=>.no:R)=.ok v h':=hr
 have rx:=od_rel hf hg hx
 split at hr
 ·rename_i lo hi mx hlo hhi hmx
  have nlo:=optN_inv hf hg hl hlo
  have nhi:=optN_inv hf hg hh hhi
  have nmx:=optN_inv hf hg hm hmx
  obtain⟨hq,rfl⟩:=okV_inv hr
  have HM:hi=none→mx=none:=by
   intro hn
   subst hn
   have h0:=nhi.none_of
   have:h=none:=by cases h<;>simp_all
   rw[hhm this] at nmx
   rcases nmx with ⟨_,h⟩|⟨_,_,h,_⟩
   ·exact h
   ·cases h
  have hex:∀cv cv',a.eval x=cv→(Instr.sliceAt t cv (l.map a.eval) (h.map a.eval) (m.map a.eval)).run P e.w=.ok cv' e.w→Rel e v cv'→OpS P o e a v e.h:=by
   intro cv cv' h1 h2 h3
   refine OpS.same hs (cv:=cv') ?_ h3
   simp[execOp,ho,h1,h2]
  unfold skOf at hk
  obtain⟨d,hd,hk⟩:=bind_inv hk
  generalize ev x' fr=u at hq rx
  split at hk
  ·
   simp only[Oj] at hk;subst hk
   cases u<;>(try (cases hq;done))
   rename_i n ls
   cases mx with
   |some m=>cases hq
   |none=>
    have hq:sliceS n ls (orN lo 0) (orN hi n)=some v:=hq
    obtain⟨h1,hq⟩:=cd_some hq
    obtain⟨h2,hq⟩:=cd_some hq
    have h1:=ble_true h1
    have h2:=ble_true h2
    cases hc:cut ls (orN lo 0) (Nat.sub (orN hi n) (orN lo 0)) with
    |none=>rw[hc] at hq;cases hq
    |some r=>
     rw[hc] at hq
     obtain rfl:=Oi (show some _=some v from hq)
     have hB:=rel_sB rx
     obtain⟨hn,h256,rx⟩:=rel_s rx
     have hsz:(strOf ls).size=n:=by rw[strOf_size,hn]
     have hb:=run_sliceBounds (P:=P) (isS:=false) (n:=n) (cap:=n) nlo nhi nmx (fun _=>rfl) h2 (.inr (by simpa[orN] using h1)) (by simp[orN]) e.w
     rw[nmx.none_of] at hb
     refine hex _ (.string ((strOf ls).extract (orN lo 0) (orN hi n))) rx ?_ ?_
     ·rw[nmx.none_of]
      exact run_slice_str hd (by rw[hsz];exact hb)
     ·obtain⟨hrl,hget⟩:=cut_get hc
      have hre:r=(ls.drop (orN lo 0)).take (orN hi n - orN lo 0):=by
       rcases cut_some _ _ _ _ hc with ⟨h,_⟩|⟨h,h'⟩
       ·exact h
       ·rw[h'];have:orN hi n - orN lo 0=0:=h
        rw[this];simp
      have hext:(strOf ls).extract (orN lo 0) (orN hi n)=strOf r:=by
       rw[hre,←strOf_extract _ _ _ om]
       congr 1;omega
      rw[hext]
      simp only[Rel,and_true]
      refine⟨⟨hrl.symm,by have:Nat.sub (orN hi n) (orN lo 0)=orN hi n - orN lo 0:=rfl;omega⟩,fun c hc=>?_⟩
      rw[hre] at hc
      exact h256 c (List.mem_of_mem_drop (List.mem_of_mem_take hc))
  ·
   rename_i el
   obtain⟨sz,hsz,rfl⟩:=map_inv hk
   cases u with
   |v y=>
    have hy:y=.slice none 0 0∧slice0 (.v (.slice none 0 0)) (orN lo 0) (orN hi 0) (orN mx 0)=some v:=by
     cases y with
     |slice ad n c=>
      cases ad with
      |some _=>cases hq
      |none=>
       cases n with
       |succ n=>cases hq
       |zero=>cases c with
        |succ c=>cases hq
        |zero=>exact⟨rfl,hq⟩
     |_=>cases hq
    obtain⟨rfl,hq⟩:=hy
    obtain⟨h1,hq⟩:=cd_some hq
    obtain⟨h2,hq⟩:=cd_some hq
    obtain⟨h3,hq⟩:=cd_some hq
    obtain rfl:=Oi hq
    have h1:=beq_true h1;have h2:=beq_true h2;have h3:=beq_true h3
    have rx':a.eval x=.slice none 0 0:=by simp only[Rel] at rx;exact rx.1
    have hb:=run_sliceBounds (P:=P) (isS:=true) (n:=0) (cap:=0) nlo nhi nmx HM (by rw[h1];exact Nz _) (.inr (by rw[h2];exact Nz _)) (by rw[h3];exact Nr _) e.w
    rw[h1,h2,h3] at hb
    refine hex _ _ rx' (run_slice_of hd hsz hb) ?_
    simp[Rel,nilish]
   |em=>
    obtain⟨h1,hq⟩:=cd_some (show slice0 .em (orN lo 0) (orN hi 0) (orN mx 0)=some v from hq)
    obtain⟨h2,hq⟩:=cd_some hq
    obtain⟨h3,hq⟩:=cd_some hq
    obtain rfl:=Oi hq
    have h1:=beq_true h1;have h2:=beq_true h2;have h3:=beq_true h3
    simp only[Rel] at rx
    obtain⟨ad,rx'⟩:=rx
    have hb:=run_sliceBounds (P:=P) (isS:=true) (n:=0) (cap:=0) nlo nhi nmx HM (by rw[h1];exact Nz _) (.inr (by rw[h2];exact Nz _)) (by rw[h3];exact Nr _) e.w
    rw[h1,h2,h3] at hb
    refine hex _ _ rx' (run_slice_of hd hsz hb) ?_
    simp only[Rel]
    exact⟨ad,by simp⟩
   |sl i off sz' n cl ex=>
    obtain⟨hze,hq2⟩:=cd_some (show cd (Nat.beq sz sz') _ none=some v from hq)
    clear hq
    obtain rfl:=beq_true hze
    have hq:=hq2
    clear hq2
    cases mx with
    |none=>
     have hq:slice2 i off sz cl ex (orN lo 0) (orN hi n)=some v:=hq
     obtain⟨h1,hq⟩:=cd_some hq
     obtain⟨h2,hq⟩:=cd_some hq
     have h1:=ble_true h1;have h2:=ble_true h2
     obtain rfl:=Oi hq
     obtain⟨ad,cap,hv,hcc,hrel⟩:=rel_slice rx _ _ h2 h1
     have hb:=run_sliceBounds (P:=P) (isS:=true) (n:=n) (cap:=cap) nlo nhi nmx (fun _=>rfl) h2 (.inr (by show _≤cap;omega)) (by simp[orN]) e.w
     have hor:orN none cap=cap:=rfl
     rw[hor] at hb
     exact hex _ _ hv (run_slice_of hd hsz hb) hrel
    |some m3=>
     cases hi with
     |none=>cases hq
     |some e3=>
      have hq:slice3 i off sz cl (orN lo 0) e3 m3=some v:=hq
      obtain⟨h1,hq⟩:=cd_some hq
      obtain⟨h2,hq⟩:=cd_some hq
      obtain⟨h3,hq⟩:=cd_some hq
      have h1:=ble_true h1;have h2:=ble_true h2;have h3:=ble_true h3
      by_cases hmb:m3=orN lo 0
      ·rw[hmb,cd_eq,beq_nat] at hq
       simp only[decide_true,if_true,Oj] at hq;subst hq
       simp only[Rel] at rx
       obtain⟨kn,ad,cap,hv,g1,g2,g3,g4⟩:=rx
       have hb:=run_sliceBounds (P:=P) (isS:=true) (n:=n) (cap:=cap) nlo nhi nmx (fun h=>by cases h) h3 (.inr h2) (by show m3≤cap;omega) e.w
       refine hex _ _ hv (run_slice_of hd hsz hb) ?_
       simp only[Rel]
       refine⟨ad,?_⟩
       have e1:orN (some m3) cap=m3:=rfl
       have e2:orN (some e3) n=e3:=rfl
       rw[e1,e2,if_pos hmb]
       congr 1<;>omega
      ·rw[cd_eq,beq_nat] at hq
       simp only[hmb,decide_false,Bool.false_eq_true,if_false,Oj] at hq;subst hq
       obtain⟨ad,cap,hv,hcc,hrel⟩:=rel_slice3 rx _ _ _ h3 h2 h1 hmb
       have hb:=run_sliceBounds (P:=P) (isS:=true) (n:=n) (cap:=cap) nlo nhi nmx (fun h=>by cases h) h3 (.inr h2) (by show m3≤cap;omega) e.w
       exact hex _ _ hv (run_slice_of hd hsz hb) hrel
   |isl ty xs=>
    obtain⟨hze,hq2⟩:=cd_some (show cd (Nat.beq sz (wd ty)) _ none=some v from hq)
    clear hq
    obtain rfl:=beq_true hze
    have hq:=hq2
    clear hq2
    rcases rel_isl.1 rx with ⟨hxs0,rx'⟩|⟨ad,cap,hv,hcap,hB,hxs⟩
    ·subst hxs0
     have key:orN lo 0=0→orN hi 0=0→orN mx 0=0→v=.isl ty []→OpS P o e a v e.h:=fun h1 h2 h3 h4=>by
      subst h4
      have hb:=run_sliceBounds (P:=P) (isS:=true) (n:=0) (cap:=0) nlo nhi nmx HM (by rw[h1];exact Nz _) (.inr (by rw[h2];exact Nz _)) (by rw[h3];exact Nr _) e.w
      rw[h1,h2,h3] at hb
      refine hex _ _ rx' (run_slice_of hd hsz hb) ?_
      exact rel_isl.2 (.inl ⟨rfl,by simp⟩)
     cases mx with
     |none=>
      obtain⟨h1,hq⟩:=cd_some (show cd (Nat.ble (orN hi 0) 0) _ none=some v from hq)
      obtain⟨h2,hq⟩:=cd_some hq
      have h1:=ble_true h1;have h2:=ble_true h2
      obtain rfl:=Oi hq
      have h1:orN hi 0=0:=om
      exact key (by have:orN hi ([]:List (den ty)).length=orN hi 0:=rfl;omega) h1 rfl (by simp)
     |some m3=>
      cases hi with
      |none=>cases hq
      |some e3=>
       obtain⟨h1,hq⟩:=cd_some (show cd (Nat.ble m3 0) _ none=some v from hq)
       obtain⟨h2,hq⟩:=cd_some hq
       obtain⟨h3,hq⟩:=cd_some hq
       obtain⟨h4,hq⟩:=cd_some hq
       have h1:=ble_true h1;have h2:=ble_true h2;have h3:=ble_true h3;have h4:=beq_true h4
       obtain rfl:=Oi hq
       exact key om (by show e3=0;omega) (by show m3=0;omega) rfl
    cases mx with
    |none=>
     obtain⟨h1,hq⟩:=cd_some (show cd (Nat.ble (orN hi xs.length) xs.length) _ none=some v from hq)
     obtain⟨h2,hq⟩:=cd_some hq
     have h1:=ble_true h1;have h2:=ble_true h2
     obtain rfl:=Oi hq
     have hb:=run_sliceBounds (P:=P) (isS:=true) (n:=xs.length) (cap:=cap) nlo nhi nmx (fun _=>rfl) h2 (.inr (by show _≤cap;omega)) (by simp[orN]) e.w
     have hor:orN none cap=cap:=rfl
     rw[hor] at hb
     refine hex _ _ hv (run_slice_of hd hsz hb) ?_
     generalize orN lo 0=b at h2 hb⊢
     generalize orN hi xs.length=c at h1 h2 hb⊢
     refine rel_isl.2 ?_
     have hlen:((xs.take c).drop b).length=c - b:=by simp;omega
     rw[hlen]
     by_cases hcb:cap=b
     ·refine .inr ⟨ad,cap - b,by simp[hcb],om,om,.inl ?_⟩
      apply List.eq_nil_of_length_eq_zero;omega
     ·refine .inr ⟨ad.add (b*wd ty),cap - b,by rw[if_neg hcb];rfl,om,om,?_⟩
      rcases hxs with hxs|⟨hsp,hi2,hrw⟩
      ·left;subst hxs;simp
      ·right
       have had:ad=⟨ad.block,ad.off,none⟩:=by cases ad;simp_all
       rw[had,Addr.add_none]
       refine⟨rfl,hi2,fun i x hx=>?_⟩
       rw[List.getElem?_drop,List.getElem?_take] at hx
       split at hx
       ·obtain⟨us,g1,g2⟩:=hrw _ _ hx
        refine⟨us,?_,g2⟩
        rw[show ad.off+b*wd ty+i*wd ty=ad.off+(b+i)*wd ty by rw[Nat.add_mul];omega];exact g1
       ·cases hx
    |some m3=>
     cases hi with
     |none=>cases hq
     |some e3=>
      obtain⟨h1,hq⟩:=cd_some (show cd (Nat.ble m3 xs.length) _ none=some v from hq)
      obtain⟨h2,hq⟩:=cd_some hq
      obtain⟨h3,hq⟩:=cd_some hq
      obtain⟨h4,hq⟩:=cd_some hq
      have h1:=ble_true h1;have h2:=ble_true h2;have h3:=ble_true h3;have h4:=beq_true h4
      obtain rfl:=Oi hq
      have hb:=run_sliceBounds (P:=P) (isS:=true) (n:=xs.length) (cap:=cap) nlo nhi nmx (fun h=>by cases h) h3 (.inr h2) (by show m3≤cap;omega) e.w
      refine hex _ _ hv (run_slice_of hd hsz hb) ?_
      have e1:orN (some m3) cap=m3:=rfl
      have e2:orN (some e3) xs.length=e3:=rfl
      rw[e1,e2,if_pos h4,show e3 - orN lo 0=0 by omega,show m3 - orN lo 0=0 by omega]
      cases xs with
      |nil=>exact rel_isl.2 (.inr ⟨ad,0,rfl,by simp,by simp,.inl rfl⟩)
      |cons=>show Rel e .em _;simp only[Rel];exact⟨ad,rfl⟩
   |_=>cases hq
  ·obtain⟨sz,hsz,rfl⟩:=map_inv hk
   cases u<;>cases hq
  ·cases hk
 ·exact absurd hr (by simp)
end
end Go.Ev
namespace Go.Ev
theorem live_known {e:Env} (hs:St e){id:Id} (l:live e.h id):known e id:=let⟨b,hb,_⟩:=l;hs.dk id b hb
theorem bsize_congr {w w':World}{b:Nat} (h:w'.heap[b]? =w.heap[b]?):bsize w' b=bsize w b:=by unfold bsize;rw[h]
theorem St.next {e e':Env} (hs:St e) (x:Ext e e') (i:Id) (hi:∀b,e'.h.get i=some b→BlkRel e' i b)
 (hother:∀id,id≠i→e'.h.get id=e.h.get id) (hρ:∀id,id≠i→e'.ρ id=e.ρ id) (hkn:known e' i∧(∃k,k<e'.h.next∧i=path k)∧∃b,e'.h.get i=some b)
 (hheap:∀id,id≠i→live e.h id→e'.w.heap[(e.ρ id).1]? =e.w.heap[(e.ρ id).1]?)
 (hinj:live e'.h i→∀id,id≠i→live e.h id→(e.ρ id).1≠(e'.ρ i).1):St e' where
 kn:=fun id hk=>by
  by_cases h:id=i
  ·subst h
   obtain⟨k,hk,he⟩:=hkn.2.1
   exact⟨k,hk,he,fun _=>hkn.2.2⟩
  ·have hk:known e id:=by unfold known at hk⊢;rw[←hρ id h];exact hk
   obtain⟨k,hk,he,hp⟩:=hs.kn id hk
   exact⟨k,Nl hk x.next,he,fun hl=>by rw[hother id h];rw[x.fr] at hl;exact hp hl⟩
 dk:=fun id b hb=>by
  by_cases h:id=i
  ·subst h;exact hkn.1
  ·rw[hother id h] at hb
   exact x.kn id (hs.dk id b hb)
 lo:=by rw[x.fr];exact Nt hs.lo x.next
 blk:=fun id b hb=>by
  by_cases h:id=i
  ·subst h;exact hi b hb
  ·rw[hother id h] at hb
   by_cases hd:b=.dead
   ·subst hd;trivial
   ·exact BlkRel.ext x (hs.dk id b hb) (hheap id h ⟨b,hb,hd⟩) b (hs.blk id b hb)
 inj:=fun id id' l l' he=>by
  have lv:∀j,j≠i→live e'.h j→live e.h j:=fun j hj ⟨b,hb,hd⟩=>⟨b,by rw[hother j hj] at hb;exact hb,hd⟩
  by_cases h:id=i
  ·by_cases h':id'=i
   ·rw[h,h']
   ·subst h
    have l2:=lv id' h' l'
    rw[x.ren id' (live_known hs l2)] at he
    exact absurd he.symm (hinj l id' h' l2)
  ·by_cases h':id'=i
   ·subst h'
    have l2:=lv id h l
    rw[x.ren id (live_known hs l2)] at he
    exact absurd he (hinj l' id h l2)
   ·have l2:=lv id h l
    have l2':=lv id' h' l'
    rw[x.ren id (live_known hs l2),x.ren id' (live_known hs l2')] at he
    exact hs.inj id id' l2 l2' he
 fr:=fun b hb=>by
  rw[x.fr] at hb
  obtain⟨h1,h2⟩:=hs.fr b hb
  exact⟨Nl h1 x.heap,fun h=>h2 (x.own b h1 h)⟩
theorem put_pres (h:H) (i:Id) (c:Blk) (id:Id) (b:Blk) (hb:h.get id=some b):∃b',(h.put i c).get id=some b':=by
 rw[H.get_put]
 by_cases hi:id=i
 ·exact⟨c,if_pos hi⟩
 ·exact⟨b,by rw[if_neg hi];exact hb⟩
def Env.alloc (e:Env) (n:Nat) (o:Obj) (b:Blk):Env:=
 ⟨fun id=>if id=path n then(e.w.heap.size,0) else e.ρ id,e.h.put (path n) b,e.w.alloc o,e.F⟩
theorem alloc_ext {e:Env} (hs:St e){n:Nat} (hf:¬known e (path n)) (o:Obj) (b:Blk):Ext e (e.alloc n o b) where
 next:=Nr _
 kn:=fun id hk=>by
  show(if id=path n then(e.w.heap.size,0) else e.ρ id).2=0
  by_cases h:id=path n
  ·rw[if_pos h]
  ·rw[if_neg h];exact hk
 ren:=fun id hk=>by
  show(if id=path n then _ else _)=_
  rw[if_neg]
  intro h;subst h;exact hf hk
 fr:=rfl
 qt:=⟨rfl,rfl,rfl⟩
 heap:=by show _≤(e.w.alloc o).heap.size;simp
 keep:=fun b' hb' _=>heap_alloc_old _ _ _ hb'
 size:=fun b' hb'=>bsize_congr (heap_alloc_old _ _ _ hb')
 own:=fun b' hb' ⟨id,⟨c,hc,hd⟩,hid⟩=>by
  have hc:(e.h.put (path n) b).get id=some c:=hc
  rw[H.get_put] at hc
  have hid:(if id=path n then(e.w.heap.size,0) else e.ρ id).1=b':=hid
  by_cases h:id=path n
  ·rw[if_pos h] at hid;simp at hid;omega
  ·rw[if_neg h] at hc hid
   exact⟨id,⟨c,hc,hd⟩,hid⟩
 pres:=put_pres _ _ _
 newk:=fun id hk=>by
  have hk:(if id=path n then(e.w.heap.size,0) else e.ρ id).2=0:=hk
  by_cases h:id=path n
  ·exact .inr ⟨b,by show(e.h.put (path n) b).get id=_;rw[H.get_put,if_pos h]⟩
  ·rw[if_neg h] at hk;exact .inl hk
theorem alloc_st {e:Env} (hs:St e){n:Nat} (hn:n<e.h.next) (hf:¬known e (path n)) (o:Obj) (b:Blk) (hb:BlkRel (e.alloc n o b) (path n) b):St (e.alloc n o b):=by
 refine St.next hs (alloc_ext hs hf o b) (path n) ?_ ?_ (fun id h=>if_neg h) ⟨?_,⟨n,hn,rfl⟩,⟨b,?_⟩⟩ ?_ ?_
 ·intro b' hb'
  have hb':(e.h.put (path n) b).get (path n)=some b':=hb'
  rw[H.get_put,if_pos rfl] at hb'
  obtain rfl:=Oi hb'
  exact hb
 ·intro id h
  show(e.h.put (path n) b).get id=_
  rw[H.get_put,if_neg h]
 ·show(if path n=path n then(e.w.heap.size,0) else e.ρ (path n)).2=0
  rw[if_pos rfl]
 ·show(e.h.put (path n) b).get (path n)=_
  rw[H.get_put,if_pos rfl]
 ·intro id _ l
  exact heap_alloc_old _ _ _ (hs.lt l)
 ·intro _ id _ l
  have:=hs.lt l
  show _≠(if path n=path n then(e.w.heap.size,0) else e.ρ (path n)).1
  rw[if_pos rfl]
  simp only;omega
theorem alloc_cells' {e:Env} (hs:St e){n:Nat} (hf:¬known e (path n)) (el:TypeId){l:List AV}{vs:List Value} (hl:RelL e l vs) (ho:∀x∈l,one x=true)
 (c:Array Value) (frz:Nat×Nat) (hfr:∀o,frz.1≤o→o<frz.2→c.size≤o) (hc:l.length≤c.size) (hcv:∀(j:Nat) (v:Value),vs[j]? =some v→c[j]? =some v):BlkRel (e.alloc n (.cells c el frz) (.cs el l false)) (path n) (.cs el l false):=by
 have x:=alloc_ext hs hf (.cells c el frz) (.cs el l false)
 have hr:(e.alloc n (.cells c el frz) (.cs el l false)).ρ (path n)=(e.w.heap.size,0):=if_pos rfl
 simp only[BlkRel,hr]
 refine⟨c,frz,heap_alloc_new _ _,by simpa using hc,fun j y hy=>⟨ho y (List.mem_of_getElem? hy),?_⟩,fun _=>hfr,trivial⟩
 obtain⟨v,hv,hrv⟩:=hl.get hy
 exact⟨v,by simpa using hcv j v hv,Rel.ext x _ _ hrv⟩
theorem alloc_cells {e:Env} (hs:St e){n:Nat} (hf:¬known e (path n)) (el:TypeId){l:List AV}{vs:List Value} (hl:RelL e l vs) (ho:∀x∈l,one x=true)
 (c:Array Value) (hc:l.length≤c.size) (hcv:∀(j:Nat) (v:Value),vs[j]? =some v→c[j]? =some v):BlkRel (e.alloc n (.cells c el) (.cs el l false)) (path n) (.cs el l false):=
 alloc_cells' hs hf el hl ho c (0,0) (fun o h1 h2=>absurd h2 (Nn _)) hc hcv
def Env.bump (e:Env) (k:Nat):Env:=⟨e.ρ,⟨e.h.next+k,e.h.t⟩,e.w,e.F⟩
theorem bump_ext (e:Env) (k:Nat):Ext e (e.bump k):=
 ⟨Nat.le_add_right _ _,fun _ h=>h,fun _ _=>rfl,rfl,Nr _,fun _ _ _=>rfl,fun _ _=>rfl,fun _ _ h=>h,fun _ b h=>⟨b,h⟩,fun _ h=>.inl h,⟨rfl,rfl,rfl⟩⟩
theorem bump_st {e:Env} (hs:St e) (k:Nat):St (e.bump k) where
 kn:=fun id hk=>let⟨j,hj,he,hp⟩:=hs.kn id hk;⟨j,Nl hj (Nat.le_add_right _ _),he,hp⟩
 dk:=hs.dk
 lo:=Nt hs.lo (Nat.le_add_right _ _)
 blk:=fun id b hb=>BlkRel.ext (bump_ext e k) (hs.dk id b hb) rfl b (hs.blk id b hb)
 inj:=hs.inj
 fr:=hs.fr
theorem fresh_none {e:Env} (hs:St e):¬known e (path e.h.next):=by
 intro h
 obtain⟨k,hk,he,_⟩:=hs.kn _ h
 have:=path_inj he
 omega
theorem aside_none {e:Env} (hs:St e){n:Nat} (hlo:e.F.lo≤n) (hf:e.h.get (path n)=none):¬known e (path n):=by
 intro h
 obtain⟨k,hk,he,hp⟩:=hs.kn _ h
 have:=path_inj he
 subst this
 obtain⟨b,hb⟩:=hp hlo
 rw[hf] at hb;cases hb
theorem setRow_bsize (w:World) (g:Nat) (old cs:Array Value) (t:TypeId) (fr:Nat×Nat) (hg:w.heap[g]? =some (.cells old t fr)) (hc:cs.size=old.size) (b:Nat):bsize (w.setRow g cs) b=bsize w b:=by
 by_cases h:b=g
 ·subst h;unfold bsize;rw[setRow_heap w b old cs t fr hg,hg];exact hc
 ·exact bsize_congr (setRow_other w g b cs h)
def Env.write (e:Env) (id:Id) (b:Blk) (cs:Array Value):Env:=⟨e.ρ,e.h.put id b,e.w.setRow (e.ρ id).1 cs,e.F⟩
theorem write_ext {e:Env}{id:Id}{el:TypeId}{l:List AV}{fz:Bool} (hid:e.h.get id=some (.cs el l fz)){old cs:Array Value}{fr:Nat×Nat}
 (hg:e.w.heap[(e.ρ id).1]? =some (.cells old el fr)) (hc:cs.size=old.size){el':TypeId}{l':List AV}{fz':Bool}:Ext e (e.write id (.cs el' l' fz') cs) where
 next:=Nr _
 kn:=fun _ h=>h
 ren:=fun _ _=>rfl
 fr:=rfl
 qt:=⟨rfl,rfl,rfl⟩
 heap:=by show _≤(e.w.setRow _ _).heap.size;simp
 keep:=fun b hb ho=>by
  apply setRow_other
  intro h
  exact ho ⟨id,⟨_,hid,by simp⟩,h.symm⟩
 size:=fun b _=>setRow_bsize _ _ _ _ _ _ hg hc b
 own:=fun b _ ⟨j,⟨c,hc',hd⟩,hj⟩=>by
  have hc':(e.h.put id (.cs el' l' fz')).get j=some c:=hc'
  rw[H.get_put] at hc'
  by_cases h:j=id
  ·subst h;exact⟨j,⟨_,hid,by simp⟩,hj⟩
  ·rw[if_neg h] at hc'
   exact⟨j,⟨c,hc',hd⟩,hj⟩
 pres:=put_pres _ _ _
 newk:=fun _ h=>.inl h
theorem write_st {e:Env} (hs:St e){id:Id}{el:TypeId}{l:List AV}{fz:Bool} (hid:e.h.get id=some (.cs el l fz)){old cs:Array Value}{fr:Nat×Nat}
 (hg:e.w.heap[(e.ρ id).1]? =some (.cells old el fr)) (hc:cs.size=old.size){el':TypeId}{l':List AV}{fz':Bool}
 (hb:BlkRel (e.write id (.cs el' l' fz') cs) id (.cs el' l' fz')):St (e.write id (.cs el' l' fz') cs):=by
 refine St.next hs (write_ext hid hg hc) id ?_ ?_ (fun _ _=>rfl) ⟨hs.dk id _ hid,hs.num hid,⟨.cs el' l' fz',?_⟩⟩ ?_ ?_
 ·intro b' hb'
  have hb':(e.h.put id (.cs el' l' fz')).get id=some b':=hb'
  rw[H.get_put,if_pos rfl] at hb'
  obtain rfl:=Oi hb'
  exact hb
 ·intro j h
  show(e.h.put id _).get j=_
  rw[H.get_put,if_neg h]
 ·show(e.h.put id _).get id=_
  rw[H.get_put,if_pos rfl]
 ·intro j hj l2
  apply setRow_other
  intro h
  exact hj (hs.inj j id l2 ⟨_,hid,by simp⟩ h)
 ·intro _ j hj l2 h
  exact hj (hs.inj j id l2 ⟨_,hid,by simp⟩ h)
def layA (c:Array Value) (o:Nat):List Value→Array Value
 |[]=>c
 |v::vs=>layA (c.setIfInBounds o v) (o+1) vs
theorem layA_size:∀(vs:List Value) (c:Array Value) (o:Nat),(layA c o vs).size=c.size
 |[],_,_=>rfl
 |v::vs,c,o=>by rw[layA,layA_size vs];simp
theorem layA_get:∀(vs:List Value) (c:Array Value) (o j:Nat),o+vs.length≤c.size→(layA c o vs)[j]? =if o≤j∧j<o+vs.length then vs[j - o]? else c[j]?
 |[],c,o,j,_=>by rw[if_neg (by simp)];rfl
 |v::vs,c,o,j,h=>by
  simp only[Lcz] at h
  rw[layA,layA_get vs _ _ _ (by simp;omega)]
  by_cases h1:o+1≤j∧j<o+1+vs.length
  ·rw[if_pos h1,if_pos (by simp;omega)]
   have:j - o=(j - (o+1))+1:=om
   rw[this];simp
  ·rw[if_neg h1]
   by_cases h2:j=o
   ·subst h2
    rw[if_pos (by simp),Array.getElem?_setIfInBounds_self_of_lt om]
    simp
   ·rw[if_neg (by simp;omega),Array.getElem?_setIfInBounds_ne om]
theorem setRow_id {w:World}{g:Nat}{c:Array Value}{t:TypeId}{fr:Nat×Nat} (hg:w.heap[g]? =some (.cells c t fr)):w.setRow g c=w:=by
 have hlt:g<w.heap.size:=(Array.getElem?_eq_some_iff.1 hg).1
 have hv:w.heap[g]=.cells c t fr:=(Array.getElem?_eq_some_iff.1 hg).2
 unfold World.setRow
 cases w with
 |mk heap tape drawn os output=>
  congr 1
  apply Array.ext
  ·simp
  ·intro k h1 h2
   simp only[Array.getElem_modify]
   split
   ·rename_i hk;subst hk;simp at hv;simp[hv]
   ·rfl
theorem run_storeCells_lay {P:Program} (g:Nat) (t:TypeId) (fr:Nat×Nat):∀(vs:List Value) (o i:Nat) (c:Array Value) (w:World),w.heap[g]? =some (.cells c t fr)→o+i+vs.length≤c.size→
 (∀v∈vs,v.oneCell'=true)→(∀j,j<vs.length→¬(fr.1≤o+i+j∧o+i+j<fr.2))→
 (storeCells ⟨g,o,none⟩ vs i).run P w=.ok () (w.setRow g (layA c (o+i) vs))
 |[],o,i,c,w,hg,_,_,_=>by
  simp only[storeCells,layA,setRow_id hg];rfl
 |v::vs,o,i,c,w,hg,hle,h1,hf=>by
  simp only[Lcz] at hle
  have hcell:w.cell? ⟨g,o+i,none⟩=some (c[o+i]'(by omega)):=by
   rw[cell_of_row _ _ _ _ _ _ hg];exact Aq om
  have hfz:w.frozen? ⟨g,o+i,none⟩=false:=by
   have:=hf 0 (by simp)
   simp only[Nat.add_zero] at this
   simp only[World.frozen?,hg]
   by_cases ha:fr.1≤o+i
   ·by_cases hb:o+i<fr.2
    ·exact absurd ⟨ha,hb⟩ this
    ·simp[hb]
   ·simp[ha]
  have hst:(store ((⟨g,o,none⟩:Addr).add i) v).run P w=.ok () (w.setRow g (c.setIfInBounds (o+i) v)):=by
   rw[Addr.add_none,run_store P w _ v _ (h1 v (by simp)),hcell]
   simp[hfz,setCell_eq_setRow w g (o+i) c t fr v hg]
  have ih:=run_storeCells_lay (P:=P) g t fr vs o (i+1) (c.setIfInBounds (o+i) v) (w.setRow g (c.setIfInBounds (o+i) v)) (setRow_heap w g c _ t _ hg) (by simp;omega) (fun x hx=>h1 x (by simp[hx])) (fun j hj=>by
   have:=hf (j+1) (by simp;omega)
   rw[show o+(i+1)+j=o+i+(j+1) by omega];exact this)
  simp only[storeCells,Sem.run_bind,hst,Result.andThen_ok,ih,setRow_setRow]
  rw[layA,Nat.add_assoc]
theorem cells_rel {e:Env}{x:AV}{cv:Value} (hr:Rel e x cv){cs:List AV} (h:x.cells=some cs):RelL e cs cv.cells.toList∧∀c∈cs,one c=true:=by
 have single:∀(y:AV),one y=true→Rel e y cv→cs=[y]→RelL e cs cv.cells.toList∧∀c∈cs,one c=true:=by
  intro y ho hr hcs
  have h1:=hr.one_cell ho
  subst hcs
  have:cv.cells=#[cv]:=by cases cv<;>simp[Value.oneCell'] at h1<;>rfl
  rw[this]
  refine⟨by simp only[RelL];exact⟨hr,trivial⟩,fun c hc=>?_⟩
  rw[List.mem_singleton.1 hc];exact ho
 cases x with
 |ag cs'=>
  obtain rfl:=Oi (show some cs'=some cs from h)
  simp only[Rel] at hr
  obtain⟨h1,vs,rfl,h2⟩:=hr
  exact⟨h2,h1⟩
 |tu _=>cases h
 |j=>cases h
 |_=>exact single _ rfl hr (Oi (show some _=some cs from h)).symm
theorem storeAt_inv {x:AV}{new:List AV}{h h':H} (hr:storeAt x new h=some h'):
 ∃i off el l fz l',x=.p i off∧h.get i=some (.cs el l fz)∧fz=false∧lay l off new=some l'∧h'=h.put i (.cs el l' fz):=by
 cases x with
 |p i off=>
  have hr:blkLay (h.get i) i off new h=some h':=hr
  cases hb:h.get i with
  |none=>rw[hb] at hr;cases hr
  |some b=>
   rw[hb] at hr
   cases b with
   |cs el l fz=>
    cases fz with
    |true=>cases hr
    |false=>
    have hr:(Option.rec none (fun l'=>some (h.put i (.cs el l' false))) (lay l off new):Option H)=some h':=hr
    cases hl:lay l off new with
    |none=>rw[hl] at hr;cases hr
    |some l'=>
     rw[hl] at hr
     exact⟨i,off,el,l,false,l',rfl,hb,rfl,hl,(Oi (show some _=some h' from hr)).symm⟩
   |mp es=>cases hr
   |it s p=>cases hr
   |dead=>cases hr
 |_=>cases hr
theorem store_both {P:Program}{e:Env} (hs:St e){x:AV}{cv:Value} (hx:Rel e x cv){new:List AV}{vs:List Value} (hn:RelL e new vs) (ho:∀c∈new,one c=true){h':H} (hr:storeAt x new e.h=some h') (hne:new≠[]):
 ∃ad w',cv=.pointer (some ad)∧(storeCells ad vs).run P e.w=.ok () w'∧St ⟨e.ρ,h',w',e.F⟩∧Ext e ⟨e.ρ,h',w',e.F⟩:=by
 obtain⟨i,off,el,l,fz,l',rfl,hg,hfz,hl,rfl⟩:=storeAt_inv hr
 obtain⟨kn,rfl⟩:=rel_p hx
 obtain⟨hl1,hl2,hl3⟩:=lay_some _ _ _ _ hl
 have hlen:=hn.len
 have hpos:0<new.length:=by cases new with
  |nil=>exact absurd rfl hne
  |cons _ _=>simp
 have hl2:=hl2 hpos
 obtain⟨c,fr,hc1,hc2,hc3,hc4,hc5⟩:=hs.blk i _ hg
 have hvone:∀v∈vs,v.oneCell'=true:=fun v hv=>by
  obtain⟨j,hj⟩:=List.mem_iff_getElem?.1 hv
  have hjl:j<new.length:=by have:=(List.getElem?_eq_some_iff.1 hj).1;omega
  obtain⟨u,hu,hru⟩:=hn.get (Lq hjl)
  rw[hj] at hu
  obtain rfl:=Oi hu
  exact hru.one_cell (ho _ (List.getElem_mem hjl))
 have hrun:=run_storeCells_lay (P:=P) (e.ρ i).1 el fr vs ((e.ρ i).2+off) 0 c e.w hc1 om hvone (fun j hj hh=>by
  have:=hc4 hfz _ hh.1 hh.2
  omega)
 have hsz:=layA_size vs c ((e.ρ i).2+off+0)
 have x:=write_ext (el':=el) (l':=l') (fz':=fz) hg hc1 hsz
 refine⟨_,_,rfl,hrun,?_,x⟩
 refine write_st hs hg hc1 hsz ?_
 refine⟨layA c ((e.ρ i).2+off+0) vs,fr,setRow_heap _ _ _ _ _ _ hc1,?_,fun j y hy=>?_,fun h o h1 h2=>by rw[hsz];exact hc4 h o h1 h2,hc5⟩
 ·rw[hsz,hl1];exact hc2
 ·have hget:=layA_get vs c ((e.ρ i).2+off+0) ((e.ρ i).2+j) om
  rw[hl3 j] at hy
  show one y=true∧∃v,(layA c _ vs)[(e.ρ i).2+j]? =some v∧_
  rw[hget]
  by_cases hin:off≤j∧j<off+new.length
  ·rw[if_pos hin] at hy
   rw[if_pos om]
   obtain⟨u,hu,hru⟩:=hn.get hy
   refine⟨ho y (List.mem_of_getElem? hy),u,?_,Rel.ext x _ _ hru⟩
   rw[←hu];congr 1;omega
  ·rw[if_neg hin] at hy
   rw[if_neg om]
   obtain⟨h1,u,hu,hru⟩:=hc3 j y hy
   exact⟨h1,u,hu,Rel.ext x _ _ hru⟩
end Go.Ev
end
